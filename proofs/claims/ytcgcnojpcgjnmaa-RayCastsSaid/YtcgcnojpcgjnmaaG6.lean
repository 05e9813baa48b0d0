import Derived.Test.YtcgcnojpcgjnmaaG0
import Derived.Test.YtcgcnojpcgjnmaaG2
import Derived.Test.YtcgcnojpcgjnmaaG5
namespace Go.Proofs.T1
open Go Go.Sx Go.Proofs
set_option maxRecDepth 100000
set_option linter.unusedVariables false
/-! tourney/tourref2.Body -/
noncomputable def tourref2_Body.code : Code := Func.cd Try.f17
def tourref2_Body.c1 (k : Nat) (a0 : V25) : Option (Bool) :=
  bnd (tourref2_coord k a0.1 58982400) fun y4 =>
  bif' y4
  (bnd (tourref2_coord k a0.2.1 268435456) fun y7 =>
   bif' y7
   (bnd (tourref2_between k a0.2.2.2.1 (-16777216) 16777216) fun y10 =>
    bif' y10
    (bnd (tourref2_between k a0.2.2.1 0 65535) fun y13 =>
     some (!y13))
    (some true))
   (some true))
  (some true)
def tourref2_Body.c2 (k : Nat) (a0 : V25) : Option (Bool) :=
  bnd (tourref2_between k a0.2.2.2.2.1 0 1099511627776) fun y18 =>
  bif' y18
  (bnd (tourref2_between k a0.2.2.2.2.2.1 0 1099511627776) fun y21 =>
   bif' y21
   (bnd (tourref2_between k a0.2.2.2.2.2.2.1 0 65536) fun y24 =>
    bif' y24
    (bnd (tourref2_between k a0.2.2.2.2.2.2.2.1 0 65536) fun y27 =>
     bif' y27
     (bnd (tourref2_between k a0.2.2.2.2.2.2.2.2.2.2.1 0 1000) fun y30 =>
      some (!y30))
     (some true))
    (some true))
   (some true))
  (some true)
def tourref2_Body.c3 (k : Nat) (a0 : V25) : Option (Bool) :=
  bif' (ine a0.2.1.1 0)
  (some true)
  (bif' (ine a0.2.1.2.1 0)
   (some true)
   (some (ine a0.2.2.2.1 0)))
def tourref2_Body.c4 (k : Nat) (a0 : V25) : Option (Bool) :=
  bif' (ieq a0.2.2.2.2.1 0)
  (some (igt a0.2.2.2.2.2.1 0))
  (some false)
def tourref2_Body.c5 (k : Nat) (a0 : V25) (o40 : Bool) : Option (Bool) :=
  bif' o40
  (some o40)
  (bif' (igt a0.2.2.2.2.1 0)
   (some (ieq a0.2.2.2.2.2.1 0))
   (some false))
def tourref2_Body.c6 (k : Nat) (a0 : V25) (o37 : Bool) : Option (Bool) :=
  bif' (ieq a0.2.2.2.2.1 0)
  (bif' o37
   (some true)
   (bif' a0.2.2.2.2.2.2.2.2.2.1
    (some true)
    (some (igt a0.2.2.2.2.2.2.2.2.2.2.1 0))))
  (some false)
def tourref2_Body.c7 (k : Nat) (a0 : V25) (o37 : Bool) : Option (Bool) :=
  bif' a0.2.2.2.2.2.2.2.2.2.1
  (some o37)
  (some false)
def tourref2_Body (k : Nat) (a0 : V25) : Option Int :=
  bnd (tourref2_Corners k a0.2.2.2.2.2.2.2.2.1) fun y1 =>
  bif' (ine y1 0)
  (some y1)
  (bnd (tourref2_Body.c1 k a0) fun o15 =>
   bif' o15
   (some 1)
   (bnd (tourref2_Body.c2 k a0) fun o32 =>
    bif' o32
    (some 1)
    (bnd (tourref2_Body.c3 k a0) fun o37 =>
     bnd (tourref2_Body.c4 k a0) fun o40 =>
     bnd (tourref2_Body.c5 k a0 o40) fun o44 =>
     bif' o44
     (some 3)
     (bnd (tourref2_Body.c6 k a0 o37) fun o50 =>
      bif' o50
      (some 3)
      (bnd (tourref2_Body.c7 k a0 o37) fun o54 =>
       bif' o54
       (some 3)
       (some 0))))))
noncomputable def tourref2_Body.sp (k : Nat) : Go.Sx.Spec := ⟨(.pair T25 .unit), (.one (.dp T2)), fun x => tourref2_Body k x.1, false⟩
noncomputable def tourref2_Body.cx (k : Nat) : Go.Sx.Ctx := ⟨tys, [(86, tourref2_Corners.sp k), (87, tourref2_coord.sp k), (88, tourref2_between.sp k)], eqs, 115, 0, [], false⟩
theorem tourref2_Body.cok (k : Nat) : CtxOk PR (tourref2_Body.cx k) := ctx_ok tysOk eqsOk (FnsOk.cons (tourref2_Corners.ok k) (FnsOk.cons (tourref2_coord.ok k) (FnsOk.cons (tourref2_between.ok k) FnsOk.nil))) HsOk.nil
noncomputable def tourref2_Body.c1p (a0 : V25) : SL := ⟨[(1, (.val .ptr ⟨0, 0, (0 : Int), 0, 0⟩))], [(0, .cells T25 a0)]⟩
noncomputable def tourref2_Body.c1q (a0 : V25) (o : Bool) : SL := (fun v => ⟨[(1, (.val .ptr ⟨0, 0, (0 : Int), 0, 0⟩)), (32, (.val T4 v))], [(0, .cells T25 a0)]⟩) o
noncomputable def tourref2_Body.c1x (o : Bool) : Ex := (fun _ => .normal) o
noncomputable def tourref2_Body.c1n (o : Bool) : Nat := (fun _ => 1) o
theorem tourref2_Body.c1_ok (k : Nat) (a0 : V25) : Owp (tourref2_Body.c1 k a0) fun o => Triple PR (tourref2_Body.cx k) (sub tourref2_Body.code [1, 1, 0, 0]) 1 (tourref2_Body.c1p a0) (tourref2_Body.c1x o) (tourref2_Body.c1n o) (tourref2_Body.c1q a0 o) := by
  unfold tourref2_Body.c1; exact
   Owp.bnd fun y4 e5 =>
   Owp.bif (fun e6 =>
   Owp.bnd fun y7 e8 =>
    Owp.bif (fun e9 =>
    Owp.bnd fun y10 e11 =>
     Owp.bif (fun e12 =>
     Owp.bnd fun y13 e14 =>
      Owp.some (triple_way (tourref2_Body.cok k) hmix [.res (.one (.dp T4)) y4, .dec false, .dec false, .dec false, .res (.one (.dp T4)) y7, .dec false, .dec false, .dec false, .dec false, .dec false, .res (.one (.dp T4)) y10, .dec false, .dec false, .dec false, .dec false, .dec false, .res (.one (.dp T4)) y13, .dec false, .dec false] [] [(0, 0)] (via (finP (And.intro (And.intro (And.intro (And.intro (And.intro (And.intro (And.intro (And.intro (And.intro (And.intro (And.intro (And.intro (And.intro (And.intro (And.intro (And.intro trivial e5) (congrArg not e6)) (congrArg not e6)) (And.intro (congrArg not e6) e8)) (congrArg not e6)) (congrArg not e6)) (congrArg not e9)) (congrArg not e9)) (And.intro (congrArg not e9) e11)) (congrArg not e9)) (congrArg not e9)) (congrArg not e12)) (congrArg not e12)) (And.intro (congrArg not e12) e14)) (congrArg not e12)) (congrArg not e12)) .normal [(0, 0)] (tourref2_Body.c1q a0 (!y13))) (by kernel_rfl)))) (fun e12 =>
     Owp.some (triple_way (tourref2_Body.cok k) hmix [.res (.one (.dp T4)) y4, .dec false, .dec false, .dec false, .res (.one (.dp T4)) y7, .dec false, .dec false, .dec false, .dec false, .dec false, .res (.one (.dp T4)) y10, .dec false, .dec false, .dec true, .dec true, .dec true, .dec true, .dec true, .dec true] [] [(0, 0)] (via (finP (And.intro (And.intro (And.intro (And.intro (And.intro (And.intro (And.intro (And.intro (And.intro (And.intro (And.intro (And.intro (And.intro (And.intro (And.intro (And.intro trivial e5) (congrArg not e6)) (congrArg not e6)) (And.intro (congrArg not e6) e8)) (congrArg not e6)) (congrArg not e6)) (congrArg not e9)) (congrArg not e9)) (And.intro (congrArg not e9) e11)) (congrArg not e9)) (congrArg not e9)) (congrArg not e12)) (congrArg not e12)) (congrArg not e12)) (congrArg not e12)) (congrArg not e12)) .normal [(0, 0)] (tourref2_Body.c1q a0 true)) (by kernel_rfl))))) (fun e9 =>
    Owp.some (triple_way (tourref2_Body.cok k) hmix [.res (.one (.dp T4)) y4, .dec false, .dec false, .dec false, .res (.one (.dp T4)) y7, .dec false, .dec false, .dec true, .dec true, .dec true, .dec true, .dec true, .dec true, .dec true, .dec true, .dec true, .dec true, .dec true, .dec true] [] [(0, 0)] (via (finP (And.intro (And.intro (And.intro (And.intro (And.intro (And.intro (And.intro (And.intro (And.intro (And.intro (And.intro (And.intro (And.intro (And.intro (And.intro (And.intro trivial e5) (congrArg not e6)) (congrArg not e6)) (And.intro (congrArg not e6) e8)) (congrArg not e6)) (congrArg not e6)) (congrArg not e9)) (congrArg not e9)) (congrArg not e9)) (congrArg not e9)) (congrArg not e9)) tt) tt) tt) tt) tt) .normal [(0, 0)] (tourref2_Body.c1q a0 true)) (by kernel_rfl))))) (fun e6 =>
   Owp.some (triple_way (tourref2_Body.cok k) hmix [.res (.one (.dp T4)) y4, .dec true, .dec true, .dec true, .dec true, .dec true, .dec true, .dec true, .dec true, .dec true, .dec true, .dec true, .dec true, .dec true, .dec true, .dec true, .dec true, .dec true, .dec true] [] [(0, 0)] (via (finP (And.intro (And.intro (And.intro (And.intro (And.intro (And.intro (And.intro (And.intro (And.intro (And.intro (And.intro (And.intro (And.intro (And.intro (And.intro (And.intro trivial e5) (congrArg not e6)) (congrArg not e6)) (congrArg not e6)) (congrArg not e6)) (congrArg not e6)) tt) tt) tt) tt) tt) tt) tt) tt) tt) tt) .normal [(0, 0)] (tourref2_Body.c1q a0 true)) (by kernel_rfl))))
noncomputable def tourref2_Body.c2p (a0 : V25) : SL := ⟨[(1, (.val .ptr ⟨0, 0, (0 : Int), 0, 0⟩))], [(0, .cells T25 a0)]⟩
noncomputable def tourref2_Body.c2q (a0 : V25) (o : Bool) : SL := (fun v => ⟨[(1, (.val .ptr ⟨0, 0, (0 : Int), 0, 0⟩)), (60, (.val T4 v))], [(0, .cells T25 a0)]⟩) o
noncomputable def tourref2_Body.c2x (o : Bool) : Ex := (fun _ => .normal) o
noncomputable def tourref2_Body.c2n (o : Bool) : Nat := (fun _ => 1) o
theorem tourref2_Body.c2_ok (k : Nat) (a0 : V25) : Owp (tourref2_Body.c2 k a0) fun o => Triple PR (tourref2_Body.cx k) (sub tourref2_Body.code [1, 1, 1, 0, 0]) 1 (tourref2_Body.c2p a0) (tourref2_Body.c2x o) (tourref2_Body.c2n o) (tourref2_Body.c2q a0 o) := by
  unfold tourref2_Body.c2; exact
   Owp.bnd fun y18 e19 =>
   Owp.bif (fun e20 =>
   Owp.bnd fun y21 e22 =>
    Owp.bif (fun e23 =>
    Owp.bnd fun y24 e25 =>
     Owp.bif (fun e26 =>
     Owp.bnd fun y27 e28 =>
      Owp.bif (fun e29 =>
      Owp.bnd fun y30 e31 =>
       Owp.some (triple_way (tourref2_Body.cok k) hmix [.res (.one (.dp T4)) y18, .dec false, .dec false, .dec false, .res (.one (.dp T4)) y21, .dec false, .dec false, .dec false, .dec false, .dec false, .res (.one (.dp T4)) y24, .dec false, .dec false, .dec false, .dec false, .dec false, .res (.one (.dp T4)) y27, .dec false, .dec false, .dec false, .dec false, .dec false, .res (.one (.dp T4)) y30, .dec false, .dec false] [] [(0, 0)] (via (finP (And.intro (And.intro (And.intro (And.intro (And.intro (And.intro (And.intro (And.intro (And.intro (And.intro (And.intro (And.intro (And.intro (And.intro (And.intro (And.intro (And.intro (And.intro (And.intro (And.intro (And.intro trivial e19) (congrArg not e20)) (congrArg not e20)) (And.intro (congrArg not e20) e22)) (congrArg not e20)) (congrArg not e20)) (congrArg not e23)) (congrArg not e23)) (And.intro (congrArg not e23) e25)) (congrArg not e23)) (congrArg not e23)) (congrArg not e26)) (congrArg not e26)) (And.intro (congrArg not e26) e28)) (congrArg not e26)) (congrArg not e26)) (congrArg not e29)) (congrArg not e29)) (And.intro (congrArg not e29) e31)) (congrArg not e29)) (congrArg not e29)) .normal [(0, 0)] (tourref2_Body.c2q a0 (!y30))) (by kernel_rfl)))) (fun e29 =>
      Owp.some (triple_way (tourref2_Body.cok k) hmix [.res (.one (.dp T4)) y18, .dec false, .dec false, .dec false, .res (.one (.dp T4)) y21, .dec false, .dec false, .dec false, .dec false, .dec false, .res (.one (.dp T4)) y24, .dec false, .dec false, .dec false, .dec false, .dec false, .res (.one (.dp T4)) y27, .dec false, .dec false, .dec true, .dec true, .dec true, .dec true, .dec true, .dec true] [] [(0, 0)] (via (finP (And.intro (And.intro (And.intro (And.intro (And.intro (And.intro (And.intro (And.intro (And.intro (And.intro (And.intro (And.intro (And.intro (And.intro (And.intro (And.intro (And.intro (And.intro (And.intro (And.intro (And.intro trivial e19) (congrArg not e20)) (congrArg not e20)) (And.intro (congrArg not e20) e22)) (congrArg not e20)) (congrArg not e20)) (congrArg not e23)) (congrArg not e23)) (And.intro (congrArg not e23) e25)) (congrArg not e23)) (congrArg not e23)) (congrArg not e26)) (congrArg not e26)) (And.intro (congrArg not e26) e28)) (congrArg not e26)) (congrArg not e26)) (congrArg not e29)) (congrArg not e29)) (congrArg not e29)) (congrArg not e29)) (congrArg not e29)) .normal [(0, 0)] (tourref2_Body.c2q a0 true)) (by kernel_rfl))))) (fun e26 =>
     Owp.some (triple_way (tourref2_Body.cok k) hmix [.res (.one (.dp T4)) y18, .dec false, .dec false, .dec false, .res (.one (.dp T4)) y21, .dec false, .dec false, .dec false, .dec false, .dec false, .res (.one (.dp T4)) y24, .dec false, .dec false, .dec true, .dec true, .dec true, .dec true, .dec true, .dec true, .dec true, .dec true, .dec true, .dec true, .dec true, .dec true] [] [(0, 0)] (via (finP (And.intro (And.intro (And.intro (And.intro (And.intro (And.intro (And.intro (And.intro (And.intro (And.intro (And.intro (And.intro (And.intro (And.intro (And.intro (And.intro (And.intro (And.intro (And.intro (And.intro (And.intro trivial e19) (congrArg not e20)) (congrArg not e20)) (And.intro (congrArg not e20) e22)) (congrArg not e20)) (congrArg not e20)) (congrArg not e23)) (congrArg not e23)) (And.intro (congrArg not e23) e25)) (congrArg not e23)) (congrArg not e23)) (congrArg not e26)) (congrArg not e26)) (congrArg not e26)) (congrArg not e26)) (congrArg not e26)) tt) tt) tt) tt) tt) .normal [(0, 0)] (tourref2_Body.c2q a0 true)) (by kernel_rfl))))) (fun e23 =>
    Owp.some (triple_way (tourref2_Body.cok k) hmix [.res (.one (.dp T4)) y18, .dec false, .dec false, .dec false, .res (.one (.dp T4)) y21, .dec false, .dec false, .dec true, .dec true, .dec true, .dec true, .dec true, .dec true, .dec true, .dec true, .dec true, .dec true, .dec true, .dec true, .dec true, .dec true, .dec true, .dec true, .dec true, .dec true] [] [(0, 0)] (via (finP (And.intro (And.intro (And.intro (And.intro (And.intro (And.intro (And.intro (And.intro (And.intro (And.intro (And.intro (And.intro (And.intro (And.intro (And.intro (And.intro (And.intro (And.intro (And.intro (And.intro (And.intro trivial e19) (congrArg not e20)) (congrArg not e20)) (And.intro (congrArg not e20) e22)) (congrArg not e20)) (congrArg not e20)) (congrArg not e23)) (congrArg not e23)) (congrArg not e23)) (congrArg not e23)) (congrArg not e23)) tt) tt) tt) tt) tt) tt) tt) tt) tt) tt) .normal [(0, 0)] (tourref2_Body.c2q a0 true)) (by kernel_rfl))))) (fun e20 =>
   Owp.some (triple_way (tourref2_Body.cok k) hmix [.res (.one (.dp T4)) y18, .dec true, .dec true, .dec true, .dec true, .dec true, .dec true, .dec true, .dec true, .dec true, .dec true, .dec true, .dec true, .dec true, .dec true, .dec true, .dec true, .dec true, .dec true, .dec true, .dec true, .dec true, .dec true, .dec true, .dec true] [] [(0, 0)] (via (finP (And.intro (And.intro (And.intro (And.intro (And.intro (And.intro (And.intro (And.intro (And.intro (And.intro (And.intro (And.intro (And.intro (And.intro (And.intro (And.intro (And.intro (And.intro (And.intro (And.intro (And.intro trivial e19) (congrArg not e20)) (congrArg not e20)) (congrArg not e20)) (congrArg not e20)) (congrArg not e20)) tt) tt) tt) tt) tt) tt) tt) tt) tt) tt) tt) tt) tt) tt) tt) .normal [(0, 0)] (tourref2_Body.c2q a0 true)) (by kernel_rfl))))
noncomputable def tourref2_Body.c3p (a0 : V25) : SL := ⟨[(1, (.val .ptr ⟨0, 0, (0 : Int), 0, 0⟩))], [(0, .cells T25 a0)]⟩
noncomputable def tourref2_Body.c3q (a0 : V25) (o : Bool) : SL := (fun v => ⟨[(1, (.val .ptr ⟨0, 0, (0 : Int), 0, 0⟩)), (4, (.val T4 v))], [(0, .cells T25 a0)]⟩) o
noncomputable def tourref2_Body.c3x (o : Bool) : Ex := (fun _ => .normal) o
noncomputable def tourref2_Body.c3n (o : Bool) : Nat := (fun _ => 1) o
theorem tourref2_Body.c3_ok (k : Nat) (a0 : V25) : Owp (tourref2_Body.c3 k a0) fun o => Triple PR (tourref2_Body.cx k) (sub tourref2_Body.code [1, 1, 1, 1, 0]) 1 (tourref2_Body.c3p a0) (tourref2_Body.c3x o) (tourref2_Body.c3n o) (tourref2_Body.c3q a0 o) := by
  unfold tourref2_Body.c3; exact
   Owp.bif (fun e35 =>
   Owp.some (triple_way (tourref2_Body.cok k) hmix [.dec true, .dec true, .dec true, .dec true, .dec true, .dec true, .dec true, .dec true, .dec true] [] [(0, 0)] (via (finP (And.intro (And.intro (And.intro (And.intro (And.intro (And.intro (And.intro (And.intro (And.intro trivial e35) e35) e35) e35) e35) tt) tt) tt) tt) .normal [(0, 0)] (tourref2_Body.c3q a0 true)) (by kernel_rfl)))) (fun e35 =>
   Owp.bif (fun e36 =>
    Owp.some (triple_way (tourref2_Body.cok k) hmix [.dec false, .dec false, .dec false, .dec false, .dec false, .dec true, .dec true, .dec true, .dec true] [] [(0, 0)] (via (finP (And.intro (And.intro (And.intro (And.intro (And.intro (And.intro (And.intro (And.intro (And.intro trivial e35) e35) e35) e35) e35) e36) e36) e36) e36) .normal [(0, 0)] (tourref2_Body.c3q a0 true)) (by kernel_rfl)))) (fun e36 =>
    Owp.some (triple_way (tourref2_Body.cok k) hmix [.dec false, .dec false, .dec false, .dec false, .dec false, .dec false, .dec false, .dec false, .dec false] [] [(0, 0)] (via (finP (And.intro (And.intro (And.intro (And.intro (And.intro (And.intro (And.intro (And.intro (And.intro trivial e35) e35) e35) e35) e35) e36) e36) e36) e36) .normal [(0, 0)] (tourref2_Body.c3q a0 (ine a0.2.2.2.1 (0 : Int)))) (by kernel_rfl)))))
noncomputable def tourref2_Body.c4p (a0 : V25) (o37 : Bool) : SL := ⟨[(1, (.val .ptr ⟨0, 0, (0 : Int), 0, 0⟩)), (4, (.val T4 o37))], [(0, .cells T25 a0)]⟩
noncomputable def tourref2_Body.c4q (a0 : V25) (o37 : Bool) (o : Bool) : SL := (fun v => ⟨[(1, (.val .ptr ⟨0, 0, (0 : Int), 0, 0⟩)), (4, (.val T4 o37)), (76, (.val T4 v))], [(0, .cells T25 a0)]⟩) o
noncomputable def tourref2_Body.c4x (o : Bool) : Ex := (fun _ => .normal) o
noncomputable def tourref2_Body.c4n (o : Bool) : Nat := (fun _ => 1) o
theorem tourref2_Body.c4_ok (k : Nat) (a0 : V25) (o37 : Bool) : Owp (tourref2_Body.c4 k a0) fun o => Triple PR (tourref2_Body.cx k) (sub tourref2_Body.code [1, 1, 1, 1, 1, 0, 0, 0, 0]) 1 (tourref2_Body.c4p a0 o37) (tourref2_Body.c4x o) (tourref2_Body.c4n o) (tourref2_Body.c4q a0 o37 o) := by
  unfold tourref2_Body.c4; exact
   Owp.bif (fun e39 =>
   Owp.some (triple_way (tourref2_Body.cok k) hmix [.dec true, .dec true, .dec true, .dec true] [] [(0, 0)] (via (finP (And.intro (And.intro (And.intro (And.intro trivial e39) e39) e39) e39) .normal [(0, 0)] (tourref2_Body.c4q a0 o37 (igt a0.2.2.2.2.2.1 (0 : Int)))) (by kernel_rfl)))) (fun e39 =>
   Owp.some (triple_way (tourref2_Body.cok k) hmix [.dec false, .dec false, .dec false, .dec false] [] [(0, 0)] (via (finP (And.intro (And.intro (And.intro (And.intro trivial e39) e39) e39) e39) .normal [(0, 0)] (tourref2_Body.c4q a0 o37 false)) (by kernel_rfl))))
noncomputable def tourref2_Body.c5p (a0 : V25) (o37 : Bool) (o40 : Bool) : SL := ⟨[(1, (.val .ptr ⟨0, 0, (0 : Int), 0, 0⟩)), (4, (.val T4 o37)), (76, (.val T4 o40))], [(0, .cells T25 a0)]⟩
noncomputable def tourref2_Body.c5q (a0 : V25) (o37 : Bool) (o : Bool) : SL := (fun v => ⟨[(1, (.val .ptr ⟨0, 0, (0 : Int), 0, 0⟩)), (4, (.val T4 o37)), (76, (.val T4 v))], [(0, .cells T25 a0)]⟩) o
noncomputable def tourref2_Body.c5x (o : Bool) : Ex := (fun _ => .normal) o
noncomputable def tourref2_Body.c5n (o : Bool) : Nat := (fun _ => 1) o
theorem tourref2_Body.c5_ok (k : Nat) (a0 : V25) (o37 : Bool) (o40 : Bool) : Owp (tourref2_Body.c5 k a0 o40) fun o => Triple PR (tourref2_Body.cx k) (sub tourref2_Body.code [1, 1, 1, 1, 1, 0, 0, 0, 1]) 1 (tourref2_Body.c5p a0 o37 o40) (tourref2_Body.c5x o) (tourref2_Body.c5n o) (tourref2_Body.c5q a0 o37 o) := by
  unfold tourref2_Body.c5; exact
   Owp.bif (fun e42 =>
   Owp.some (triple_way (tourref2_Body.cok k) hmix [.dec true] [] [(0, 0)] (via (finP (And.intro trivial e42) .normal [(0, 0)] (tourref2_Body.c5q a0 o37 o40)) (by kernel_rfl)))) (fun e42 =>
   Owp.bif (fun e43 =>
    Owp.some (triple_way (tourref2_Body.cok k) hmix [.dec false, .dec true, .dec true, .dec true, .dec true] [] [(0, 0)] (via (finP (And.intro (And.intro (And.intro (And.intro (And.intro trivial e42) e43) e43) e43) e43) .normal [(0, 0)] (tourref2_Body.c5q a0 o37 (ieq a0.2.2.2.2.2.1 (0 : Int)))) (by kernel_rfl)))) (fun e43 =>
    Owp.some (triple_way (tourref2_Body.cok k) hmix [.dec false, .dec false, .dec false, .dec false, .dec false] [] [(0, 0)] (via (finP (And.intro (And.intro (And.intro (And.intro (And.intro trivial e42) e43) e43) e43) e43) .normal [(0, 0)] (tourref2_Body.c5q a0 o37 false)) (by kernel_rfl)))))
noncomputable def tourref2_Body.c6p (a0 : V25) (o37 : Bool) : SL := ⟨[(1, (.val .ptr ⟨0, 0, (0 : Int), 0, 0⟩)), (4, (.val T4 o37))], [(0, .cells T25 a0)]⟩
noncomputable def tourref2_Body.c6q (a0 : V25) (o37 : Bool) (o : Bool) : SL := (fun v => ⟨[(1, (.val .ptr ⟨0, 0, (0 : Int), 0, 0⟩)), (4, (.val T4 o37)), (93, (.val T4 v))], [(0, .cells T25 a0)]⟩) o
noncomputable def tourref2_Body.c6x (o : Bool) : Ex := (fun _ => .normal) o
noncomputable def tourref2_Body.c6n (o : Bool) : Nat := (fun _ => 1) o
theorem tourref2_Body.c6_ok (k : Nat) (a0 : V25) (o37 : Bool) : Owp (tourref2_Body.c6 k a0 o37) fun o => Triple PR (tourref2_Body.cx k) (sub tourref2_Body.code [1, 1, 1, 1, 1, 0, 0, 1, 1, 0]) 1 (tourref2_Body.c6p a0 o37) (tourref2_Body.c6x o) (tourref2_Body.c6n o) (tourref2_Body.c6q a0 o37 o) := by
  unfold tourref2_Body.c6; exact
   Owp.bif (fun e47 =>
   Owp.bif (fun e48 =>
    Owp.some (triple_way (tourref2_Body.cok k) hmix [.dec true, .dec true, .dec true, .dec true, .dec true, .dec true, .dec true, .dec true, .dec true, .dec true, .dec true, .dec true, .dec true] [] [(0, 0)] (via (finP (And.intro (And.intro (And.intro (And.intro (And.intro (And.intro (And.intro (And.intro (And.intro (And.intro (And.intro trivial e47) e47) e48) e48) (And.intro e47 e48)) e47) tt) tt) tt) (And.intro e47 tt)) e47) .normal [(0, 0)] (tourref2_Body.c6q a0 o37 true)) (by kernel_rfl)))) (fun e48 =>
    Owp.bif (fun e49 =>
     Owp.some (triple_way (tourref2_Body.cok k) hmix [.dec true, .dec true, .dec false, .dec false, .dec true, .dec false, .dec true, .dec true, .dec true, .dec true, .dec true, .dec true, .dec true] [] [(0, 0)] (via (finP (And.intro (And.intro (And.intro (And.intro (And.intro (And.intro (And.intro (And.intro (And.intro (And.intro (And.intro trivial e47) e47) e48) e48) (And.intro e47 e48)) e47) e49) e49) e49) (And.intro e47 e49)) e47) .normal [(0, 0)] (tourref2_Body.c6q a0 o37 true)) (by kernel_rfl)))) (fun e49 =>
     Owp.some (triple_way (tourref2_Body.cok k) hmix [.dec true, .dec true, .dec false, .dec false, .dec true, .dec false, .dec true, .dec false, .dec false, .dec false, .dec true, .dec false, .dec true] [] [(0, 0)] (via (finP (And.intro (And.intro (And.intro (And.intro (And.intro (And.intro (And.intro (And.intro (And.intro (And.intro (And.intro trivial e47) e47) e48) e48) (And.intro e47 e48)) e47) e49) e49) e49) (And.intro e47 e49)) e47) .normal [(0, 0)] (tourref2_Body.c6q a0 o37 (igt a0.2.2.2.2.2.2.2.2.2.2.1 (0 : Int)))) (by kernel_rfl)))))) (fun e47 =>
   Owp.some (triple_way (tourref2_Body.cok k) hmix [.dec false, .dec false, .dec true, .dec true, .dec false, .dec true, .dec false, .dec true, .dec true, .dec true, .dec false, .dec true, .dec false] [] [(0, 0)] (via (finP (And.intro (And.intro (And.intro (And.intro (And.intro (And.intro trivial e47) e47) e47) e47) e47) e47) .normal [(0, 0)] (tourref2_Body.c6q a0 o37 false)) (by kernel_rfl))))
noncomputable def tourref2_Body.c7p (a0 : V25) (o37 : Bool) : SL := ⟨[(1, (.val .ptr ⟨0, 0, (0 : Int), 0, 0⟩)), (4, (.val T4 o37))], [(0, .cells T25 a0)]⟩
noncomputable def tourref2_Body.c7q (o : Bool) : SL := (fun v => ⟨[(109, (.val T4 v))], []⟩) o
noncomputable def tourref2_Body.c7x (o : Bool) : Ex := (fun _ => .normal) o
noncomputable def tourref2_Body.c7n (o : Bool) : Nat := (fun _ => 0) o
theorem tourref2_Body.c7_ok (k : Nat) (a0 : V25) (o37 : Bool) : Owp (tourref2_Body.c7 k a0 o37) fun o => Triple PR (tourref2_Body.cx k) (sub tourref2_Body.code [1, 1, 1, 1, 1, 0, 0, 1, 1, 1, 1, 0]) 1 (tourref2_Body.c7p a0 o37) (tourref2_Body.c7x o) (tourref2_Body.c7n o) (tourref2_Body.c7q o) := by
  unfold tourref2_Body.c7; exact
   Owp.bif (fun e53 =>
   Owp.some (triple_way (tourref2_Body.cok k) hmix [.dec true, .dec true] [] [] (via (finP (And.intro (And.intro trivial e53) e53) .normal [] (tourref2_Body.c7q o37)) (by kernel_rfl)))) (fun e53 =>
   Owp.some (triple_way (tourref2_Body.cok k) hmix [.dec false, .dec false] [] [] (via (finP (And.intro (And.intro trivial e53) e53) .normal [] (tourref2_Body.c7q false)) (by kernel_rfl))))
theorem tourref2_Body.way (k : Nat) (a0 : V25) : Owp (tourref2_Body k a0) fun y => ∃ answers cmds, exec PR (tourref2_Body.cx k) tourref2_Body.code 0 (entry (.pair T25 .unit) (a0, ())).st answers (Ret (tourref2_Body.cx k) Try.f17 cmds (.one (.dp T2)) y) := by
  unfold tourref2_Body; exact
   Owp.bnd fun y1 e2 =>
   Owp.bif (fun e3 =>
   Owp.some (⟨[.res (.one (.dp T2)) y1, .dec true], [], via (retP (And.intro (And.intro trivial e2) e3) (.one (.dp T2)) (y1 : Int)) (by kernel_rfl)⟩)) (fun e3 =>
   Owp.bnd fun o15 e16 =>
    Owp.bif (fun e17 =>
    Owp.some (⟨[.res (.one (.dp T2)) y1, .dec false, .cutR 4 ⟨[], [(0, 0)], (tourref2_Body.c1p a0), 1, .normal, (tourref2_Body.c1q a0 o15), 1⟩, .dec true], [], via (cutP (And.intro (And.intro trivial e2) e3) [(0, 0)] (tourref2_Body.c1p a0) (((tourref2_Body.c1_ok k a0).ap e16)) (retP (And.intro trivial e17) (.one (.dp T2)) ((1 : Int) : Int))) (by kernel_rfl)⟩)) (fun e17 =>
    Owp.bnd fun o32 e33 =>
     Owp.bif (fun e34 =>
     Owp.some (⟨[.res (.one (.dp T2)) y1, .dec false, .cutR 4 ⟨[], [(0, 0)], (tourref2_Body.c1p a0), 1, .normal, (tourref2_Body.c1q a0 o15), 1⟩, .dec false, .cutR 6 ⟨[], [(0, 0)], (tourref2_Body.c2p a0), 1, .normal, (tourref2_Body.c2q a0 o32), 1⟩, .dec true], [], via (cutP (And.intro (And.intro trivial e2) e3) [(0, 0)] (tourref2_Body.c1p a0) (((tourref2_Body.c1_ok k a0).ap e16)) (cutP (And.intro trivial e17) [(0, 0)] (tourref2_Body.c2p a0) (((tourref2_Body.c2_ok k a0).ap e33)) (retP (And.intro trivial e34) (.one (.dp T2)) ((1 : Int) : Int)))) (by kernel_rfl)⟩)) (fun e34 =>
     Owp.bnd fun o37 e38 =>
      Owp.bnd fun o40 e41 =>
      Owp.bnd fun o44 e45 =>
      Owp.bif (fun e46 =>
      Owp.some (⟨[.res (.one (.dp T2)) y1, .dec false, .cutR 4 ⟨[], [(0, 0)], (tourref2_Body.c1p a0), 1, .normal, (tourref2_Body.c1q a0 o15), 1⟩, .dec false, .cutR 6 ⟨[], [(0, 0)], (tourref2_Body.c2p a0), 1, .normal, (tourref2_Body.c2q a0 o32), 1⟩, .dec false, .cutR 8 ⟨[], [(0, 0)], (tourref2_Body.c3p a0), 1, .normal, (tourref2_Body.c3q a0 o37), 1⟩, .cutR 9 ⟨[], [(0, 0)], (tourref2_Body.c4p a0 o37), 1, .normal, (tourref2_Body.c4q a0 o37 o40), 1⟩, .cut ⟨[], [(0, 0)], (tourref2_Body.c5p a0 o37 o40), 1, .normal, (tourref2_Body.c5q a0 o37 o44), 1⟩, .dec true], [], via (cutP (And.intro (And.intro trivial e2) e3) [(0, 0)] (tourref2_Body.c1p a0) (((tourref2_Body.c1_ok k a0).ap e16)) (cutP (And.intro trivial e17) [(0, 0)] (tourref2_Body.c2p a0) (((tourref2_Body.c2_ok k a0).ap e33)) (cutP (And.intro trivial e34) [(0, 0)] (tourref2_Body.c3p a0) (((tourref2_Body.c3_ok k a0).ap e38)) (cutP trivial [(0, 0)] (tourref2_Body.c4p a0 o37) (((tourref2_Body.c4_ok k a0 o37).ap e41)) (cutP trivial [(0, 0)] (tourref2_Body.c5p a0 o37 o40) (((tourref2_Body.c5_ok k a0 o37 o40).ap e45)) (retP (And.intro trivial e46) (.one (.dp T2)) ((3 : Int) : Int))))))) (by kernel_rfl)⟩)) (fun e46 =>
      Owp.bnd fun o50 e51 =>
       Owp.bif (fun e52 =>
       Owp.some (⟨[.res (.one (.dp T2)) y1, .dec false, .cutR 4 ⟨[], [(0, 0)], (tourref2_Body.c1p a0), 1, .normal, (tourref2_Body.c1q a0 o15), 1⟩, .dec false, .cutR 6 ⟨[], [(0, 0)], (tourref2_Body.c2p a0), 1, .normal, (tourref2_Body.c2q a0 o32), 1⟩, .dec false, .cutR 8 ⟨[], [(0, 0)], (tourref2_Body.c3p a0), 1, .normal, (tourref2_Body.c3q a0 o37), 1⟩, .cutR 9 ⟨[], [(0, 0)], (tourref2_Body.c4p a0 o37), 1, .normal, (tourref2_Body.c4q a0 o37 o40), 1⟩, .cut ⟨[], [(0, 0)], (tourref2_Body.c5p a0 o37 o40), 1, .normal, (tourref2_Body.c5q a0 o37 o44), 1⟩, .dec false, .cutR 12 ⟨[], [(0, 0)], (tourref2_Body.c6p a0 o37), 1, .normal, (tourref2_Body.c6q a0 o37 o50), 1⟩, .dec true], [], via (cutP (And.intro (And.intro trivial e2) e3) [(0, 0)] (tourref2_Body.c1p a0) (((tourref2_Body.c1_ok k a0).ap e16)) (cutP (And.intro trivial e17) [(0, 0)] (tourref2_Body.c2p a0) (((tourref2_Body.c2_ok k a0).ap e33)) (cutP (And.intro trivial e34) [(0, 0)] (tourref2_Body.c3p a0) (((tourref2_Body.c3_ok k a0).ap e38)) (cutP trivial [(0, 0)] (tourref2_Body.c4p a0 o37) (((tourref2_Body.c4_ok k a0 o37).ap e41)) (cutP trivial [(0, 0)] (tourref2_Body.c5p a0 o37 o40) (((tourref2_Body.c5_ok k a0 o37 o40).ap e45)) (cutP (And.intro trivial e46) [(0, 0)] (tourref2_Body.c6p a0 o37) (((tourref2_Body.c6_ok k a0 o37).ap e51)) (retP (And.intro trivial e52) (.one (.dp T2)) ((3 : Int) : Int)))))))) (by kernel_rfl)⟩)) (fun e52 =>
       Owp.bnd fun o54 e55 =>
        Owp.bif (fun e56 =>
        Owp.some (⟨[.res (.one (.dp T2)) y1, .dec false, .cutR 4 ⟨[], [(0, 0)], (tourref2_Body.c1p a0), 1, .normal, (tourref2_Body.c1q a0 o15), 1⟩, .dec false, .cutR 6 ⟨[], [(0, 0)], (tourref2_Body.c2p a0), 1, .normal, (tourref2_Body.c2q a0 o32), 1⟩, .dec false, .cutR 8 ⟨[], [(0, 0)], (tourref2_Body.c3p a0), 1, .normal, (tourref2_Body.c3q a0 o37), 1⟩, .cutR 9 ⟨[], [(0, 0)], (tourref2_Body.c4p a0 o37), 1, .normal, (tourref2_Body.c4q a0 o37 o40), 1⟩, .cut ⟨[], [(0, 0)], (tourref2_Body.c5p a0 o37 o40), 1, .normal, (tourref2_Body.c5q a0 o37 o44), 1⟩, .dec false, .cutR 12 ⟨[], [(0, 0)], (tourref2_Body.c6p a0 o37), 1, .normal, (tourref2_Body.c6q a0 o37 o50), 1⟩, .dec false, .cutR 14 ⟨[], [(0, 0)], (tourref2_Body.c7p a0 o37), 1, .normal, (tourref2_Body.c7q o54), 0⟩, .dec true], [], via (cutP (And.intro (And.intro trivial e2) e3) [(0, 0)] (tourref2_Body.c1p a0) (((tourref2_Body.c1_ok k a0).ap e16)) (cutP (And.intro trivial e17) [(0, 0)] (tourref2_Body.c2p a0) (((tourref2_Body.c2_ok k a0).ap e33)) (cutP (And.intro trivial e34) [(0, 0)] (tourref2_Body.c3p a0) (((tourref2_Body.c3_ok k a0).ap e38)) (cutP trivial [(0, 0)] (tourref2_Body.c4p a0 o37) (((tourref2_Body.c4_ok k a0 o37).ap e41)) (cutP trivial [(0, 0)] (tourref2_Body.c5p a0 o37 o40) (((tourref2_Body.c5_ok k a0 o37 o40).ap e45)) (cutP (And.intro trivial e46) [(0, 0)] (tourref2_Body.c6p a0 o37) (((tourref2_Body.c6_ok k a0 o37).ap e51)) (cutP (And.intro trivial e52) [(0, 0)] (tourref2_Body.c7p a0 o37) (((tourref2_Body.c7_ok k a0 o37).ap e55)) (retP (And.intro trivial e56) (.one (.dp T2)) ((3 : Int) : Int))))))))) (by kernel_rfl)⟩)) (fun e56 =>
        Owp.some (⟨[.res (.one (.dp T2)) y1, .dec false, .cutR 4 ⟨[], [(0, 0)], (tourref2_Body.c1p a0), 1, .normal, (tourref2_Body.c1q a0 o15), 1⟩, .dec false, .cutR 6 ⟨[], [(0, 0)], (tourref2_Body.c2p a0), 1, .normal, (tourref2_Body.c2q a0 o32), 1⟩, .dec false, .cutR 8 ⟨[], [(0, 0)], (tourref2_Body.c3p a0), 1, .normal, (tourref2_Body.c3q a0 o37), 1⟩, .cutR 9 ⟨[], [(0, 0)], (tourref2_Body.c4p a0 o37), 1, .normal, (tourref2_Body.c4q a0 o37 o40), 1⟩, .cut ⟨[], [(0, 0)], (tourref2_Body.c5p a0 o37 o40), 1, .normal, (tourref2_Body.c5q a0 o37 o44), 1⟩, .dec false, .cutR 12 ⟨[], [(0, 0)], (tourref2_Body.c6p a0 o37), 1, .normal, (tourref2_Body.c6q a0 o37 o50), 1⟩, .dec false, .cutR 14 ⟨[], [(0, 0)], (tourref2_Body.c7p a0 o37), 1, .normal, (tourref2_Body.c7q o54), 0⟩, .dec false], [], via (cutP (And.intro (And.intro trivial e2) e3) [(0, 0)] (tourref2_Body.c1p a0) (((tourref2_Body.c1_ok k a0).ap e16)) (cutP (And.intro trivial e17) [(0, 0)] (tourref2_Body.c2p a0) (((tourref2_Body.c2_ok k a0).ap e33)) (cutP (And.intro trivial e34) [(0, 0)] (tourref2_Body.c3p a0) (((tourref2_Body.c3_ok k a0).ap e38)) (cutP trivial [(0, 0)] (tourref2_Body.c4p a0 o37) (((tourref2_Body.c4_ok k a0 o37).ap e41)) (cutP trivial [(0, 0)] (tourref2_Body.c5p a0 o37 o40) (((tourref2_Body.c5_ok k a0 o37 o40).ap e45)) (cutP (And.intro trivial e46) [(0, 0)] (tourref2_Body.c6p a0 o37) (((tourref2_Body.c6_ok k a0 o37).ap e51)) (cutP (And.intro trivial e52) [(0, 0)] (tourref2_Body.c7p a0 o37) (((tourref2_Body.c7_ok k a0 o37).ap e55)) (retP (And.intro trivial e56) (.one (.dp T2)) ((0 : Int) : Int))))))))) (by kernel_rfl)⟩)))))))
theorem tourref2_Body.ok (k : Nat) : FnOk PR 17 (tourref2_Body.sp k) :=
  fn_ok (tourref2_Body.cok k) hmix Try.func17 (code := tourref2_Body.code) (by kernel_rfl) (by kernel_rfl) (by kernel_rfl) rfl rfl (by kernel_rfl) (by kernel_rfl) (by kernel_rfl) (fun x => Nat.le_of_ble_eq_true (by kernel_rfl)) fun x y hy => (tourref2_Body.way k x.1).ap hy

/-! tourney/body.Place -/
noncomputable def body_Place.code : Code := Func.cd Try.f36
def body_Place.c1 (k : Nat) (a0 : V25) : Nat → Int → (List V22) → Option ((List V22))
  | 0, _, _ => none
  | n + 1, v4, v5 =>
   bif' (ilt v4 (len a0.2.2.2.2.2.2.2.2.1))
   (req (inL v4 a0.2.2.2.2.2.2.2.2.1) <|
    bnd (vec_Turn k (el Z22 a0.2.2.2.2.2.2.2.2.1 v4) a0.2.2.1) fun y8 =>
    bnd (vec_Add k y8 a0.1) fun y10 =>
    req (room 16 v5 [y10]) <|
    body_Place.c1 k a0 n (iadd .i64 v4 1) (v5 ++ [y10]))
   (some v5)
def body_Place (k : Nat) (a0 : V25) : Option (List V22) :=
  bnd (body_Check k a0) fun y1 =>
  bif' (ine y1 0)
  (some ([] : (List V22)))
  (bnd (body_Place.c1 k a0 k 0 []) fun o13 =>
   req (NE o13) <|
   some o13)
noncomputable def body_Place.sp (k : Nat) : Go.Sx.Spec := ⟨(.pair T25 .unit), (.one (.dn T22)), fun x => body_Place k x.1, false⟩
noncomputable def body_Place.cx (k : Nat) : Go.Sx.Ctx := ⟨tys, [(41, body_Check.sp k), (106, vec_Turn.sp k), (105, vec_Add.sp k)], eqs, 28, 0, [], false⟩
theorem body_Place.cok (k : Nat) : CtxOk PR (body_Place.cx k) := ctx_ok tysOk eqsOk (FnsOk.cons (body_Check.ok k) (FnsOk.cons (vec_Turn.ok k) (FnsOk.cons (vec_Add.ok k) FnsOk.nil))) HsOk.nil
noncomputable def body_Place.c1p (a0 : V25) (v4 : Int) (v5 : (List V22)) : SL := ⟨[(1, (.val .ptr ⟨0, 0, (0 : Int), 0, 0⟩)), (3, (.val .own (1 : Nat))), (10, (.val T24 a0.2.2.2.2.2.2.2.2.1)), (11, (.val T2 (len a0.2.2.2.2.2.2.2.2.1))), (12, (.val T2 v4))], [(0, .cells T25 a0), (1, .row T22 v5 23)]⟩
noncomputable def body_Place.c1q (o : (List V22)) : SL := (fun v => ⟨[(3, (.val .own (0 : Nat)))], [(0, .row T22 v 23)]⟩) o
noncomputable def body_Place.c1x (o : (List V22)) : Ex := (fun _ => (.exit 0)) o
noncomputable def body_Place.c1n (o : (List V22)) : Nat := (fun _ => 1) o
theorem body_Place.c1_ok (k : Nat) (a0 : V25) : ∀ (n : Nat) (v4 : Int) (v5 : (List V22)), Owp (body_Place.c1 k a0 n v4 v5) fun o => LTriple PR (body_Place.cx k) (sub body_Place.code [1, 1, 1, 0, 1, 0, 0]) 2 (body_Place.c1p a0 v4 v5) (body_Place.c1x o) (body_Place.c1n o) (body_Place.c1q o)
  | 0, _, _ => fun _ h => nomatch h
  | n + 1, v4, v5 => Owp.of (body_Place.c1.eq_2 ..) (
   Owp.bif (fun e6 =>
   Owp.req fun h7 =>
    Owp.bnd fun y8 e9 =>
    Owp.bnd fun y10 e11 =>
    Owp.req fun h12 =>
    fun y hy => loop_back (body_Place.cok k) hmix 2 (body_Place.c1p a0 (iadd .i64 v4 (1 : Int)) (v5 ++ [y10])) [.dec true, .res (.one (.dp T22)) y8, .res (.one (.dp T22)) y10, .dec true] [] [(0, 0), (1, 16)] (via (finP (And.intro (And.intro (And.intro (And.intro (And.intro trivial e6) h7) e9) e11) h12) .normal [(0, 0), (1, 16)] (body_Place.c1p a0 (iadd .i64 v4 (1 : Int)) (v5 ++ [y10]))) (by kernel_rfl)) ((body_Place.c1_ok k a0 n (iadd .i64 v4 (1 : Int)) (v5 ++ [y10])).ap hy)) (fun e6 =>
   Owp.some (loop_exit (body_Place.cok k) hmix [.dec false] [] [(0, 1)] (exne 0) (via (finP (And.intro trivial e6) (.exit 0) [(0, 1)] (body_Place.c1q v5)) (by kernel_rfl)))))
theorem body_Place.way (k : Nat) (a0 : V25) : Owp (body_Place k a0) fun y => ∃ answers cmds, exec PR (body_Place.cx k) body_Place.code 0 (entry (.pair T25 .unit) (a0, ())).st answers (Ret (body_Place.cx k) Try.f36 cmds (.one (.dn T22)) y) := by
  unfold body_Place; exact
   Owp.bnd fun y1 e2 =>
   Owp.bif (fun e3 =>
   Owp.some (⟨[.res (.one (.dp T2)) y1, .dec true], [], via (retnilP (And.intro (And.intro trivial e2) e3)) (by kernel_rfl)⟩)) (fun e3 =>
   Owp.bnd fun o13 e14 =>
    Owp.req fun h15 =>
    Owp.some (⟨[.res (.one (.dp T2)) y1, .dec false, .cut ⟨[.own 3 T22 23], [(0, 0), (1, 10)], (body_Place.c1p a0 (0 : Int) []), 2, (.exit 0), (body_Place.c1q o13), 1⟩], [.freeze 2], via (cutP (And.intro (And.intro trivial e2) e3) [(0, 0), (1, 10)] (body_Place.c1p a0 (0 : Int) []) (((body_Place.c1_ok k a0 k (0 : Int) []).ap e14).triple) (retnP trivial T22 o13 h15)) (by kernel_rfl)⟩))
theorem body_Place.ok (k : Nat) : FnOk PR 36 (body_Place.sp k) :=
  fn_ok (body_Place.cok k) hmix Try.func36 (code := body_Place.code) (by kernel_rfl) (by kernel_rfl) (by kernel_rfl) rfl rfl (by kernel_rfl) (by kernel_rfl) (by kernel_rfl) (fun x => Nat.le_of_ble_eq_true (by kernel_rfl)) fun x y hy => (body_Place.way k x.1).ap hy

/-! tourney/tourref2.World -/
noncomputable def tourref2_World.code : Code := Func.cd Try.f115
def tourref2_World (k : Nat) (a0 : V25) (a1 : V22) : Option V22 :=
  bnd (vec_Turn k a1 a0.2.2.1) fun y1 =>
  bnd (fix_Add k y1.1 a0.1.1) fun y3 =>
  bnd (fix_Add k y1.2.1 a0.1.2.1) fun y5 =>
  some (y3, y5, ())
noncomputable def tourref2_World.sp (k : Nat) : Go.Sx.Spec := ⟨(.pair T25 (.pair T22 .unit)), (.one (.dp T22)), fun x => tourref2_World k x.1 x.2.1, false⟩
noncomputable def tourref2_World.cx (k : Nat) : Go.Sx.Ctx := ⟨tys, [(106, vec_Turn.sp k), (85, fix_Add.sp k)], eqs, 23, 0, [], false⟩
theorem tourref2_World.cok (k : Nat) : CtxOk PR (tourref2_World.cx k) := ctx_ok tysOk eqsOk (FnsOk.cons (vec_Turn.ok k) (FnsOk.cons (fix_Add.ok k) FnsOk.nil)) HsOk.nil
theorem tourref2_World.way (k : Nat) (a0 : V25) (a1 : V22) : Owp (tourref2_World k a0 a1) fun y => ∃ answers cmds, exec PR (tourref2_World.cx k) tourref2_World.code 0 (entry (.pair T25 (.pair T22 .unit)) (a0, a1, ())).st answers (Ret (tourref2_World.cx k) Try.f115 cmds (.one (.dp T22)) y) := by
  unfold tourref2_World; exact
   Owp.bnd fun y1 e2 =>
   Owp.bnd fun y3 e4 =>
   Owp.bnd fun y5 e6 =>
   Owp.some (⟨[.res (.one (.dp T22)) y1, .res (.one (.dp T2)) y3, .res (.one (.dp T2)) y5], [], via (retP (And.intro (And.intro (And.intro trivial e2) e4) e6) (.one (.dp T22)) ((y3, y5, ()) : V22)) (by kernel_rfl)⟩)
theorem tourref2_World.ok (k : Nat) : FnOk PR 115 (tourref2_World.sp k) :=
  fn_ok (tourref2_World.cok k) hmix Try.func115 (code := tourref2_World.code) (by kernel_rfl) (by kernel_rfl) (by kernel_rfl) rfl rfl (by kernel_rfl) (by kernel_rfl) (by kernel_rfl) (fun x => Nat.le_of_ble_eq_true (by kernel_rfl)) fun x y hy => (tourref2_World.way k x.1 x.2.1).ap hy

end Go.Proofs.T1
