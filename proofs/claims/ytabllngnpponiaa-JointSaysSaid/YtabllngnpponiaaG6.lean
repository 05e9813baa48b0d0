import Derived.Test.YtabllngnpponiaaG0
import Derived.Test.YtabllngnpponiaaG1
import Derived.Test.YtabllngnpponiaaG2
import Derived.Test.YtabllngnpponiaaG3
import Derived.Test.YtabllngnpponiaaG5
namespace Go.Proofs.T1
open Go Go.Sx Go.Proofs
set_option maxRecDepth 100000
set_option linter.unusedVariables false
/-! tourney/tourref2.Body -/
noncomputable def tourref2_Body.code : Code := Func.cd Try.f113
def tourref2_Body.c1 (k : Nat) (a0 : V49) : Option (Bool) :=
  bnd (tourref2_coord k a0.1 58982400) fun y4 =>
  bif' y4
  (bnd (tourref2_coord k a0.2.1 268435456) fun y7 =>
   bif' y7
   (bnd (tourref2_between k a0.2.2.2.1 (-16777216) 16777216) fun y10 =>
    bif' y10
    (bnd (tourref2_between k a0.2.2.1 0 65535) fun y13 =>
     some (!y13))
    (some true))
   (some true))
  (some true)
def tourref2_Body.c2 (k : Nat) (a0 : V49) : Option (Bool) :=
  bnd (tourref2_between k a0.2.2.2.2.1 0 1099511627776) fun y18 =>
  bif' y18
  (bnd (tourref2_between k a0.2.2.2.2.2.1 0 1099511627776) fun y21 =>
   bif' y21
   (bnd (tourref2_between k a0.2.2.2.2.2.2.1 0 65536) fun y24 =>
    bif' y24
    (bnd (tourref2_between k a0.2.2.2.2.2.2.2.1 0 65536) fun y27 =>
     bif' y27
     (bnd (tourref2_between k a0.2.2.2.2.2.2.2.2.2.2.1 0 1000) fun y30 =>
      some (!y30))
     (some true))
    (some true))
   (some true))
  (some true)
def tourref2_Body.c3 (k : Nat) (a0 : V49) : Option (Bool) :=
  bif' (ine a0.2.1.1 0)
  (some true)
  (bif' (ine a0.2.1.2.1 0)
   (some true)
   (some (ine a0.2.2.2.1 0)))
def tourref2_Body.c4 (k : Nat) (a0 : V49) : Option (Bool) :=
  bif' (ieq a0.2.2.2.2.1 0)
  (some (igt a0.2.2.2.2.2.1 0))
  (some false)
def tourref2_Body.c5 (k : Nat) (a0 : V49) (o40 : Bool) : Option (Bool) :=
  bif' o40
  (some o40)
  (bif' (igt a0.2.2.2.2.1 0)
   (some (ieq a0.2.2.2.2.2.1 0))
   (some false))
def tourref2_Body.c6 (k : Nat) (a0 : V49) (o37 : Bool) : Option (Bool) :=
  bif' (ieq a0.2.2.2.2.1 0)
  (bif' o37
   (some true)
   (bif' a0.2.2.2.2.2.2.2.2.2.1
    (some true)
    (some (igt a0.2.2.2.2.2.2.2.2.2.2.1 0))))
  (some false)
def tourref2_Body.c7 (k : Nat) (a0 : V49) (o37 : Bool) : Option (Bool) :=
  bif' a0.2.2.2.2.2.2.2.2.2.1
  (some o37)
  (some false)
def tourref2_Body (k : Nat) (a0 : V49) : Option Int :=
  bnd (tourref2_Corners k a0.2.2.2.2.2.2.2.2.1) fun y1 =>
  bif' (ine y1 0)
  (some y1)
  (bnd (tourref2_Body.c1 k a0) fun o15 =>
   bif' o15
   (some 1)
   (bnd (tourref2_Body.c2 k a0) fun o32 =>
    bif' o32
    (some 1)
    (bnd (tourref2_Body.c3 k a0) fun o37 =>
     bnd (tourref2_Body.c4 k a0) fun o40 =>
     bnd (tourref2_Body.c5 k a0 o40) fun o44 =>
     bif' o44
     (some 3)
     (bnd (tourref2_Body.c6 k a0 o37) fun o50 =>
      bif' o50
      (some 3)
      (bnd (tourref2_Body.c7 k a0 o37) fun o54 =>
       bif' o54
       (some 3)
       (some 0))))))
noncomputable def tourref2_Body.sp (k : Nat) : Go.Sx.Spec := ⟨(.pair T49 .unit), (.one (.dp T2)), fun x => tourref2_Body k x.1, false⟩
noncomputable def tourref2_Body.cx (k : Nat) : Go.Sx.Ctx := ⟨tys, [(159, tourref2_Corners.sp k), (94, tourref2_coord.sp k), (123, tourref2_between.sp k)], eqs, 115, 0, [], false⟩
theorem tourref2_Body.cok (k : Nat) : CtxOk PR (tourref2_Body.cx k) := ctx_ok tysOk eqsOk (FnsOk.cons (tourref2_Corners.ok k) (FnsOk.cons (tourref2_coord.ok k) (FnsOk.cons (tourref2_between.ok k) FnsOk.nil))) HsOk.nil
noncomputable def tourref2_Body.c1p (a0 : V49) : SL := ⟨[(1, (.val .ptr ⟨0, 0, (0 : Int), 0, 0⟩))], [(0, .cells T49 a0)]⟩
noncomputable def tourref2_Body.c1q (a0 : V49) (o : Bool) : SL := (fun v => ⟨[(1, (.val .ptr ⟨0, 0, (0 : Int), 0, 0⟩)), (32, (.val T4 v))], [(0, .cells T49 a0)]⟩) o
noncomputable def tourref2_Body.c1x (o : Bool) : Ex := (fun _ => .normal) o
noncomputable def tourref2_Body.c1n (o : Bool) : Nat := (fun _ => 1) o
theorem tourref2_Body.c1_ok (k : Nat) (a0 : V49) : Owp (tourref2_Body.c1 k a0) fun o => Triple PR (tourref2_Body.cx k) (sub tourref2_Body.code [1, 1, 0, 0]) 1 (tourref2_Body.c1p a0) (tourref2_Body.c1x o) (tourref2_Body.c1n o) (tourref2_Body.c1q a0 o) := by
  unfold tourref2_Body.c1; exact
   Owp.bnd fun y4 e5 =>
   Owp.bif (fun e6 =>
   Owp.bnd fun y7 e8 =>
    Owp.bif (fun e9 =>
    Owp.bnd fun y10 e11 =>
     Owp.bif (fun e12 =>
     Owp.bnd fun y13 e14 =>
      Owp.some (triple_way (tourref2_Body.cok k) hmix [.res (.one (.dp T4)) y4, .dec false, .dec false, .dec false, .res (.one (.dp T4)) y7, .dec false, .dec false, .dec false, .dec false, .dec false, .res (.one (.dp T4)) y10, .dec false, .dec false, .dec false, .dec false, .dec false, .res (.one (.dp T4)) y13, .dec false, .dec false] [] [(0, 0)] (via (finP (And.intro (And.intro (And.intro (And.intro (And.intro (And.intro (And.intro (And.intro (And.intro (And.intro (And.intro (And.intro (And.intro (And.intro (And.intro (And.intro trivial e5) (congrArg not e6)) (congrArg not e6)) (And.intro (congrArg not e6) e8)) (congrArg not e6)) (congrArg not e6)) (congrArg not e9)) (congrArg not e9)) (And.intro (congrArg not e9) e11)) (congrArg not e9)) (congrArg not e9)) (congrArg not e12)) (congrArg not e12)) (And.intro (congrArg not e12) e14)) (congrArg not e12)) (congrArg not e12)) .normal [(0, 0)] (tourref2_Body.c1q a0 (!y13))) (by kernel_rfl)))) (fun e12 =>
     Owp.some (triple_way (tourref2_Body.cok k) hmix [.res (.one (.dp T4)) y4, .dec false, .dec false, .dec false, .res (.one (.dp T4)) y7, .dec false, .dec false, .dec false, .dec false, .dec false, .res (.one (.dp T4)) y10, .dec false, .dec false, .dec true, .dec true, .dec true, .dec true, .dec true, .dec true] [] [(0, 0)] (via (finP (And.intro (And.intro (And.intro (And.intro (And.intro (And.intro (And.intro (And.intro (And.intro (And.intro (And.intro (And.intro (And.intro (And.intro (And.intro (And.intro trivial e5) (congrArg not e6)) (congrArg not e6)) (And.intro (congrArg not e6) e8)) (congrArg not e6)) (congrArg not e6)) (congrArg not e9)) (congrArg not e9)) (And.intro (congrArg not e9) e11)) (congrArg not e9)) (congrArg not e9)) (congrArg not e12)) (congrArg not e12)) (congrArg not e12)) (congrArg not e12)) (congrArg not e12)) .normal [(0, 0)] (tourref2_Body.c1q a0 true)) (by kernel_rfl))))) (fun e9 =>
    Owp.some (triple_way (tourref2_Body.cok k) hmix [.res (.one (.dp T4)) y4, .dec false, .dec false, .dec false, .res (.one (.dp T4)) y7, .dec false, .dec false, .dec true, .dec true, .dec true, .dec true, .dec true, .dec true, .dec true, .dec true, .dec true, .dec true, .dec true, .dec true] [] [(0, 0)] (via (finP (And.intro (And.intro (And.intro (And.intro (And.intro (And.intro (And.intro (And.intro (And.intro (And.intro (And.intro (And.intro (And.intro (And.intro (And.intro (And.intro trivial e5) (congrArg not e6)) (congrArg not e6)) (And.intro (congrArg not e6) e8)) (congrArg not e6)) (congrArg not e6)) (congrArg not e9)) (congrArg not e9)) (congrArg not e9)) (congrArg not e9)) (congrArg not e9)) tt) tt) tt) tt) tt) .normal [(0, 0)] (tourref2_Body.c1q a0 true)) (by kernel_rfl))))) (fun e6 =>
   Owp.some (triple_way (tourref2_Body.cok k) hmix [.res (.one (.dp T4)) y4, .dec true, .dec true, .dec true, .dec true, .dec true, .dec true, .dec true, .dec true, .dec true, .dec true, .dec true, .dec true, .dec true, .dec true, .dec true, .dec true, .dec true, .dec true] [] [(0, 0)] (via (finP (And.intro (And.intro (And.intro (And.intro (And.intro (And.intro (And.intro (And.intro (And.intro (And.intro (And.intro (And.intro (And.intro (And.intro (And.intro (And.intro trivial e5) (congrArg not e6)) (congrArg not e6)) (congrArg not e6)) (congrArg not e6)) (congrArg not e6)) tt) tt) tt) tt) tt) tt) tt) tt) tt) tt) .normal [(0, 0)] (tourref2_Body.c1q a0 true)) (by kernel_rfl))))
noncomputable def tourref2_Body.c2p (a0 : V49) : SL := ⟨[(1, (.val .ptr ⟨0, 0, (0 : Int), 0, 0⟩))], [(0, .cells T49 a0)]⟩
noncomputable def tourref2_Body.c2q (a0 : V49) (o : Bool) : SL := (fun v => ⟨[(1, (.val .ptr ⟨0, 0, (0 : Int), 0, 0⟩)), (60, (.val T4 v))], [(0, .cells T49 a0)]⟩) o
noncomputable def tourref2_Body.c2x (o : Bool) : Ex := (fun _ => .normal) o
noncomputable def tourref2_Body.c2n (o : Bool) : Nat := (fun _ => 1) o
theorem tourref2_Body.c2_ok (k : Nat) (a0 : V49) : Owp (tourref2_Body.c2 k a0) fun o => Triple PR (tourref2_Body.cx k) (sub tourref2_Body.code [1, 1, 1, 0, 0]) 1 (tourref2_Body.c2p a0) (tourref2_Body.c2x o) (tourref2_Body.c2n o) (tourref2_Body.c2q a0 o) := by
  unfold tourref2_Body.c2; exact
   Owp.bnd fun y18 e19 =>
   Owp.bif (fun e20 =>
   Owp.bnd fun y21 e22 =>
    Owp.bif (fun e23 =>
    Owp.bnd fun y24 e25 =>
     Owp.bif (fun e26 =>
     Owp.bnd fun y27 e28 =>
      Owp.bif (fun e29 =>
      Owp.bnd fun y30 e31 =>
       Owp.some (triple_way (tourref2_Body.cok k) hmix [.res (.one (.dp T4)) y18, .dec false, .dec false, .dec false, .res (.one (.dp T4)) y21, .dec false, .dec false, .dec false, .dec false, .dec false, .res (.one (.dp T4)) y24, .dec false, .dec false, .dec false, .dec false, .dec false, .res (.one (.dp T4)) y27, .dec false, .dec false, .dec false, .dec false, .dec false, .res (.one (.dp T4)) y30, .dec false, .dec false] [] [(0, 0)] (via (finP (And.intro (And.intro (And.intro (And.intro (And.intro (And.intro (And.intro (And.intro (And.intro (And.intro (And.intro (And.intro (And.intro (And.intro (And.intro (And.intro (And.intro (And.intro (And.intro (And.intro (And.intro trivial e19) (congrArg not e20)) (congrArg not e20)) (And.intro (congrArg not e20) e22)) (congrArg not e20)) (congrArg not e20)) (congrArg not e23)) (congrArg not e23)) (And.intro (congrArg not e23) e25)) (congrArg not e23)) (congrArg not e23)) (congrArg not e26)) (congrArg not e26)) (And.intro (congrArg not e26) e28)) (congrArg not e26)) (congrArg not e26)) (congrArg not e29)) (congrArg not e29)) (And.intro (congrArg not e29) e31)) (congrArg not e29)) (congrArg not e29)) .normal [(0, 0)] (tourref2_Body.c2q a0 (!y30))) (by kernel_rfl)))) (fun e29 =>
      Owp.some (triple_way (tourref2_Body.cok k) hmix [.res (.one (.dp T4)) y18, .dec false, .dec false, .dec false, .res (.one (.dp T4)) y21, .dec false, .dec false, .dec false, .dec false, .dec false, .res (.one (.dp T4)) y24, .dec false, .dec false, .dec false, .dec false, .dec false, .res (.one (.dp T4)) y27, .dec false, .dec false, .dec true, .dec true, .dec true, .dec true, .dec true, .dec true] [] [(0, 0)] (via (finP (And.intro (And.intro (And.intro (And.intro (And.intro (And.intro (And.intro (And.intro (And.intro (And.intro (And.intro (And.intro (And.intro (And.intro (And.intro (And.intro (And.intro (And.intro (And.intro (And.intro (And.intro trivial e19) (congrArg not e20)) (congrArg not e20)) (And.intro (congrArg not e20) e22)) (congrArg not e20)) (congrArg not e20)) (congrArg not e23)) (congrArg not e23)) (And.intro (congrArg not e23) e25)) (congrArg not e23)) (congrArg not e23)) (congrArg not e26)) (congrArg not e26)) (And.intro (congrArg not e26) e28)) (congrArg not e26)) (congrArg not e26)) (congrArg not e29)) (congrArg not e29)) (congrArg not e29)) (congrArg not e29)) (congrArg not e29)) .normal [(0, 0)] (tourref2_Body.c2q a0 true)) (by kernel_rfl))))) (fun e26 =>
     Owp.some (triple_way (tourref2_Body.cok k) hmix [.res (.one (.dp T4)) y18, .dec false, .dec false, .dec false, .res (.one (.dp T4)) y21, .dec false, .dec false, .dec false, .dec false, .dec false, .res (.one (.dp T4)) y24, .dec false, .dec false, .dec true, .dec true, .dec true, .dec true, .dec true, .dec true, .dec true, .dec true, .dec true, .dec true, .dec true, .dec true] [] [(0, 0)] (via (finP (And.intro (And.intro (And.intro (And.intro (And.intro (And.intro (And.intro (And.intro (And.intro (And.intro (And.intro (And.intro (And.intro (And.intro (And.intro (And.intro (And.intro (And.intro (And.intro (And.intro (And.intro trivial e19) (congrArg not e20)) (congrArg not e20)) (And.intro (congrArg not e20) e22)) (congrArg not e20)) (congrArg not e20)) (congrArg not e23)) (congrArg not e23)) (And.intro (congrArg not e23) e25)) (congrArg not e23)) (congrArg not e23)) (congrArg not e26)) (congrArg not e26)) (congrArg not e26)) (congrArg not e26)) (congrArg not e26)) tt) tt) tt) tt) tt) .normal [(0, 0)] (tourref2_Body.c2q a0 true)) (by kernel_rfl))))) (fun e23 =>
    Owp.some (triple_way (tourref2_Body.cok k) hmix [.res (.one (.dp T4)) y18, .dec false, .dec false, .dec false, .res (.one (.dp T4)) y21, .dec false, .dec false, .dec true, .dec true, .dec true, .dec true, .dec true, .dec true, .dec true, .dec true, .dec true, .dec true, .dec true, .dec true, .dec true, .dec true, .dec true, .dec true, .dec true, .dec true] [] [(0, 0)] (via (finP (And.intro (And.intro (And.intro (And.intro (And.intro (And.intro (And.intro (And.intro (And.intro (And.intro (And.intro (And.intro (And.intro (And.intro (And.intro (And.intro (And.intro (And.intro (And.intro (And.intro (And.intro trivial e19) (congrArg not e20)) (congrArg not e20)) (And.intro (congrArg not e20) e22)) (congrArg not e20)) (congrArg not e20)) (congrArg not e23)) (congrArg not e23)) (congrArg not e23)) (congrArg not e23)) (congrArg not e23)) tt) tt) tt) tt) tt) tt) tt) tt) tt) tt) .normal [(0, 0)] (tourref2_Body.c2q a0 true)) (by kernel_rfl))))) (fun e20 =>
   Owp.some (triple_way (tourref2_Body.cok k) hmix [.res (.one (.dp T4)) y18, .dec true, .dec true, .dec true, .dec true, .dec true, .dec true, .dec true, .dec true, .dec true, .dec true, .dec true, .dec true, .dec true, .dec true, .dec true, .dec true, .dec true, .dec true, .dec true, .dec true, .dec true, .dec true, .dec true, .dec true] [] [(0, 0)] (via (finP (And.intro (And.intro (And.intro (And.intro (And.intro (And.intro (And.intro (And.intro (And.intro (And.intro (And.intro (And.intro (And.intro (And.intro (And.intro (And.intro (And.intro (And.intro (And.intro (And.intro (And.intro trivial e19) (congrArg not e20)) (congrArg not e20)) (congrArg not e20)) (congrArg not e20)) (congrArg not e20)) tt) tt) tt) tt) tt) tt) tt) tt) tt) tt) tt) tt) tt) tt) tt) .normal [(0, 0)] (tourref2_Body.c2q a0 true)) (by kernel_rfl))))
noncomputable def tourref2_Body.c3p (a0 : V49) : SL := ⟨[(1, (.val .ptr ⟨0, 0, (0 : Int), 0, 0⟩))], [(0, .cells T49 a0)]⟩
noncomputable def tourref2_Body.c3q (a0 : V49) (o : Bool) : SL := (fun v => ⟨[(1, (.val .ptr ⟨0, 0, (0 : Int), 0, 0⟩)), (4, (.val T4 v))], [(0, .cells T49 a0)]⟩) o
noncomputable def tourref2_Body.c3x (o : Bool) : Ex := (fun _ => .normal) o
noncomputable def tourref2_Body.c3n (o : Bool) : Nat := (fun _ => 1) o
theorem tourref2_Body.c3_ok (k : Nat) (a0 : V49) : Owp (tourref2_Body.c3 k a0) fun o => Triple PR (tourref2_Body.cx k) (sub tourref2_Body.code [1, 1, 1, 1, 0]) 1 (tourref2_Body.c3p a0) (tourref2_Body.c3x o) (tourref2_Body.c3n o) (tourref2_Body.c3q a0 o) := by
  unfold tourref2_Body.c3; exact
   Owp.bif (fun e35 =>
   Owp.some (triple_way (tourref2_Body.cok k) hmix [.dec true, .dec true, .dec true, .dec true, .dec true, .dec true, .dec true, .dec true, .dec true] [] [(0, 0)] (via (finP (And.intro (And.intro (And.intro (And.intro (And.intro (And.intro (And.intro (And.intro (And.intro trivial e35) e35) e35) e35) e35) tt) tt) tt) tt) .normal [(0, 0)] (tourref2_Body.c3q a0 true)) (by kernel_rfl)))) (fun e35 =>
   Owp.bif (fun e36 =>
    Owp.some (triple_way (tourref2_Body.cok k) hmix [.dec false, .dec false, .dec false, .dec false, .dec false, .dec true, .dec true, .dec true, .dec true] [] [(0, 0)] (via (finP (And.intro (And.intro (And.intro (And.intro (And.intro (And.intro (And.intro (And.intro (And.intro trivial e35) e35) e35) e35) e35) e36) e36) e36) e36) .normal [(0, 0)] (tourref2_Body.c3q a0 true)) (by kernel_rfl)))) (fun e36 =>
    Owp.some (triple_way (tourref2_Body.cok k) hmix [.dec false, .dec false, .dec false, .dec false, .dec false, .dec false, .dec false, .dec false, .dec false] [] [(0, 0)] (via (finP (And.intro (And.intro (And.intro (And.intro (And.intro (And.intro (And.intro (And.intro (And.intro trivial e35) e35) e35) e35) e35) e36) e36) e36) e36) .normal [(0, 0)] (tourref2_Body.c3q a0 (ine a0.2.2.2.1 (0 : Int)))) (by kernel_rfl)))))
noncomputable def tourref2_Body.c4p (a0 : V49) (o37 : Bool) : SL := ⟨[(1, (.val .ptr ⟨0, 0, (0 : Int), 0, 0⟩)), (4, (.val T4 o37))], [(0, .cells T49 a0)]⟩
noncomputable def tourref2_Body.c4q (a0 : V49) (o37 : Bool) (o : Bool) : SL := (fun v => ⟨[(1, (.val .ptr ⟨0, 0, (0 : Int), 0, 0⟩)), (4, (.val T4 o37)), (76, (.val T4 v))], [(0, .cells T49 a0)]⟩) o
noncomputable def tourref2_Body.c4x (o : Bool) : Ex := (fun _ => .normal) o
noncomputable def tourref2_Body.c4n (o : Bool) : Nat := (fun _ => 1) o
theorem tourref2_Body.c4_ok (k : Nat) (a0 : V49) (o37 : Bool) : Owp (tourref2_Body.c4 k a0) fun o => Triple PR (tourref2_Body.cx k) (sub tourref2_Body.code [1, 1, 1, 1, 1, 0, 0, 0, 0]) 1 (tourref2_Body.c4p a0 o37) (tourref2_Body.c4x o) (tourref2_Body.c4n o) (tourref2_Body.c4q a0 o37 o) := by
  unfold tourref2_Body.c4; exact
   Owp.bif (fun e39 =>
   Owp.some (triple_way (tourref2_Body.cok k) hmix [.dec true, .dec true, .dec true, .dec true] [] [(0, 0)] (via (finP (And.intro (And.intro (And.intro (And.intro trivial e39) e39) e39) e39) .normal [(0, 0)] (tourref2_Body.c4q a0 o37 (igt a0.2.2.2.2.2.1 (0 : Int)))) (by kernel_rfl)))) (fun e39 =>
   Owp.some (triple_way (tourref2_Body.cok k) hmix [.dec false, .dec false, .dec false, .dec false] [] [(0, 0)] (via (finP (And.intro (And.intro (And.intro (And.intro trivial e39) e39) e39) e39) .normal [(0, 0)] (tourref2_Body.c4q a0 o37 false)) (by kernel_rfl))))
noncomputable def tourref2_Body.c5p (a0 : V49) (o37 : Bool) (o40 : Bool) : SL := ⟨[(1, (.val .ptr ⟨0, 0, (0 : Int), 0, 0⟩)), (4, (.val T4 o37)), (76, (.val T4 o40))], [(0, .cells T49 a0)]⟩
noncomputable def tourref2_Body.c5q (a0 : V49) (o37 : Bool) (o : Bool) : SL := (fun v => ⟨[(1, (.val .ptr ⟨0, 0, (0 : Int), 0, 0⟩)), (4, (.val T4 o37)), (76, (.val T4 v))], [(0, .cells T49 a0)]⟩) o
noncomputable def tourref2_Body.c5x (o : Bool) : Ex := (fun _ => .normal) o
noncomputable def tourref2_Body.c5n (o : Bool) : Nat := (fun _ => 1) o
theorem tourref2_Body.c5_ok (k : Nat) (a0 : V49) (o37 : Bool) (o40 : Bool) : Owp (tourref2_Body.c5 k a0 o40) fun o => Triple PR (tourref2_Body.cx k) (sub tourref2_Body.code [1, 1, 1, 1, 1, 0, 0, 0, 1]) 1 (tourref2_Body.c5p a0 o37 o40) (tourref2_Body.c5x o) (tourref2_Body.c5n o) (tourref2_Body.c5q a0 o37 o) := by
  unfold tourref2_Body.c5; exact
   Owp.bif (fun e42 =>
   Owp.some (triple_way (tourref2_Body.cok k) hmix [.dec true] [] [(0, 0)] (via (finP (And.intro trivial e42) .normal [(0, 0)] (tourref2_Body.c5q a0 o37 o40)) (by kernel_rfl)))) (fun e42 =>
   Owp.bif (fun e43 =>
    Owp.some (triple_way (tourref2_Body.cok k) hmix [.dec false, .dec true, .dec true, .dec true, .dec true] [] [(0, 0)] (via (finP (And.intro (And.intro (And.intro (And.intro (And.intro trivial e42) e43) e43) e43) e43) .normal [(0, 0)] (tourref2_Body.c5q a0 o37 (ieq a0.2.2.2.2.2.1 (0 : Int)))) (by kernel_rfl)))) (fun e43 =>
    Owp.some (triple_way (tourref2_Body.cok k) hmix [.dec false, .dec false, .dec false, .dec false, .dec false] [] [(0, 0)] (via (finP (And.intro (And.intro (And.intro (And.intro (And.intro trivial e42) e43) e43) e43) e43) .normal [(0, 0)] (tourref2_Body.c5q a0 o37 false)) (by kernel_rfl)))))
noncomputable def tourref2_Body.c6p (a0 : V49) (o37 : Bool) : SL := ⟨[(1, (.val .ptr ⟨0, 0, (0 : Int), 0, 0⟩)), (4, (.val T4 o37))], [(0, .cells T49 a0)]⟩
noncomputable def tourref2_Body.c6q (a0 : V49) (o37 : Bool) (o : Bool) : SL := (fun v => ⟨[(1, (.val .ptr ⟨0, 0, (0 : Int), 0, 0⟩)), (4, (.val T4 o37)), (93, (.val T4 v))], [(0, .cells T49 a0)]⟩) o
noncomputable def tourref2_Body.c6x (o : Bool) : Ex := (fun _ => .normal) o
noncomputable def tourref2_Body.c6n (o : Bool) : Nat := (fun _ => 1) o
theorem tourref2_Body.c6_ok (k : Nat) (a0 : V49) (o37 : Bool) : Owp (tourref2_Body.c6 k a0 o37) fun o => Triple PR (tourref2_Body.cx k) (sub tourref2_Body.code [1, 1, 1, 1, 1, 0, 0, 1, 1, 0]) 1 (tourref2_Body.c6p a0 o37) (tourref2_Body.c6x o) (tourref2_Body.c6n o) (tourref2_Body.c6q a0 o37 o) := by
  unfold tourref2_Body.c6; exact
   Owp.bif (fun e47 =>
   Owp.bif (fun e48 =>
    Owp.some (triple_way (tourref2_Body.cok k) hmix [.dec true, .dec true, .dec true, .dec true, .dec true, .dec true, .dec true, .dec true, .dec true, .dec true, .dec true, .dec true, .dec true] [] [(0, 0)] (via (finP (And.intro (And.intro (And.intro (And.intro (And.intro (And.intro (And.intro (And.intro (And.intro (And.intro (And.intro trivial e47) e47) e48) e48) (And.intro e47 e48)) e47) tt) tt) tt) (And.intro e47 tt)) e47) .normal [(0, 0)] (tourref2_Body.c6q a0 o37 true)) (by kernel_rfl)))) (fun e48 =>
    Owp.bif (fun e49 =>
     Owp.some (triple_way (tourref2_Body.cok k) hmix [.dec true, .dec true, .dec false, .dec false, .dec true, .dec false, .dec true, .dec true, .dec true, .dec true, .dec true, .dec true, .dec true] [] [(0, 0)] (via (finP (And.intro (And.intro (And.intro (And.intro (And.intro (And.intro (And.intro (And.intro (And.intro (And.intro (And.intro trivial e47) e47) e48) e48) (And.intro e47 e48)) e47) e49) e49) e49) (And.intro e47 e49)) e47) .normal [(0, 0)] (tourref2_Body.c6q a0 o37 true)) (by kernel_rfl)))) (fun e49 =>
     Owp.some (triple_way (tourref2_Body.cok k) hmix [.dec true, .dec true, .dec false, .dec false, .dec true, .dec false, .dec true, .dec false, .dec false, .dec false, .dec true, .dec false, .dec true] [] [(0, 0)] (via (finP (And.intro (And.intro (And.intro (And.intro (And.intro (And.intro (And.intro (And.intro (And.intro (And.intro (And.intro trivial e47) e47) e48) e48) (And.intro e47 e48)) e47) e49) e49) e49) (And.intro e47 e49)) e47) .normal [(0, 0)] (tourref2_Body.c6q a0 o37 (igt a0.2.2.2.2.2.2.2.2.2.2.1 (0 : Int)))) (by kernel_rfl)))))) (fun e47 =>
   Owp.some (triple_way (tourref2_Body.cok k) hmix [.dec false, .dec false, .dec true, .dec true, .dec false, .dec true, .dec false, .dec true, .dec true, .dec true, .dec false, .dec true, .dec false] [] [(0, 0)] (via (finP (And.intro (And.intro (And.intro (And.intro (And.intro (And.intro trivial e47) e47) e47) e47) e47) e47) .normal [(0, 0)] (tourref2_Body.c6q a0 o37 false)) (by kernel_rfl))))
noncomputable def tourref2_Body.c7p (a0 : V49) (o37 : Bool) : SL := ⟨[(1, (.val .ptr ⟨0, 0, (0 : Int), 0, 0⟩)), (4, (.val T4 o37))], [(0, .cells T49 a0)]⟩
noncomputable def tourref2_Body.c7q (o : Bool) : SL := (fun v => ⟨[(109, (.val T4 v))], []⟩) o
noncomputable def tourref2_Body.c7x (o : Bool) : Ex := (fun _ => .normal) o
noncomputable def tourref2_Body.c7n (o : Bool) : Nat := (fun _ => 0) o
theorem tourref2_Body.c7_ok (k : Nat) (a0 : V49) (o37 : Bool) : Owp (tourref2_Body.c7 k a0 o37) fun o => Triple PR (tourref2_Body.cx k) (sub tourref2_Body.code [1, 1, 1, 1, 1, 0, 0, 1, 1, 1, 1, 0]) 1 (tourref2_Body.c7p a0 o37) (tourref2_Body.c7x o) (tourref2_Body.c7n o) (tourref2_Body.c7q o) := by
  unfold tourref2_Body.c7; exact
   Owp.bif (fun e53 =>
   Owp.some (triple_way (tourref2_Body.cok k) hmix [.dec true, .dec true] [] [] (via (finP (And.intro (And.intro trivial e53) e53) .normal [] (tourref2_Body.c7q o37)) (by kernel_rfl)))) (fun e53 =>
   Owp.some (triple_way (tourref2_Body.cok k) hmix [.dec false, .dec false] [] [] (via (finP (And.intro (And.intro trivial e53) e53) .normal [] (tourref2_Body.c7q false)) (by kernel_rfl))))
theorem tourref2_Body.way (k : Nat) (a0 : V49) : Owp (tourref2_Body k a0) fun y => ∃ answers cmds, exec PR (tourref2_Body.cx k) tourref2_Body.code 0 (entry (.pair T49 .unit) (a0, ())).st answers (Ret (tourref2_Body.cx k) Try.f113 cmds (.one (.dp T2)) y) := by
  unfold tourref2_Body; exact
   Owp.bnd fun y1 e2 =>
   Owp.bif (fun e3 =>
   Owp.some (⟨[.res (.one (.dp T2)) y1, .dec true], [], via (retP (And.intro (And.intro trivial e2) e3) (.one (.dp T2)) (y1 : Int)) (by kernel_rfl)⟩)) (fun e3 =>
   Owp.bnd fun o15 e16 =>
    Owp.bif (fun e17 =>
    Owp.some (⟨[.res (.one (.dp T2)) y1, .dec false, .cutR 4 ⟨[], [(0, 0)], (tourref2_Body.c1p a0), 1, .normal, (tourref2_Body.c1q a0 o15), 1⟩, .dec true], [], via (cutP (And.intro (And.intro trivial e2) e3) [(0, 0)] (tourref2_Body.c1p a0) (((tourref2_Body.c1_ok k a0).ap e16)) (retP (And.intro trivial e17) (.one (.dp T2)) ((1 : Int) : Int))) (by kernel_rfl)⟩)) (fun e17 =>
    Owp.bnd fun o32 e33 =>
     Owp.bif (fun e34 =>
     Owp.some (⟨[.res (.one (.dp T2)) y1, .dec false, .cutR 4 ⟨[], [(0, 0)], (tourref2_Body.c1p a0), 1, .normal, (tourref2_Body.c1q a0 o15), 1⟩, .dec false, .cutR 6 ⟨[], [(0, 0)], (tourref2_Body.c2p a0), 1, .normal, (tourref2_Body.c2q a0 o32), 1⟩, .dec true], [], via (cutP (And.intro (And.intro trivial e2) e3) [(0, 0)] (tourref2_Body.c1p a0) (((tourref2_Body.c1_ok k a0).ap e16)) (cutP (And.intro trivial e17) [(0, 0)] (tourref2_Body.c2p a0) (((tourref2_Body.c2_ok k a0).ap e33)) (retP (And.intro trivial e34) (.one (.dp T2)) ((1 : Int) : Int)))) (by kernel_rfl)⟩)) (fun e34 =>
     Owp.bnd fun o37 e38 =>
      Owp.bnd fun o40 e41 =>
      Owp.bnd fun o44 e45 =>
      Owp.bif (fun e46 =>
      Owp.some (⟨[.res (.one (.dp T2)) y1, .dec false, .cutR 4 ⟨[], [(0, 0)], (tourref2_Body.c1p a0), 1, .normal, (tourref2_Body.c1q a0 o15), 1⟩, .dec false, .cutR 6 ⟨[], [(0, 0)], (tourref2_Body.c2p a0), 1, .normal, (tourref2_Body.c2q a0 o32), 1⟩, .dec false, .cutR 8 ⟨[], [(0, 0)], (tourref2_Body.c3p a0), 1, .normal, (tourref2_Body.c3q a0 o37), 1⟩, .cutR 9 ⟨[], [(0, 0)], (tourref2_Body.c4p a0 o37), 1, .normal, (tourref2_Body.c4q a0 o37 o40), 1⟩, .cut ⟨[], [(0, 0)], (tourref2_Body.c5p a0 o37 o40), 1, .normal, (tourref2_Body.c5q a0 o37 o44), 1⟩, .dec true], [], via (cutP (And.intro (And.intro trivial e2) e3) [(0, 0)] (tourref2_Body.c1p a0) (((tourref2_Body.c1_ok k a0).ap e16)) (cutP (And.intro trivial e17) [(0, 0)] (tourref2_Body.c2p a0) (((tourref2_Body.c2_ok k a0).ap e33)) (cutP (And.intro trivial e34) [(0, 0)] (tourref2_Body.c3p a0) (((tourref2_Body.c3_ok k a0).ap e38)) (cutP trivial [(0, 0)] (tourref2_Body.c4p a0 o37) (((tourref2_Body.c4_ok k a0 o37).ap e41)) (cutP trivial [(0, 0)] (tourref2_Body.c5p a0 o37 o40) (((tourref2_Body.c5_ok k a0 o37 o40).ap e45)) (retP (And.intro trivial e46) (.one (.dp T2)) ((3 : Int) : Int))))))) (by kernel_rfl)⟩)) (fun e46 =>
      Owp.bnd fun o50 e51 =>
       Owp.bif (fun e52 =>
       Owp.some (⟨[.res (.one (.dp T2)) y1, .dec false, .cutR 4 ⟨[], [(0, 0)], (tourref2_Body.c1p a0), 1, .normal, (tourref2_Body.c1q a0 o15), 1⟩, .dec false, .cutR 6 ⟨[], [(0, 0)], (tourref2_Body.c2p a0), 1, .normal, (tourref2_Body.c2q a0 o32), 1⟩, .dec false, .cutR 8 ⟨[], [(0, 0)], (tourref2_Body.c3p a0), 1, .normal, (tourref2_Body.c3q a0 o37), 1⟩, .cutR 9 ⟨[], [(0, 0)], (tourref2_Body.c4p a0 o37), 1, .normal, (tourref2_Body.c4q a0 o37 o40), 1⟩, .cut ⟨[], [(0, 0)], (tourref2_Body.c5p a0 o37 o40), 1, .normal, (tourref2_Body.c5q a0 o37 o44), 1⟩, .dec false, .cutR 12 ⟨[], [(0, 0)], (tourref2_Body.c6p a0 o37), 1, .normal, (tourref2_Body.c6q a0 o37 o50), 1⟩, .dec true], [], via (cutP (And.intro (And.intro trivial e2) e3) [(0, 0)] (tourref2_Body.c1p a0) (((tourref2_Body.c1_ok k a0).ap e16)) (cutP (And.intro trivial e17) [(0, 0)] (tourref2_Body.c2p a0) (((tourref2_Body.c2_ok k a0).ap e33)) (cutP (And.intro trivial e34) [(0, 0)] (tourref2_Body.c3p a0) (((tourref2_Body.c3_ok k a0).ap e38)) (cutP trivial [(0, 0)] (tourref2_Body.c4p a0 o37) (((tourref2_Body.c4_ok k a0 o37).ap e41)) (cutP trivial [(0, 0)] (tourref2_Body.c5p a0 o37 o40) (((tourref2_Body.c5_ok k a0 o37 o40).ap e45)) (cutP (And.intro trivial e46) [(0, 0)] (tourref2_Body.c6p a0 o37) (((tourref2_Body.c6_ok k a0 o37).ap e51)) (retP (And.intro trivial e52) (.one (.dp T2)) ((3 : Int) : Int)))))))) (by kernel_rfl)⟩)) (fun e52 =>
       Owp.bnd fun o54 e55 =>
        Owp.bif (fun e56 =>
        Owp.some (⟨[.res (.one (.dp T2)) y1, .dec false, .cutR 4 ⟨[], [(0, 0)], (tourref2_Body.c1p a0), 1, .normal, (tourref2_Body.c1q a0 o15), 1⟩, .dec false, .cutR 6 ⟨[], [(0, 0)], (tourref2_Body.c2p a0), 1, .normal, (tourref2_Body.c2q a0 o32), 1⟩, .dec false, .cutR 8 ⟨[], [(0, 0)], (tourref2_Body.c3p a0), 1, .normal, (tourref2_Body.c3q a0 o37), 1⟩, .cutR 9 ⟨[], [(0, 0)], (tourref2_Body.c4p a0 o37), 1, .normal, (tourref2_Body.c4q a0 o37 o40), 1⟩, .cut ⟨[], [(0, 0)], (tourref2_Body.c5p a0 o37 o40), 1, .normal, (tourref2_Body.c5q a0 o37 o44), 1⟩, .dec false, .cutR 12 ⟨[], [(0, 0)], (tourref2_Body.c6p a0 o37), 1, .normal, (tourref2_Body.c6q a0 o37 o50), 1⟩, .dec false, .cutR 14 ⟨[], [(0, 0)], (tourref2_Body.c7p a0 o37), 1, .normal, (tourref2_Body.c7q o54), 0⟩, .dec true], [], via (cutP (And.intro (And.intro trivial e2) e3) [(0, 0)] (tourref2_Body.c1p a0) (((tourref2_Body.c1_ok k a0).ap e16)) (cutP (And.intro trivial e17) [(0, 0)] (tourref2_Body.c2p a0) (((tourref2_Body.c2_ok k a0).ap e33)) (cutP (And.intro trivial e34) [(0, 0)] (tourref2_Body.c3p a0) (((tourref2_Body.c3_ok k a0).ap e38)) (cutP trivial [(0, 0)] (tourref2_Body.c4p a0 o37) (((tourref2_Body.c4_ok k a0 o37).ap e41)) (cutP trivial [(0, 0)] (tourref2_Body.c5p a0 o37 o40) (((tourref2_Body.c5_ok k a0 o37 o40).ap e45)) (cutP (And.intro trivial e46) [(0, 0)] (tourref2_Body.c6p a0 o37) (((tourref2_Body.c6_ok k a0 o37).ap e51)) (cutP (And.intro trivial e52) [(0, 0)] (tourref2_Body.c7p a0 o37) (((tourref2_Body.c7_ok k a0 o37).ap e55)) (retP (And.intro trivial e56) (.one (.dp T2)) ((3 : Int) : Int))))))))) (by kernel_rfl)⟩)) (fun e56 =>
        Owp.some (⟨[.res (.one (.dp T2)) y1, .dec false, .cutR 4 ⟨[], [(0, 0)], (tourref2_Body.c1p a0), 1, .normal, (tourref2_Body.c1q a0 o15), 1⟩, .dec false, .cutR 6 ⟨[], [(0, 0)], (tourref2_Body.c2p a0), 1, .normal, (tourref2_Body.c2q a0 o32), 1⟩, .dec false, .cutR 8 ⟨[], [(0, 0)], (tourref2_Body.c3p a0), 1, .normal, (tourref2_Body.c3q a0 o37), 1⟩, .cutR 9 ⟨[], [(0, 0)], (tourref2_Body.c4p a0 o37), 1, .normal, (tourref2_Body.c4q a0 o37 o40), 1⟩, .cut ⟨[], [(0, 0)], (tourref2_Body.c5p a0 o37 o40), 1, .normal, (tourref2_Body.c5q a0 o37 o44), 1⟩, .dec false, .cutR 12 ⟨[], [(0, 0)], (tourref2_Body.c6p a0 o37), 1, .normal, (tourref2_Body.c6q a0 o37 o50), 1⟩, .dec false, .cutR 14 ⟨[], [(0, 0)], (tourref2_Body.c7p a0 o37), 1, .normal, (tourref2_Body.c7q o54), 0⟩, .dec false], [], via (cutP (And.intro (And.intro trivial e2) e3) [(0, 0)] (tourref2_Body.c1p a0) (((tourref2_Body.c1_ok k a0).ap e16)) (cutP (And.intro trivial e17) [(0, 0)] (tourref2_Body.c2p a0) (((tourref2_Body.c2_ok k a0).ap e33)) (cutP (And.intro trivial e34) [(0, 0)] (tourref2_Body.c3p a0) (((tourref2_Body.c3_ok k a0).ap e38)) (cutP trivial [(0, 0)] (tourref2_Body.c4p a0 o37) (((tourref2_Body.c4_ok k a0 o37).ap e41)) (cutP trivial [(0, 0)] (tourref2_Body.c5p a0 o37 o40) (((tourref2_Body.c5_ok k a0 o37 o40).ap e45)) (cutP (And.intro trivial e46) [(0, 0)] (tourref2_Body.c6p a0 o37) (((tourref2_Body.c6_ok k a0 o37).ap e51)) (cutP (And.intro trivial e52) [(0, 0)] (tourref2_Body.c7p a0 o37) (((tourref2_Body.c7_ok k a0 o37).ap e55)) (retP (And.intro trivial e56) (.one (.dp T2)) ((0 : Int) : Int))))))))) (by kernel_rfl)⟩)))))))
theorem tourref2_Body.ok (k : Nat) : FnOk PR 113 (tourref2_Body.sp k) :=
  fn_ok (tourref2_Body.cok k) hmix Try.func113 (code := tourref2_Body.code) (by kernel_rfl) (by kernel_rfl) (by kernel_rfl) rfl rfl (by kernel_rfl) (by kernel_rfl) (by kernel_rfl) (fun x => Nat.le_of_ble_eq_true (by kernel_rfl)) fun x y hy => (tourref2_Body.way k x.1).ap hy

/-! tourney/tourref2.SameBody -/
noncomputable def tourref2_SameBody.code : Code := Func.cd Try.f131
def tourref2_SameBody (k : Nat) (a0 : V49) (a1 : V49) : Option Bool :=
  bif' (Ty.eqb T27 a0.1 a1.1)
  (bif' (Ty.eqb T27 a0.2.1 a1.2.1)
   (bif' (ieq a0.2.2.1 a1.2.2.1)
    (bif' (ieq a0.2.2.2.1 a1.2.2.2.1)
     (bif' (ieq a0.2.2.2.2.1 a1.2.2.2.2.1)
      (bif' (ieq a0.2.2.2.2.2.1 a1.2.2.2.2.2.1)
       (bif' (ieq a0.2.2.2.2.2.2.1 a1.2.2.2.2.2.2.1)
        (bif' (ieq a0.2.2.2.2.2.2.2.1 a1.2.2.2.2.2.2.2.1)
         (bif' (Ty.eqb T4 a0.2.2.2.2.2.2.2.2.2.1 a1.2.2.2.2.2.2.2.2.2.1)
          (bif' (ieq a0.2.2.2.2.2.2.2.2.2.2.1 a1.2.2.2.2.2.2.2.2.2.2.1)
           (bnd (slices_Equal k a0.2.2.2.2.2.2.2.2.1 a1.2.2.2.2.2.2.2.2.1) fun y11 =>
            some y11)
           (some false))
          (some false))
         (some false))
        (some false))
       (some false))
      (some false))
     (some false))
    (some false))
   (some false))
  (some false)
noncomputable def tourref2_SameBody.sp (k : Nat) : Go.Sx.Spec := ⟨(.pair T49 (.pair T49 .unit)), (.one (.dp T4)), fun x => tourref2_SameBody k x.1 x.2.1, false⟩
noncomputable def tourref2_SameBody.cx (k : Nat) : Go.Sx.Ctx := ⟨tys, [(16, slices_Equal.sp k)], eqs, 80, 0, [], false⟩
theorem tourref2_SameBody.cok (k : Nat) : CtxOk PR (tourref2_SameBody.cx k) := ctx_ok tysOk eqsOk (FnsOk.cons (slices_Equal.ok k) FnsOk.nil) HsOk.nil
theorem tourref2_SameBody.way (k : Nat) (a0 : V49) (a1 : V49) : Owp (tourref2_SameBody k a0 a1) fun y => ∃ answers cmds, exec PR (tourref2_SameBody.cx k) tourref2_SameBody.code 0 (entry (.pair T49 (.pair T49 .unit)) (a0, a1, ())).st answers (Ret (tourref2_SameBody.cx k) Try.f131 cmds (.one (.dp T4)) y) := by
  unfold tourref2_SameBody; exact
   Owp.bif (fun e1 =>
   Owp.bif (fun e2 =>
    Owp.bif (fun e3 =>
     Owp.bif (fun e4 =>
      Owp.bif (fun e5 =>
       Owp.bif (fun e6 =>
        Owp.bif (fun e7 =>
         Owp.bif (fun e8 =>
          Owp.bif (fun e9 =>
           Owp.bif (fun e10 =>
            Owp.bnd fun y11 e12 =>
             Owp.some (⟨[.dec true, .dec true, .dec true, .dec true, .dec true, .dec true, .dec true, .dec true, .dec true, .dec true, .dec true, .dec true, .dec true, .dec true, .dec true, .dec true, .dec true, .dec true, .dec true, .dec true, .dec true, .dec true, .dec true, .dec true, .dec true, .dec true, .dec true, .dec true, .dec true, .dec true, .dec true, .dec true, .dec true, .dec true, .dec true, .dec true, .dec true, .dec true, .dec true, .dec true, .dec true, .dec true, .dec true, .dec true, .dec true, .dec true, .dec true, .dec true, .dec true, .dec true, .dec true, .dec true, .dec true, .dec true, .dec true, .dec true, .dec true, .dec true, .dec true, .res (.one (.dp T4)) y11, .dec true], [], via (retP (And.intro (And.intro (And.intro (And.intro (And.intro (And.intro (And.intro (And.intro (And.intro (And.intro (And.intro (And.intro (And.intro (And.intro (And.intro (And.intro (And.intro (And.intro (And.intro (And.intro (And.intro (And.intro (And.intro (And.intro (And.intro (And.intro (And.intro (And.intro (And.intro (And.intro (And.intro (And.intro (And.intro (And.intro (And.intro (And.intro (And.intro (And.intro (And.intro (And.intro (And.intro (And.intro (And.intro (And.intro (And.intro (And.intro (And.intro (And.intro (And.intro (And.intro (And.intro (And.intro (And.intro (And.intro (And.intro (And.intro (And.intro (And.intro (And.intro (And.intro trivial e1) e1) e1) e1) e1) e1) e2) e2) e2) e2) e2) e2) e3) e3) e3) e3) e3) e3) e4) e4) e4) e4) e4) e4) e5) e5) e5) e5) e5) e5) e6) e6) e6) e6) e6) e6) e7) e7) e7) e7) e7) e7) e8) e8) e8) e8) e8) e8) e9) e9) e9) e9) e9) e9) e10) e10) e10) e10) (And.intro e10 e12)) e10) (.one (.dp T4)) (y11 : Bool)) (by kernel_rfl)⟩)) (fun e10 =>
            Owp.some (⟨[.dec true, .dec true, .dec true, .dec true, .dec true, .dec true, .dec true, .dec true, .dec true, .dec true, .dec true, .dec true, .dec true, .dec true, .dec true, .dec true, .dec true, .dec true, .dec true, .dec true, .dec true, .dec true, .dec true, .dec true, .dec true, .dec true, .dec true, .dec true, .dec true, .dec true, .dec true, .dec true, .dec true, .dec true, .dec true, .dec true, .dec true, .dec true, .dec true, .dec true, .dec true, .dec true, .dec true, .dec true, .dec true, .dec true, .dec true, .dec true, .dec true, .dec true, .dec true, .dec true, .dec true, .dec true, .dec false, .dec false, .dec false, .dec false, .dec false, .dec true, .dec false], [], via (retP (And.intro (And.intro (And.intro (And.intro (And.intro (And.intro (And.intro (And.intro (And.intro (And.intro (And.intro (And.intro (And.intro (And.intro (And.intro (And.intro (And.intro (And.intro (And.intro (And.intro (And.intro (And.intro (And.intro (And.intro (And.intro (And.intro (And.intro (And.intro (And.intro (And.intro (And.intro (And.intro (And.intro (And.intro (And.intro (And.intro (And.intro (And.intro (And.intro (And.intro (And.intro (And.intro (And.intro (And.intro (And.intro (And.intro (And.intro (And.intro (And.intro (And.intro (And.intro (And.intro (And.intro (And.intro (And.intro (And.intro (And.intro (And.intro (And.intro (And.intro trivial e1) e1) e1) e1) e1) e1) e2) e2) e2) e2) e2) e2) e3) e3) e3) e3) e3) e3) e4) e4) e4) e4) e4) e4) e5) e5) e5) e5) e5) e5) e6) e6) e6) e6) e6) e6) e7) e7) e7) e7) e7) e7) e8) e8) e8) e8) e8) e8) e9) e9) e9) e9) e9) e9) e10) e10) e10) e10) e10) e10) (.one (.dp T4)) (false : Bool)) (by kernel_rfl)⟩))) (fun e9 =>
           Owp.some (⟨[.dec true, .dec true, .dec true, .dec true, .dec true, .dec true, .dec true, .dec true, .dec true, .dec true, .dec true, .dec true, .dec true, .dec true, .dec true, .dec true, .dec true, .dec true, .dec true, .dec true, .dec true, .dec true, .dec true, .dec true, .dec true, .dec true, .dec true, .dec true, .dec true, .dec true, .dec true, .dec true, .dec true, .dec true, .dec true, .dec true, .dec true, .dec true, .dec true, .dec true, .dec true, .dec true, .dec true, .dec true, .dec true, .dec true, .dec true, .dec true, .dec false, .dec false, .dec false, .dec false, .dec false, .dec false, .dec false, .dec false, .dec false, .dec false, .dec false, .dec true, .dec false], [], via (retP (And.intro (And.intro (And.intro (And.intro (And.intro (And.intro (And.intro (And.intro (And.intro (And.intro (And.intro (And.intro (And.intro (And.intro (And.intro (And.intro (And.intro (And.intro (And.intro (And.intro (And.intro (And.intro (And.intro (And.intro (And.intro (And.intro (And.intro (And.intro (And.intro (And.intro (And.intro (And.intro (And.intro (And.intro (And.intro (And.intro (And.intro (And.intro (And.intro (And.intro (And.intro (And.intro (And.intro (And.intro (And.intro (And.intro (And.intro (And.intro (And.intro (And.intro (And.intro (And.intro (And.intro (And.intro (And.intro (And.intro (And.intro (And.intro (And.intro (And.intro trivial e1) e1) e1) e1) e1) e1) e2) e2) e2) e2) e2) e2) e3) e3) e3) e3) e3) e3) e4) e4) e4) e4) e4) e4) e5) e5) e5) e5) e5) e5) e6) e6) e6) e6) e6) e6) e7) e7) e7) e7) e7) e7) e8) e8) e8) e8) e8) e8) e9) e9) e9) e9) e9) e9) ff) ff) ff) ff) ff) ff) (.one (.dp T4)) (false : Bool)) (by kernel_rfl)⟩))) (fun e8 =>
          Owp.some (⟨[.dec true, .dec true, .dec true, .dec true, .dec true, .dec true, .dec true, .dec true, .dec true, .dec true, .dec true, .dec true, .dec true, .dec true, .dec true, .dec true, .dec true, .dec true, .dec true, .dec true, .dec true, .dec true, .dec true, .dec true, .dec true, .dec true, .dec true, .dec true, .dec true, .dec true, .dec true, .dec true, .dec true, .dec true, .dec true, .dec true, .dec true, .dec true, .dec true, .dec true, .dec true, .dec true, .dec false, .dec false, .dec false, .dec false, .dec false, .dec false, .dec false, .dec false, .dec false, .dec false, .dec false, .dec false, .dec false, .dec false, .dec false, .dec false, .dec false, .dec true, .dec false], [], via (retP (And.intro (And.intro (And.intro (And.intro (And.intro (And.intro (And.intro (And.intro (And.intro (And.intro (And.intro (And.intro (And.intro (And.intro (And.intro (And.intro (And.intro (And.intro (And.intro (And.intro (And.intro (And.intro (And.intro (And.intro (And.intro (And.intro (And.intro (And.intro (And.intro (And.intro (And.intro (And.intro (And.intro (And.intro (And.intro (And.intro (And.intro (And.intro (And.intro (And.intro (And.intro (And.intro (And.intro (And.intro (And.intro (And.intro (And.intro (And.intro (And.intro (And.intro (And.intro (And.intro (And.intro (And.intro (And.intro (And.intro (And.intro (And.intro (And.intro (And.intro trivial e1) e1) e1) e1) e1) e1) e2) e2) e2) e2) e2) e2) e3) e3) e3) e3) e3) e3) e4) e4) e4) e4) e4) e4) e5) e5) e5) e5) e5) e5) e6) e6) e6) e6) e6) e6) e7) e7) e7) e7) e7) e7) e8) e8) e8) e8) e8) e8) ff) ff) ff) ff) ff) ff) ff) ff) ff) ff) ff) ff) (.one (.dp T4)) (false : Bool)) (by kernel_rfl)⟩))) (fun e7 =>
         Owp.some (⟨[.dec true, .dec true, .dec true, .dec true, .dec true, .dec true, .dec true, .dec true, .dec true, .dec true, .dec true, .dec true, .dec true, .dec true, .dec true, .dec true, .dec true, .dec true, .dec true, .dec true, .dec true, .dec true, .dec true, .dec true, .dec true, .dec true, .dec true, .dec true, .dec true, .dec true, .dec true, .dec true, .dec true, .dec true, .dec true, .dec true, .dec false, .dec false, .dec false, .dec false, .dec false, .dec false, .dec false, .dec false, .dec false, .dec false, .dec false, .dec false, .dec false, .dec false, .dec false, .dec false, .dec false, .dec false, .dec false, .dec false, .dec false, .dec false, .dec false, .dec true, .dec false], [], via (retP (And.intro (And.intro (And.intro (And.intro (And.intro (And.intro (And.intro (And.intro (And.intro (And.intro (And.intro (And.intro (And.intro (And.intro (And.intro (And.intro (And.intro (And.intro (And.intro (And.intro (And.intro (And.intro (And.intro (And.intro (And.intro (And.intro (And.intro (And.intro (And.intro (And.intro (And.intro (And.intro (And.intro (And.intro (And.intro (And.intro (And.intro (And.intro (And.intro (And.intro (And.intro (And.intro (And.intro (And.intro (And.intro (And.intro (And.intro (And.intro (And.intro (And.intro (And.intro (And.intro (And.intro (And.intro (And.intro (And.intro (And.intro (And.intro (And.intro (And.intro trivial e1) e1) e1) e1) e1) e1) e2) e2) e2) e2) e2) e2) e3) e3) e3) e3) e3) e3) e4) e4) e4) e4) e4) e4) e5) e5) e5) e5) e5) e5) e6) e6) e6) e6) e6) e6) e7) e7) e7) e7) e7) e7) ff) ff) ff) ff) ff) ff) ff) ff) ff) ff) ff) ff) ff) ff) ff) ff) ff) ff) (.one (.dp T4)) (false : Bool)) (by kernel_rfl)⟩))) (fun e6 =>
        Owp.some (⟨[.dec true, .dec true, .dec true, .dec true, .dec true, .dec true, .dec true, .dec true, .dec true, .dec true, .dec true, .dec true, .dec true, .dec true, .dec true, .dec true, .dec true, .dec true, .dec true, .dec true, .dec true, .dec true, .dec true, .dec true, .dec true, .dec true, .dec true, .dec true, .dec true, .dec true, .dec false, .dec false, .dec false, .dec false, .dec false, .dec false, .dec false, .dec false, .dec false, .dec false, .dec false, .dec false, .dec false, .dec false, .dec false, .dec false, .dec false, .dec false, .dec false, .dec false, .dec false, .dec false, .dec false, .dec false, .dec false, .dec false, .dec false, .dec false, .dec false, .dec true, .dec false], [], via (retP (And.intro (And.intro (And.intro (And.intro (And.intro (And.intro (And.intro (And.intro (And.intro (And.intro (And.intro (And.intro (And.intro (And.intro (And.intro (And.intro (And.intro (And.intro (And.intro (And.intro (And.intro (And.intro (And.intro (And.intro (And.intro (And.intro (And.intro (And.intro (And.intro (And.intro (And.intro (And.intro (And.intro (And.intro (And.intro (And.intro (And.intro (And.intro (And.intro (And.intro (And.intro (And.intro (And.intro (And.intro (And.intro (And.intro (And.intro (And.intro (And.intro (And.intro (And.intro (And.intro (And.intro (And.intro (And.intro (And.intro (And.intro (And.intro (And.intro (And.intro trivial e1) e1) e1) e1) e1) e1) e2) e2) e2) e2) e2) e2) e3) e3) e3) e3) e3) e3) e4) e4) e4) e4) e4) e4) e5) e5) e5) e5) e5) e5) e6) e6) e6) e6) e6) e6) ff) ff) ff) ff) ff) ff) ff) ff) ff) ff) ff) ff) ff) ff) ff) ff) ff) ff) ff) ff) ff) ff) ff) ff) (.one (.dp T4)) (false : Bool)) (by kernel_rfl)⟩))) (fun e5 =>
       Owp.some (⟨[.dec true, .dec true, .dec true, .dec true, .dec true, .dec true, .dec true, .dec true, .dec true, .dec true, .dec true, .dec true, .dec true, .dec true, .dec true, .dec true, .dec true, .dec true, .dec true, .dec true, .dec true, .dec true, .dec true, .dec true, .dec false, .dec false, .dec false, .dec false, .dec false, .dec false, .dec false, .dec false, .dec false, .dec false, .dec false, .dec false, .dec false, .dec false, .dec false, .dec false, .dec false, .dec false, .dec false, .dec false, .dec false, .dec false, .dec false, .dec false, .dec false, .dec false, .dec false, .dec false, .dec false, .dec false, .dec false, .dec false, .dec false, .dec false, .dec false, .dec true, .dec false], [], via (retP (And.intro (And.intro (And.intro (And.intro (And.intro (And.intro (And.intro (And.intro (And.intro (And.intro (And.intro (And.intro (And.intro (And.intro (And.intro (And.intro (And.intro (And.intro (And.intro (And.intro (And.intro (And.intro (And.intro (And.intro (And.intro (And.intro (And.intro (And.intro (And.intro (And.intro (And.intro (And.intro (And.intro (And.intro (And.intro (And.intro (And.intro (And.intro (And.intro (And.intro (And.intro (And.intro (And.intro (And.intro (And.intro (And.intro (And.intro (And.intro (And.intro (And.intro (And.intro (And.intro (And.intro (And.intro (And.intro (And.intro (And.intro (And.intro (And.intro (And.intro trivial e1) e1) e1) e1) e1) e1) e2) e2) e2) e2) e2) e2) e3) e3) e3) e3) e3) e3) e4) e4) e4) e4) e4) e4) e5) e5) e5) e5) e5) e5) ff) ff) ff) ff) ff) ff) ff) ff) ff) ff) ff) ff) ff) ff) ff) ff) ff) ff) ff) ff) ff) ff) ff) ff) ff) ff) ff) ff) ff) ff) (.one (.dp T4)) (false : Bool)) (by kernel_rfl)⟩))) (fun e4 =>
      Owp.some (⟨[.dec true, .dec true, .dec true, .dec true, .dec true, .dec true, .dec true, .dec true, .dec true, .dec true, .dec true, .dec true, .dec true, .dec true, .dec true, .dec true, .dec true, .dec true, .dec false, .dec false, .dec false, .dec false, .dec false, .dec false, .dec false, .dec false, .dec false, .dec false, .dec false, .dec false, .dec false, .dec false, .dec false, .dec false, .dec false, .dec false, .dec false, .dec false, .dec false, .dec false, .dec false, .dec false, .dec false, .dec false, .dec false, .dec false, .dec false, .dec false, .dec false, .dec false, .dec false, .dec false, .dec false, .dec false, .dec false, .dec false, .dec false, .dec false, .dec false, .dec true, .dec false], [], via (retP (And.intro (And.intro (And.intro (And.intro (And.intro (And.intro (And.intro (And.intro (And.intro (And.intro (And.intro (And.intro (And.intro (And.intro (And.intro (And.intro (And.intro (And.intro (And.intro (And.intro (And.intro (And.intro (And.intro (And.intro (And.intro (And.intro (And.intro (And.intro (And.intro (And.intro (And.intro (And.intro (And.intro (And.intro (And.intro (And.intro (And.intro (And.intro (And.intro (And.intro (And.intro (And.intro (And.intro (And.intro (And.intro (And.intro (And.intro (And.intro (And.intro (And.intro (And.intro (And.intro (And.intro (And.intro (And.intro (And.intro (And.intro (And.intro (And.intro (And.intro trivial e1) e1) e1) e1) e1) e1) e2) e2) e2) e2) e2) e2) e3) e3) e3) e3) e3) e3) e4) e4) e4) e4) e4) e4) ff) ff) ff) ff) ff) ff) ff) ff) ff) ff) ff) ff) ff) ff) ff) ff) ff) ff) ff) ff) ff) ff) ff) ff) ff) ff) ff) ff) ff) ff) ff) ff) ff) ff) ff) ff) (.one (.dp T4)) (false : Bool)) (by kernel_rfl)⟩))) (fun e3 =>
     Owp.some (⟨[.dec true, .dec true, .dec true, .dec true, .dec true, .dec true, .dec true, .dec true, .dec true, .dec true, .dec true, .dec true, .dec false, .dec false, .dec false, .dec false, .dec false, .dec false, .dec false, .dec false, .dec false, .dec false, .dec false, .dec false, .dec false, .dec false, .dec false, .dec false, .dec false, .dec false, .dec false, .dec false, .dec false, .dec false, .dec false, .dec false, .dec false, .dec false, .dec false, .dec false, .dec false, .dec false, .dec false, .dec false, .dec false, .dec false, .dec false, .dec false, .dec false, .dec false, .dec false, .dec false, .dec false, .dec false, .dec false, .dec false, .dec false, .dec false, .dec false, .dec true, .dec false], [], via (retP (And.intro (And.intro (And.intro (And.intro (And.intro (And.intro (And.intro (And.intro (And.intro (And.intro (And.intro (And.intro (And.intro (And.intro (And.intro (And.intro (And.intro (And.intro (And.intro (And.intro (And.intro (And.intro (And.intro (And.intro (And.intro (And.intro (And.intro (And.intro (And.intro (And.intro (And.intro (And.intro (And.intro (And.intro (And.intro (And.intro (And.intro (And.intro (And.intro (And.intro (And.intro (And.intro (And.intro (And.intro (And.intro (And.intro (And.intro (And.intro (And.intro (And.intro (And.intro (And.intro (And.intro (And.intro (And.intro (And.intro (And.intro (And.intro (And.intro (And.intro trivial e1) e1) e1) e1) e1) e1) e2) e2) e2) e2) e2) e2) e3) e3) e3) e3) e3) e3) ff) ff) ff) ff) ff) ff) ff) ff) ff) ff) ff) ff) ff) ff) ff) ff) ff) ff) ff) ff) ff) ff) ff) ff) ff) ff) ff) ff) ff) ff) ff) ff) ff) ff) ff) ff) ff) ff) ff) ff) ff) ff) (.one (.dp T4)) (false : Bool)) (by kernel_rfl)⟩))) (fun e2 =>
    Owp.some (⟨[.dec true, .dec true, .dec true, .dec true, .dec true, .dec true, .dec false, .dec false, .dec false, .dec false, .dec false, .dec false, .dec false, .dec false, .dec false, .dec false, .dec false, .dec false, .dec false, .dec false, .dec false, .dec false, .dec false, .dec false, .dec false, .dec false, .dec false, .dec false, .dec false, .dec false, .dec false, .dec false, .dec false, .dec false, .dec false, .dec false, .dec false, .dec false, .dec false, .dec false, .dec false, .dec false, .dec false, .dec false, .dec false, .dec false, .dec false, .dec false, .dec false, .dec false, .dec false, .dec false, .dec false, .dec false, .dec false, .dec false, .dec false, .dec false, .dec false, .dec true, .dec false], [], via (retP (And.intro (And.intro (And.intro (And.intro (And.intro (And.intro (And.intro (And.intro (And.intro (And.intro (And.intro (And.intro (And.intro (And.intro (And.intro (And.intro (And.intro (And.intro (And.intro (And.intro (And.intro (And.intro (And.intro (And.intro (And.intro (And.intro (And.intro (And.intro (And.intro (And.intro (And.intro (And.intro (And.intro (And.intro (And.intro (And.intro (And.intro (And.intro (And.intro (And.intro (And.intro (And.intro (And.intro (And.intro (And.intro (And.intro (And.intro (And.intro (And.intro (And.intro (And.intro (And.intro (And.intro (And.intro (And.intro (And.intro (And.intro (And.intro (And.intro (And.intro trivial e1) e1) e1) e1) e1) e1) e2) e2) e2) e2) e2) e2) ff) ff) ff) ff) ff) ff) ff) ff) ff) ff) ff) ff) ff) ff) ff) ff) ff) ff) ff) ff) ff) ff) ff) ff) ff) ff) ff) ff) ff) ff) ff) ff) ff) ff) ff) ff) ff) ff) ff) ff) ff) ff) ff) ff) ff) ff) ff) ff) (.one (.dp T4)) (false : Bool)) (by kernel_rfl)⟩))) (fun e1 =>
   Owp.some (⟨[.dec false, .dec false, .dec false, .dec false, .dec false, .dec false, .dec false, .dec false, .dec false, .dec false, .dec false, .dec false, .dec false, .dec false, .dec false, .dec false, .dec false, .dec false, .dec false, .dec false, .dec false, .dec false, .dec false, .dec false, .dec false, .dec false, .dec false, .dec false, .dec false, .dec false, .dec false, .dec false, .dec false, .dec false, .dec false, .dec false, .dec false, .dec false, .dec false, .dec false, .dec false, .dec false, .dec false, .dec false, .dec false, .dec false, .dec false, .dec false, .dec false, .dec false, .dec false, .dec false, .dec false, .dec false, .dec false, .dec false, .dec false, .dec false, .dec false, .dec true, .dec false], [], via (retP (And.intro (And.intro (And.intro (And.intro (And.intro (And.intro (And.intro (And.intro (And.intro (And.intro (And.intro (And.intro (And.intro (And.intro (And.intro (And.intro (And.intro (And.intro (And.intro (And.intro (And.intro (And.intro (And.intro (And.intro (And.intro (And.intro (And.intro (And.intro (And.intro (And.intro (And.intro (And.intro (And.intro (And.intro (And.intro (And.intro (And.intro (And.intro (And.intro (And.intro (And.intro (And.intro (And.intro (And.intro (And.intro (And.intro (And.intro (And.intro (And.intro (And.intro (And.intro (And.intro (And.intro (And.intro (And.intro (And.intro (And.intro (And.intro (And.intro (And.intro trivial e1) e1) e1) e1) e1) e1) ff) ff) ff) ff) ff) ff) ff) ff) ff) ff) ff) ff) ff) ff) ff) ff) ff) ff) ff) ff) ff) ff) ff) ff) ff) ff) ff) ff) ff) ff) ff) ff) ff) ff) ff) ff) ff) ff) ff) ff) ff) ff) ff) ff) ff) ff) ff) ff) ff) ff) ff) ff) ff) ff) (.one (.dp T4)) (false : Bool)) (by kernel_rfl)⟩))
theorem tourref2_SameBody.ok (k : Nat) : FnOk PR 131 (tourref2_SameBody.sp k) :=
  fn_ok (tourref2_SameBody.cok k) hmix Try.func131 (code := tourref2_SameBody.code) (by kernel_rfl) (by kernel_rfl) (by kernel_rfl) rfl rfl (by kernel_rfl) (by kernel_rfl) (by kernel_rfl) (fun x => Nat.le_of_ble_eq_true (by kernel_rfl)) fun x y hy => (tourref2_SameBody.way k x.1 x.2.1).ap hy

/-! tourney/body.over -/
noncomputable def body_over.code : Code := Func.cd Try.f217
def body_over (k : Nat) (a0 : Int) (a1 : Int) : Option Int :=
  bnd (fix_Div k a0 a1) fun y1 =>
  some y1.1
noncomputable def body_over.sp (k : Nat) : Go.Sx.Spec := ⟨T27, (.one (.dp T2)), fun x => body_over k x.1 x.2.1, false⟩
noncomputable def body_over.cx (k : Nat) : Go.Sx.Ctx := ⟨tys, [(218, fix_Div.sp k)], eqs, 14, 0, [], false⟩
theorem body_over.cok (k : Nat) : CtxOk PR (body_over.cx k) := ctx_ok tysOk eqsOk (FnsOk.cons (fix_Div.ok k) FnsOk.nil) HsOk.nil
theorem body_over.way (k : Nat) (a0 : Int) (a1 : Int) : Owp (body_over k a0 a1) fun y => ∃ answers cmds, exec PR (body_over.cx k) body_over.code 0 (entry T27 (a0, a1, ())).st answers (Ret (body_over.cx k) Try.f217 cmds (.one (.dp T2)) y) := by
  unfold body_over; exact
   Owp.bnd fun y1 e2 =>
   Owp.some (⟨[.res (.more (.dp T2) (.one (.dp T2))) y1], [], via (retP (And.intro trivial e2) (.one (.dp T2)) (y1.1 : Int)) (by kernel_rfl)⟩)
theorem body_over.ok (k : Nat) : FnOk PR 217 (body_over.sp k) :=
  fn_ok (body_over.cok k) hmix Try.func217 (code := body_over.code) (by kernel_rfl) (by kernel_rfl) (by kernel_rfl) rfl rfl (by kernel_rfl) (by kernel_rfl) (by kernel_rfl) (fun x => Nat.le_of_ble_eq_true (by kernel_rfl)) fun x y hy => (body_over.way k x.1 x.2.1).ap hy

/-! tourney/body.Ease -/
noncomputable def body_Ease.code : Code := Func.cd Try.f173
def body_Ease.c1 (k : Nat) (a0 : V49) : Option (Bool) :=
  bnd (body_Check k a0) fun y1 =>
  bif' (ine y1 0)
  (some true)
  (bif' (ieq a0.2.2.2.2.1 0)
   (some true)
   (some a0.2.2.2.2.2.2.2.2.2.1))
def body_Ease (k : Nat) (a0 : V49) (a1 : V27) (a2 : V27) : Option Int :=
  bnd (body_Ease.c1 k a0) fun o5 =>
  bif' o5
  (some 0)
  (bnd (vec_Sub k a1 a0.1) fun y8 =>
   bnd (vec_Cross k y8 a2) fun y10 =>
   bnd (body_over k 65536 a0.2.2.2.2.1) fun y12 =>
   bnd (fix_Mul k y10 y10) fun y14 =>
   bnd (body_over k y14 a0.2.2.2.2.2.1) fun y16 =>
   bnd (fix_Add k y12 y16) fun y18 =>
   some y18)
noncomputable def body_Ease.sp (k : Nat) : Go.Sx.Spec := ⟨(.pair T49 T35), (.one (.dp T2)), fun x => body_Ease k x.1 x.2.1 x.2.2.1, false⟩
noncomputable def body_Ease.cx (k : Nat) : Go.Sx.Ctx := ⟨tys, [(151, body_Check.sp k), (55, vec_Sub.sp k), (216, vec_Cross.sp k), (217, body_over.sp k), (105, fix_Mul.sp k), (104, fix_Add.sp k)], eqs, 36, 0, [], false⟩
theorem body_Ease.cok (k : Nat) : CtxOk PR (body_Ease.cx k) := ctx_ok tysOk eqsOk (FnsOk.cons (body_Check.ok k) (FnsOk.cons (vec_Sub.ok k) (FnsOk.cons (vec_Cross.ok k) (FnsOk.cons (body_over.ok k) (FnsOk.cons (fix_Mul.ok k) (FnsOk.cons (fix_Add.ok k) FnsOk.nil)))))) HsOk.nil
noncomputable def body_Ease.c1p (a0 : V49) (a1 : V27) (a2 : V27) : SL := ⟨[(3, (.val .ptr ⟨0, 0, (0 : Int), 0, 0⟩)), (4, (.val .ptr ⟨1, 0, (0 : Int), 0, 0⟩)), (5, (.val .ptr ⟨2, 0, (0 : Int), 0, 0⟩))], [(0, .cells T49 a0), (1, .cells T27 a1), (2, .cells T27 a2)]⟩
noncomputable def body_Ease.c1q (a0 : V49) (a1 : V27) (a2 : V27) (o : Bool) : SL := (fun v => ⟨[(3, (.val .ptr ⟨0, 0, (0 : Int), 0, 0⟩)), (4, (.val .ptr ⟨1, 0, (0 : Int), 0, 0⟩)), (5, (.val .ptr ⟨2, 0, (0 : Int), 0, 0⟩)), (19, (.val T4 v))], [(0, .cells T49 a0), (1, .cells T27 a1), (2, .cells T27 a2)]⟩) o
noncomputable def body_Ease.c1x (o : Bool) : Ex := (fun _ => .normal) o
noncomputable def body_Ease.c1n (o : Bool) : Nat := (fun _ => 3) o
theorem body_Ease.c1_ok (k : Nat) (a0 : V49) (a1 : V27) (a2 : V27) : Owp (body_Ease.c1 k a0) fun o => Triple PR (body_Ease.cx k) (sub body_Ease.code [1, 0, 0]) 3 (body_Ease.c1p a0 a1 a2) (body_Ease.c1x o) (body_Ease.c1n o) (body_Ease.c1q a0 a1 a2 o) := by
  unfold body_Ease.c1; exact
   Owp.bnd fun y1 e2 =>
   Owp.bif (fun e3 =>
   Owp.some (triple_way (body_Ease.cok k) hmix [.res (.one (.dp T2)) y1, .dec true, .dec true, .dec true, .dec true, .dec true, .dec true, .dec true] [] [(0, 0), (1, 1), (2, 2)] (via (finP (And.intro (And.intro (And.intro (And.intro (And.intro (And.intro (And.intro (And.intro trivial e2) e3) e3) e3) e3) tt) tt) tt) .normal [(0, 0), (1, 1), (2, 2)] (body_Ease.c1q a0 a1 a2 true)) (by kernel_rfl)))) (fun e3 =>
   Owp.bif (fun e4 =>
    Owp.some (triple_way (body_Ease.cok k) hmix [.res (.one (.dp T2)) y1, .dec false, .dec false, .dec false, .dec false, .dec true, .dec true, .dec true] [] [(0, 0), (1, 1), (2, 2)] (via (finP (And.intro (And.intro (And.intro (And.intro (And.intro (And.intro (And.intro (And.intro trivial e2) e3) e3) e3) e3) e4) e4) e4) .normal [(0, 0), (1, 1), (2, 2)] (body_Ease.c1q a0 a1 a2 true)) (by kernel_rfl)))) (fun e4 =>
    Owp.some (triple_way (body_Ease.cok k) hmix [.res (.one (.dp T2)) y1, .dec false, .dec false, .dec false, .dec false, .dec false, .dec false, .dec false] [] [(0, 0), (1, 1), (2, 2)] (via (finP (And.intro (And.intro (And.intro (And.intro (And.intro (And.intro (And.intro (And.intro trivial e2) e3) e3) e3) e3) e4) e4) e4) .normal [(0, 0), (1, 1), (2, 2)] (body_Ease.c1q a0 a1 a2 a0.2.2.2.2.2.2.2.2.2.1)) (by kernel_rfl)))))
theorem body_Ease.way (k : Nat) (a0 : V49) (a1 : V27) (a2 : V27) : Owp (body_Ease k a0 a1 a2) fun y => ∃ answers cmds, exec PR (body_Ease.cx k) body_Ease.code 0 (entry (.pair T49 T35) (a0, a1, a2, ())).st answers (Ret (body_Ease.cx k) Try.f173 cmds (.one (.dp T2)) y) := by
  unfold body_Ease; exact
   Owp.bnd fun o5 e6 =>
   Owp.bif (fun e7 =>
   Owp.some (⟨[.cutR 1 ⟨[], [(0, 0), (1, 1), (2, 2)], (body_Ease.c1p a0 a1 a2), 3, .normal, (body_Ease.c1q a0 a1 a2 o5), 3⟩, .dec true], [], via (cutP trivial [(0, 0), (1, 1), (2, 2)] (body_Ease.c1p a0 a1 a2) (((body_Ease.c1_ok k a0 a1 a2).ap e6)) (retP (And.intro trivial e7) (.one (.dp T2)) ((0 : Int) : Int))) (by kernel_rfl)⟩)) (fun e7 =>
   Owp.bnd fun y8 e9 =>
    Owp.bnd fun y10 e11 =>
    Owp.bnd fun y12 e13 =>
    Owp.bnd fun y14 e15 =>
    Owp.bnd fun y16 e17 =>
    Owp.bnd fun y18 e19 =>
    Owp.some (⟨[.cutR 1 ⟨[], [(0, 0), (1, 1), (2, 2)], (body_Ease.c1p a0 a1 a2), 3, .normal, (body_Ease.c1q a0 a1 a2 o5), 3⟩, .dec false, .res (.one (.dp T27)) y8, .res (.one (.dp T2)) y10, .res (.one (.dp T2)) y12, .res (.one (.dp T2)) y14, .res (.one (.dp T2)) y16, .res (.one (.dp T2)) y18], [], via (cutP trivial [(0, 0), (1, 1), (2, 2)] (body_Ease.c1p a0 a1 a2) (((body_Ease.c1_ok k a0 a1 a2).ap e6)) (retP (And.intro (And.intro (And.intro (And.intro (And.intro (And.intro (And.intro trivial e7) e9) e11) e13) e15) e17) e19) (.one (.dp T2)) (y18 : Int))) (by kernel_rfl)⟩))
theorem body_Ease.ok (k : Nat) : FnOk PR 173 (body_Ease.sp k) :=
  fn_ok (body_Ease.cok k) hmix Try.func173 (code := body_Ease.code) (by kernel_rfl) (by kernel_rfl) (by kernel_rfl) rfl rfl (by kernel_rfl) (by kernel_rfl) (by kernel_rfl) (fun x => Nat.le_of_ble_eq_true (by kernel_rfl)) fun x y hy => (body_Ease.way k x.1 x.2.1 x.2.2.1).ap hy

/-! tourney/body.At -/
noncomputable def body_At.code : Code := Func.cd Try.f175
def body_At (k : Nat) (a0 : V49) (a1 : V27) : Option V27 :=
  bnd (body_Check k a0) fun y1 =>
  bif' (ine y1 0)
  (some (0, 0, ()))
  (bnd (vec_Sub k a1 a0.1) fun y4 =>
   bnd (fix_Mul k a0.2.2.2.1 411775) fun y6 =>
   bnd (fix_Mul k y6 y4.2.1) fun y8 =>
   bnd (fix_Sub k a0.2.1.1 y8) fun y10 =>
   bnd (fix_Mul k y6 y4.1) fun y12 =>
   bnd (fix_Add k a0.2.1.2.1 y12) fun y14 =>
   some (y10, y14, ()))
noncomputable def body_At.sp (k : Nat) : Go.Sx.Spec := ⟨(.pair T49 (.pair T27 .unit)), (.one (.dp T27)), fun x => body_At k x.1 x.2.1, false⟩
noncomputable def body_At.cx (k : Nat) : Go.Sx.Ctx := ⟨tys, [(151, body_Check.sp k), (55, vec_Sub.sp k), (105, fix_Mul.sp k), (127, fix_Sub.sp k), (104, fix_Add.sp k)], eqs, 35, 0, [], false⟩
theorem body_At.cok (k : Nat) : CtxOk PR (body_At.cx k) := ctx_ok tysOk eqsOk (FnsOk.cons (body_Check.ok k) (FnsOk.cons (vec_Sub.ok k) (FnsOk.cons (fix_Mul.ok k) (FnsOk.cons (fix_Sub.ok k) (FnsOk.cons (fix_Add.ok k) FnsOk.nil))))) HsOk.nil
theorem body_At.way (k : Nat) (a0 : V49) (a1 : V27) : Owp (body_At k a0 a1) fun y => ∃ answers cmds, exec PR (body_At.cx k) body_At.code 0 (entry (.pair T49 (.pair T27 .unit)) (a0, a1, ())).st answers (Ret (body_At.cx k) Try.f175 cmds (.one (.dp T27)) y) := by
  unfold body_At; exact
   Owp.bnd fun y1 e2 =>
   Owp.bif (fun e3 =>
   Owp.some (⟨[.res (.one (.dp T2)) y1, .dec true], [], via (retP (And.intro (And.intro trivial e2) e3) (.one (.dp T27)) (((0 : Int), (0 : Int), ()) : V27)) (by kernel_rfl)⟩)) (fun e3 =>
   Owp.bnd fun y4 e5 =>
    Owp.bnd fun y6 e7 =>
    Owp.bnd fun y8 e9 =>
    Owp.bnd fun y10 e11 =>
    Owp.bnd fun y12 e13 =>
    Owp.bnd fun y14 e15 =>
    Owp.some (⟨[.res (.one (.dp T2)) y1, .dec false, .res (.one (.dp T27)) y4, .res (.one (.dp T2)) y6, .res (.one (.dp T2)) y8, .res (.one (.dp T2)) y10, .res (.one (.dp T2)) y12, .res (.one (.dp T2)) y14], [], via (retP (And.intro (And.intro (And.intro (And.intro (And.intro (And.intro (And.intro (And.intro trivial e2) e3) e5) e7) e9) e11) e13) e15) (.one (.dp T27)) ((y10, y14, ()) : V27)) (by kernel_rfl)⟩))
theorem body_At.ok (k : Nat) : FnOk PR 175 (body_At.sp k) :=
  fn_ok (body_At.cok k) hmix Try.func175 (code := body_At.code) (by kernel_rfl) (by kernel_rfl) (by kernel_rfl) rfl rfl (by kernel_rfl) (by kernel_rfl) (by kernel_rfl) (fun x => Nat.le_of_ble_eq_true (by kernel_rfl)) fun x y hy => (body_At.way k x.1 x.2.1).ap hy

/-! tourney/body.own -/
noncomputable def body_own.code : Code := Func.cd Try.f219
def body_own (k : Nat) (a0 : V49) : Option V49 :=
  bnd (slices_Clone k a0.2.2.2.2.2.2.2.2.1) fun y1 =>
  some (a0.1, a0.2.1, a0.2.2.1, a0.2.2.2.1, a0.2.2.2.2.1, a0.2.2.2.2.2.1, a0.2.2.2.2.2.2.1, a0.2.2.2.2.2.2.2.1, y1, a0.2.2.2.2.2.2.2.2.2)
noncomputable def body_own.sp (k : Nat) : Go.Sx.Spec := ⟨(.pair T49 .unit), (.one (.dp T49)), fun x => body_own k x.1, false⟩
noncomputable def body_own.cx (k : Nat) : Go.Sx.Ctx := ⟨tys, [(87, (slices_Clone.sp k).frz)], eqs, 8, 0, [], false⟩
theorem body_own.cok (k : Nat) : CtxOk PR (body_own.cx k) := ctx_ok tysOk eqsOk (FnsOk.cons (FnOk.frz rfl (slices_Clone.ok k)) FnsOk.nil) HsOk.nil
theorem body_own.way (k : Nat) (a0 : V49) : Owp (body_own k a0) fun y => ∃ answers cmds, exec PR (body_own.cx k) body_own.code 0 (entry (.pair T49 .unit) (a0, ())).st answers (Ret (body_own.cx k) Try.f219 cmds (.one (.dp T49)) y) := by
  unfold body_own; exact
   Owp.bnd fun y1 e2 =>
   Owp.some (⟨[.res (.one (.dp T22)) y1], [], via (retP (And.intro trivial e2) (.one (.dp T49)) ((a0.1, a0.2.1, a0.2.2.1, a0.2.2.2.1, a0.2.2.2.2.1, a0.2.2.2.2.2.1, a0.2.2.2.2.2.2.1, a0.2.2.2.2.2.2.2.1, y1, a0.2.2.2.2.2.2.2.2.2) : V49)) (by kernel_rfl)⟩)
theorem body_own.ok (k : Nat) : FnOk PR 219 (body_own.sp k) :=
  fn_ok (body_own.cok k) hmix Try.func219 (code := body_own.code) (by kernel_rfl) (by kernel_rfl) (by kernel_rfl) rfl rfl (by kernel_rfl) (by kernel_rfl) (by kernel_rfl) (fun x => Nat.le_of_ble_eq_true (by kernel_rfl)) fun x y hy => (body_own.way k x.1).ap hy

/-! tourney/body.clamp -/
noncomputable def body_clamp.code : Code := Func.cd Try.f220
def body_clamp (k : Nat) (a0 : Int) (a1 : Int) : Option Int :=
  some (imin (imax a0 (ineg .i64 a1)) a1)
noncomputable def body_clamp.sp (k : Nat) : Go.Sx.Spec := ⟨T27, (.one (.dp T2)), fun x => body_clamp k x.1 x.2.1, false⟩
noncomputable def body_clamp.cx (k : Nat) : Go.Sx.Ctx := ⟨tys, [], eqs, 11, 0, [], false⟩
theorem body_clamp.cok (k : Nat) : CtxOk PR (body_clamp.cx k) := ctx_ok tysOk eqsOk FnsOk.nil HsOk.nil
theorem body_clamp.way (k : Nat) (a0 : Int) (a1 : Int) : Owp (body_clamp k a0 a1) fun y => ∃ answers cmds, exec PR (body_clamp.cx k) body_clamp.code 0 (entry T27 (a0, a1, ())).st answers (Ret (body_clamp.cx k) Try.f220 cmds (.one (.dp T2)) y) := by
  unfold body_clamp; exact
   Owp.some (⟨[], [], via (retP trivial (.one (.dp T2)) ((imin (imax a0 (ineg .i64 a1)) a1) : Int)) (by kernel_rfl)⟩)
theorem body_clamp.ok (k : Nat) : FnOk PR 220 (body_clamp.sp k) :=
  fn_ok (body_clamp.cok k) hmix Try.func220 (code := body_clamp.code) (by kernel_rfl) (by kernel_rfl) (by kernel_rfl) rfl rfl (by kernel_rfl) (by kernel_rfl) (by kernel_rfl) (fun x => Nat.le_of_ble_eq_true (by kernel_rfl)) fun x y hy => (body_clamp.way k x.1 x.2.1).ap hy

/-! tourney/body.Push -/
noncomputable def body_Push.code : Code := Func.cd Try.f177
def body_Push.c1 (k : Nat) (y1 : V49) : Option (Bool) :=
  bnd (body_Check k y1) fun y3 =>
  bif' (ine y3 0)
  (some true)
  (bif' (ieq y1.2.2.2.2.1 0)
   (some true)
   (some y1.2.2.2.2.2.2.2.2.2.1))
def body_Push (k : Nat) (a0 : V49) (a1 : V27) (a2 : V27) : Option V49 :=
  bnd (body_own k a0) fun y1 =>
  bnd (body_Push.c1 k y1) fun o7 =>
  bif' o7
  (some y1)
  (bnd (vec_Sub k a2 y1.1) fun y10 =>
   bnd (vec_Cross k y10 a1) fun y12 =>
   bnd (body_over k y12 y1.2.2.2.2.2.1) fun y14 =>
   bnd (body_over k y14 411775) fun y16 =>
   bnd (body_over k a1.1 y1.2.2.2.2.1) fun y18 =>
   bnd (fix_Add k y1.2.1.1 y18) fun y20 =>
   bnd (body_clamp k y20 268435456) fun y22 =>
   bnd (body_over k a1.2.1 y1.2.2.2.2.1) fun y24 =>
   bnd (fix_Add k y1.2.1.2.1 y24) fun y26 =>
   bnd (body_clamp k y26 268435456) fun y28 =>
   bnd (fix_Add k y1.2.2.2.1 y16) fun y30 =>
   bnd (body_clamp k y30 16777216) fun y32 =>
   some (y1.1, (y22, y28, ()), y1.2.2.1, y32, y1.2.2.2.2))
noncomputable def body_Push.sp (k : Nat) : Go.Sx.Spec := ⟨(.pair T49 T35), (.one (.dp T49)), fun x => body_Push k x.1 x.2.1 x.2.2.1, false⟩
noncomputable def body_Push.cx (k : Nat) : Go.Sx.Ctx := ⟨tys, [(219, body_own.sp k), (151, body_Check.sp k), (55, vec_Sub.sp k), (216, vec_Cross.sp k), (217, body_over.sp k), (104, fix_Add.sp k), (220, body_clamp.sp k)], eqs, 64, 0, [], false⟩
theorem body_Push.cok (k : Nat) : CtxOk PR (body_Push.cx k) := ctx_ok tysOk eqsOk (FnsOk.cons (body_own.ok k) (FnsOk.cons (body_Check.ok k) (FnsOk.cons (vec_Sub.ok k) (FnsOk.cons (vec_Cross.ok k) (FnsOk.cons (body_over.ok k) (FnsOk.cons (fix_Add.ok k) (FnsOk.cons (body_clamp.ok k) FnsOk.nil))))))) HsOk.nil
noncomputable def body_Push.c1p (a1 : V27) (a2 : V27) (y1 : V49) : SL := ⟨[(3, (.val .ptr ⟨0, 0, (0 : Int), 0, 0⟩)), (4, (.val .ptr ⟨1, 0, (0 : Int), 0, 0⟩)), (5, (.val .ptr ⟨2, 0, (0 : Int), 0, 0⟩)), (6, (.val .ptr ⟨3, 0, (0 : Int), 0, 0⟩))], [(0, .cells T49 y1), (1, .cells T27 a1), (2, .cells T27 a2), (3, .cells T49 (((0 : Int), (0 : Int), ()), ((0 : Int), (0 : Int), ()), (0 : Int), (0 : Int), (0 : Int), (0 : Int), (0 : Int), (0 : Int), [], false, (0 : Int), ()))]⟩
noncomputable def body_Push.c1q (a1 : V27) (a2 : V27) (y1 : V49) (o : Bool) : SL := (fun v => ⟨[(3, (.val .ptr ⟨0, 0, (0 : Int), 0, 0⟩)), (4, (.val .ptr ⟨1, 0, (0 : Int), 0, 0⟩)), (5, (.val .ptr ⟨2, 0, (0 : Int), 0, 0⟩)), (6, (.val .ptr ⟨3, 0, (0 : Int), 0, 0⟩)), (21, (.val T4 v))], [(0, .cells T49 y1), (1, .cells T27 a1), (2, .cells T27 a2), (3, .cells T49 (((0 : Int), (0 : Int), ()), ((0 : Int), (0 : Int), ()), (0 : Int), (0 : Int), (0 : Int), (0 : Int), (0 : Int), (0 : Int), [], false, (0 : Int), ()))]⟩) o
noncomputable def body_Push.c1x (o : Bool) : Ex := (fun _ => .normal) o
noncomputable def body_Push.c1n (o : Bool) : Nat := (fun _ => 4) o
theorem body_Push.c1_ok (k : Nat) (a1 : V27) (a2 : V27) (y1 : V49) : Owp (body_Push.c1 k y1) fun o => Triple PR (body_Push.cx k) (sub body_Push.code [1, 1, 0, 0]) 4 (body_Push.c1p a1 a2 y1) (body_Push.c1x o) (body_Push.c1n o) (body_Push.c1q a1 a2 y1 o) := by
  unfold body_Push.c1; exact
   Owp.bnd fun y3 e4 =>
   Owp.bif (fun e5 =>
   Owp.some (triple_way (body_Push.cok k) hmix [.res (.one (.dp T2)) y3, .dec true, .dec true, .dec true, .dec true, .dec true, .dec true, .dec true] [] [(0, 0), (1, 1), (2, 2), (3, 3)] (via (finP (And.intro (And.intro (And.intro (And.intro (And.intro (And.intro (And.intro (And.intro trivial e4) e5) e5) e5) e5) tt) tt) tt) .normal [(0, 0), (1, 1), (2, 2), (3, 3)] (body_Push.c1q a1 a2 y1 true)) (by kernel_rfl)))) (fun e5 =>
   Owp.bif (fun e6 =>
    Owp.some (triple_way (body_Push.cok k) hmix [.res (.one (.dp T2)) y3, .dec false, .dec false, .dec false, .dec false, .dec true, .dec true, .dec true] [] [(0, 0), (1, 1), (2, 2), (3, 3)] (via (finP (And.intro (And.intro (And.intro (And.intro (And.intro (And.intro (And.intro (And.intro trivial e4) e5) e5) e5) e5) e6) e6) e6) .normal [(0, 0), (1, 1), (2, 2), (3, 3)] (body_Push.c1q a1 a2 y1 true)) (by kernel_rfl)))) (fun e6 =>
    Owp.some (triple_way (body_Push.cok k) hmix [.res (.one (.dp T2)) y3, .dec false, .dec false, .dec false, .dec false, .dec false, .dec false, .dec false] [] [(0, 0), (1, 1), (2, 2), (3, 3)] (via (finP (And.intro (And.intro (And.intro (And.intro (And.intro (And.intro (And.intro (And.intro trivial e4) e5) e5) e5) e5) e6) e6) e6) .normal [(0, 0), (1, 1), (2, 2), (3, 3)] (body_Push.c1q a1 a2 y1 y1.2.2.2.2.2.2.2.2.2.1)) (by kernel_rfl)))))
theorem body_Push.way (k : Nat) (a0 : V49) (a1 : V27) (a2 : V27) : Owp (body_Push k a0 a1 a2) fun y => ∃ answers cmds, exec PR (body_Push.cx k) body_Push.code 0 (entry (.pair T49 T35) (a0, a1, a2, ())).st answers (Ret (body_Push.cx k) Try.f177 cmds (.one (.dp T49)) y) := by
  unfold body_Push; exact
   Owp.bnd fun y1 e2 =>
   Owp.bnd fun o7 e8 =>
   Owp.bif (fun e9 =>
   Owp.some (⟨[.res (.one (.dp T49)) y1, .cutR 2 ⟨[], [(0, 0), (1, 1), (2, 2), (3, 3)], (body_Push.c1p a1 a2 y1), 4, .normal, (body_Push.c1q a1 a2 y1 o7), 4⟩, .dec true], [], via (cutP (And.intro trivial e2) [(0, 0), (1, 1), (2, 2), (3, 3)] (body_Push.c1p a1 a2 y1) (((body_Push.c1_ok k a1 a2 y1).ap e8)) (retP (And.intro trivial e9) (.one (.dp T49)) (y1 : V49))) (by kernel_rfl)⟩)) (fun e9 =>
   Owp.bnd fun y10 e11 =>
    Owp.bnd fun y12 e13 =>
    Owp.bnd fun y14 e15 =>
    Owp.bnd fun y16 e17 =>
    Owp.bnd fun y18 e19 =>
    Owp.bnd fun y20 e21 =>
    Owp.bnd fun y22 e23 =>
    Owp.bnd fun y24 e25 =>
    Owp.bnd fun y26 e27 =>
    Owp.bnd fun y28 e29 =>
    Owp.bnd fun y30 e31 =>
    Owp.bnd fun y32 e33 =>
    Owp.some (⟨[.res (.one (.dp T49)) y1, .cutR 2 ⟨[], [(0, 0), (1, 1), (2, 2), (3, 3)], (body_Push.c1p a1 a2 y1), 4, .normal, (body_Push.c1q a1 a2 y1 o7), 4⟩, .dec false, .res (.one (.dp T27)) y10, .res (.one (.dp T2)) y12, .res (.one (.dp T2)) y14, .res (.one (.dp T2)) y16, .res (.one (.dp T2)) y18, .res (.one (.dp T2)) y20, .res (.one (.dp T2)) y22, .res (.one (.dp T2)) y24, .res (.one (.dp T2)) y26, .res (.one (.dp T2)) y28, .res (.one (.dp T2)) y30, .res (.one (.dp T2)) y32], [], via (cutP (And.intro trivial e2) [(0, 0), (1, 1), (2, 2), (3, 3)] (body_Push.c1p a1 a2 y1) (((body_Push.c1_ok k a1 a2 y1).ap e8)) (retP (And.intro (And.intro (And.intro (And.intro (And.intro (And.intro (And.intro (And.intro (And.intro (And.intro (And.intro (And.intro (And.intro trivial e9) e11) e13) e15) e17) e19) e21) e23) e25) e27) e29) e31) e33) (.one (.dp T49)) ((y1.1, (y22, y28, ()), y1.2.2.1, y32, y1.2.2.2.2) : V49))) (by kernel_rfl)⟩))
theorem body_Push.ok (k : Nat) : FnOk PR 177 (body_Push.sp k) :=
  fn_ok (body_Push.cok k) hmix Try.func177 (code := body_Push.code) (by kernel_rfl) (by kernel_rfl) (by kernel_rfl) rfl rfl (by kernel_rfl) (by kernel_rfl) (by kernel_rfl) (fun x => Nat.le_of_ble_eq_true (by kernel_rfl)) fun x y hy => (body_Push.way k x.1 x.2.1 x.2.2.1).ap hy

/-! tourney/tourref2.Free -/
noncomputable def tourref2_Free.code : Code := Func.cd Try.f221
def tourref2_Free (k : Nat) (a0 : V49) : Option Bool :=
  bif' (ine a0.2.2.2.2.1 0)
  (some (!a0.2.2.2.2.2.2.2.2.2.1))
  (some false)
noncomputable def tourref2_Free.sp (k : Nat) : Go.Sx.Spec := ⟨(.pair T49 .unit), (.one (.dp T4)), fun x => tourref2_Free k x.1, false⟩
noncomputable def tourref2_Free.cx (k : Nat) : Go.Sx.Ctx := ⟨tys, [], eqs, 11, 0, [], false⟩
theorem tourref2_Free.cok (k : Nat) : CtxOk PR (tourref2_Free.cx k) := ctx_ok tysOk eqsOk FnsOk.nil HsOk.nil
theorem tourref2_Free.way (k : Nat) (a0 : V49) : Owp (tourref2_Free k a0) fun y => ∃ answers cmds, exec PR (tourref2_Free.cx k) tourref2_Free.code 0 (entry (.pair T49 .unit) (a0, ())).st answers (Ret (tourref2_Free.cx k) Try.f221 cmds (.one (.dp T4)) y) := by
  unfold tourref2_Free; exact
   Owp.bif (fun e1 =>
   Owp.some (⟨[.dec true, .dec true, .dec true, .dec true], [], via (retP (And.intro (And.intro (And.intro (And.intro trivial e1) e1) e1) e1) (.one (.dp T4)) ((!a0.2.2.2.2.2.2.2.2.2.1) : Bool)) (by kernel_rfl)⟩)) (fun e1 =>
   Owp.some (⟨[.dec false, .dec false, .dec false, .dec false], [], via (retP (And.intro (And.intro (And.intro (And.intro trivial e1) e1) e1) e1) (.one (.dp T4)) (false : Bool)) (by kernel_rfl)⟩))
theorem tourref2_Free.ok (k : Nat) : FnOk PR 221 (tourref2_Free.sp k) :=
  fn_ok (tourref2_Free.cok k) hmix Try.func221 (code := tourref2_Free.code) (by kernel_rfl) (by kernel_rfl) (by kernel_rfl) rfl rfl (by kernel_rfl) (by kernel_rfl) (by kernel_rfl) (fun x => Nat.le_of_ble_eq_true (by kernel_rfl)) fun x y hy => (tourref2_Free.way k x.1).ap hy

/-! tourney/tourref2.quotient -/
noncomputable def tourref2_quotient.code : Code := Func.cd Try.f182
def tourref2_quotient (k : Nat) (a0 : Int) (a1 : Int) : Option Int :=
  bnd (fix_Div k a0 a1) fun y1 =>
  some y1.1
noncomputable def tourref2_quotient.sp (k : Nat) : Go.Sx.Spec := ⟨T27, (.one (.dp T2)), fun x => tourref2_quotient k x.1 x.2.1, false⟩
noncomputable def tourref2_quotient.cx (k : Nat) : Go.Sx.Ctx := ⟨tys, [(218, fix_Div.sp k)], eqs, 14, 0, [], false⟩
theorem tourref2_quotient.cok (k : Nat) : CtxOk PR (tourref2_quotient.cx k) := ctx_ok tysOk eqsOk (FnsOk.cons (fix_Div.ok k) FnsOk.nil) HsOk.nil
theorem tourref2_quotient.way (k : Nat) (a0 : Int) (a1 : Int) : Owp (tourref2_quotient k a0 a1) fun y => ∃ answers cmds, exec PR (tourref2_quotient.cx k) tourref2_quotient.code 0 (entry T27 (a0, a1, ())).st answers (Ret (tourref2_quotient.cx k) Try.f182 cmds (.one (.dp T2)) y) := by
  unfold tourref2_quotient; exact
   Owp.bnd fun y1 e2 =>
   Owp.some (⟨[.res (.more (.dp T2) (.one (.dp T2))) y1], [], via (retP (And.intro trivial e2) (.one (.dp T2)) (y1.1 : Int)) (by kernel_rfl)⟩)
theorem tourref2_quotient.ok (k : Nat) : FnOk PR 182 (tourref2_quotient.sp k) :=
  fn_ok (tourref2_quotient.cok k) hmix Try.func182 (code := tourref2_quotient.code) (by kernel_rfl) (by kernel_rfl) (by kernel_rfl) rfl rfl (by kernel_rfl) (by kernel_rfl) (by kernel_rfl) (fun x => Nat.le_of_ble_eq_true (by kernel_rfl)) fun x y hy => (tourref2_quotient.way k x.1 x.2.1).ap hy

/-! tourney/tourref2.Ease -/
noncomputable def tourref2_Ease.code : Code := Func.cd Try.f179
def tourref2_Ease (k : Nat) (a0 : V49) (a1 : V27) (a2 : V27) : Option Int :=
  bnd (tourref2_Free k a0) fun y1 =>
  bif' y1
  (bnd (vec_Sub k a1 a0.1) fun y4 =>
   bnd (vec_Cross k y4 a2) fun y6 =>
   bnd (tourref2_quotient k 65536 a0.2.2.2.2.1) fun y8 =>
   bnd (fix_Mul k y6 y6) fun y10 =>
   bnd (tourref2_quotient k y10 a0.2.2.2.2.2.1) fun y12 =>
   bnd (fix_Add k y8 y12) fun y14 =>
   some y14)
  (some 0)
noncomputable def tourref2_Ease.sp (k : Nat) : Go.Sx.Spec := ⟨(.pair T49 T35), (.one (.dp T2)), fun x => tourref2_Ease k x.1 x.2.1 x.2.2.1, false⟩
noncomputable def tourref2_Ease.cx (k : Nat) : Go.Sx.Ctx := ⟨tys, [(221, tourref2_Free.sp k), (55, vec_Sub.sp k), (216, vec_Cross.sp k), (182, tourref2_quotient.sp k), (105, fix_Mul.sp k), (104, fix_Add.sp k)], eqs, 27, 0, [], false⟩
theorem tourref2_Ease.cok (k : Nat) : CtxOk PR (tourref2_Ease.cx k) := ctx_ok tysOk eqsOk (FnsOk.cons (tourref2_Free.ok k) (FnsOk.cons (vec_Sub.ok k) (FnsOk.cons (vec_Cross.ok k) (FnsOk.cons (tourref2_quotient.ok k) (FnsOk.cons (fix_Mul.ok k) (FnsOk.cons (fix_Add.ok k) FnsOk.nil)))))) HsOk.nil
theorem tourref2_Ease.way (k : Nat) (a0 : V49) (a1 : V27) (a2 : V27) : Owp (tourref2_Ease k a0 a1 a2) fun y => ∃ answers cmds, exec PR (tourref2_Ease.cx k) tourref2_Ease.code 0 (entry (.pair T49 T35) (a0, a1, a2, ())).st answers (Ret (tourref2_Ease.cx k) Try.f179 cmds (.one (.dp T2)) y) := by
  unfold tourref2_Ease; exact
   Owp.bnd fun y1 e2 =>
   Owp.bif (fun e3 =>
   Owp.bnd fun y4 e5 =>
    Owp.bnd fun y6 e7 =>
    Owp.bnd fun y8 e9 =>
    Owp.bnd fun y10 e11 =>
    Owp.bnd fun y12 e13 =>
    Owp.bnd fun y14 e15 =>
    Owp.some (⟨[.res (.one (.dp T4)) y1, .dec false, .res (.one (.dp T27)) y4, .res (.one (.dp T2)) y6, .res (.one (.dp T2)) y8, .res (.one (.dp T2)) y10, .res (.one (.dp T2)) y12, .res (.one (.dp T2)) y14], [], via (retP (And.intro (And.intro (And.intro (And.intro (And.intro (And.intro (And.intro (And.intro trivial e2) (congrArg not e3)) e5) e7) e9) e11) e13) e15) (.one (.dp T2)) (y14 : Int)) (by kernel_rfl)⟩)) (fun e3 =>
   Owp.some (⟨[.res (.one (.dp T4)) y1, .dec true], [], via (retP (And.intro (And.intro trivial e2) (congrArg not e3)) (.one (.dp T2)) ((0 : Int) : Int)) (by kernel_rfl)⟩))
theorem tourref2_Ease.ok (k : Nat) : FnOk PR 179 (tourref2_Ease.sp k) :=
  fn_ok (tourref2_Ease.cok k) hmix Try.func179 (code := tourref2_Ease.code) (by kernel_rfl) (by kernel_rfl) (by kernel_rfl) rfl rfl (by kernel_rfl) (by kernel_rfl) (by kernel_rfl) (fun x => Nat.le_of_ble_eq_true (by kernel_rfl)) fun x y hy => (tourref2_Ease.way k x.1 x.2.1 x.2.2.1).ap hy

/-! tourney/tourref2.Speed -/
noncomputable def tourref2_Speed.code : Code := Func.cd Try.f222
def tourref2_Speed (k : Nat) (a0 : V49) (a1 : V27) : Option V27 :=
  bnd (fix_Mul k a0.2.2.2.1 411775) fun y1 =>
  bnd (fix_Sub k a1.2.1 a0.1.2.1) fun y3 =>
  bnd (fix_Mul k y1 y3) fun y5 =>
  bnd (fix_Sub k a1.1 a0.1.1) fun y7 =>
  bnd (fix_Mul k y1 y7) fun y9 =>
  bnd (fix_Sub k a0.2.1.1 y5) fun y11 =>
  bnd (fix_Add k a0.2.1.2.1 y9) fun y13 =>
  some (y11, y13, ())
noncomputable def tourref2_Speed.sp (k : Nat) : Go.Sx.Spec := ⟨(.pair T49 (.pair T27 .unit)), (.one (.dp T27)), fun x => tourref2_Speed k x.1 x.2.1, false⟩
noncomputable def tourref2_Speed.cx (k : Nat) : Go.Sx.Ctx := ⟨tys, [(105, fix_Mul.sp k), (127, fix_Sub.sp k), (104, fix_Add.sp k)], eqs, 38, 0, [], false⟩
theorem tourref2_Speed.cok (k : Nat) : CtxOk PR (tourref2_Speed.cx k) := ctx_ok tysOk eqsOk (FnsOk.cons (fix_Mul.ok k) (FnsOk.cons (fix_Sub.ok k) (FnsOk.cons (fix_Add.ok k) FnsOk.nil))) HsOk.nil
theorem tourref2_Speed.way (k : Nat) (a0 : V49) (a1 : V27) : Owp (tourref2_Speed k a0 a1) fun y => ∃ answers cmds, exec PR (tourref2_Speed.cx k) tourref2_Speed.code 0 (entry (.pair T49 (.pair T27 .unit)) (a0, a1, ())).st answers (Ret (tourref2_Speed.cx k) Try.f222 cmds (.one (.dp T27)) y) := by
  unfold tourref2_Speed; exact
   Owp.bnd fun y1 e2 =>
   Owp.bnd fun y3 e4 =>
   Owp.bnd fun y5 e6 =>
   Owp.bnd fun y7 e8 =>
   Owp.bnd fun y9 e10 =>
   Owp.bnd fun y11 e12 =>
   Owp.bnd fun y13 e14 =>
   Owp.some (⟨[.res (.one (.dp T2)) y1, .res (.one (.dp T2)) y3, .res (.one (.dp T2)) y5, .res (.one (.dp T2)) y7, .res (.one (.dp T2)) y9, .res (.one (.dp T2)) y11, .res (.one (.dp T2)) y13], [], via (retP (And.intro (And.intro (And.intro (And.intro (And.intro (And.intro (And.intro trivial e2) e4) e6) e8) e10) e12) e14) (.one (.dp T27)) ((y11, y13, ()) : V27)) (by kernel_rfl)⟩)
theorem tourref2_Speed.ok (k : Nat) : FnOk PR 222 (tourref2_Speed.sp k) :=
  fn_ok (tourref2_Speed.cok k) hmix Try.func222 (code := tourref2_Speed.code) (by kernel_rfl) (by kernel_rfl) (by kernel_rfl) rfl rfl (by kernel_rfl) (by kernel_rfl) (by kernel_rfl) (fun x => Nat.le_of_ble_eq_true (by kernel_rfl)) fun x y hy => (tourref2_Speed.way k x.1 x.2.1).ap hy

/-! tourney/tourref2.nearest -/
noncomputable def tourref2_nearest.code : Code := Func.cd Try.f245
def tourref2_nearest (k : Nat) (a0 : Int) (a1 : Int) : Option Int :=
  bif' (ilt a0 (ineg .i64 a1))
  (some (ineg .i64 a1))
  (bif' (igt a0 a1)
   (some a1)
   (some a0))
noncomputable def tourref2_nearest.sp (k : Nat) : Go.Sx.Spec := ⟨T27, (.one (.dp T2)), fun x => tourref2_nearest k x.1 x.2.1, false⟩
noncomputable def tourref2_nearest.cx (k : Nat) : Go.Sx.Ctx := ⟨tys, [], eqs, 18, 0, [], false⟩
theorem tourref2_nearest.cok (k : Nat) : CtxOk PR (tourref2_nearest.cx k) := ctx_ok tysOk eqsOk FnsOk.nil HsOk.nil
theorem tourref2_nearest.way (k : Nat) (a0 : Int) (a1 : Int) : Owp (tourref2_nearest k a0 a1) fun y => ∃ answers cmds, exec PR (tourref2_nearest.cx k) tourref2_nearest.code 0 (entry T27 (a0, a1, ())).st answers (Ret (tourref2_nearest.cx k) Try.f245 cmds (.one (.dp T2)) y) := by
  unfold tourref2_nearest; exact
   Owp.bif (fun e1 =>
   Owp.some (⟨[.dec true], [], via (retP (And.intro trivial e1) (.one (.dp T2)) ((ineg .i64 a1) : Int)) (by kernel_rfl)⟩)) (fun e1 =>
   Owp.bif (fun e2 =>
    Owp.some (⟨[.dec false, .dec true], [], via (retP (And.intro (And.intro trivial e1) e2) (.one (.dp T2)) (a1 : Int)) (by kernel_rfl)⟩)) (fun e2 =>
    Owp.some (⟨[.dec false, .dec false], [], via (retP (And.intro (And.intro trivial e1) e2) (.one (.dp T2)) (a0 : Int)) (by kernel_rfl)⟩)))
theorem tourref2_nearest.ok (k : Nat) : FnOk PR 245 (tourref2_nearest.sp k) :=
  fn_ok (tourref2_nearest.cok k) hmix Try.func245 (code := tourref2_nearest.code) (by kernel_rfl) (by kernel_rfl) (by kernel_rfl) rfl rfl (by kernel_rfl) (by kernel_rfl) (by kernel_rfl) (fun x => Nat.le_of_ble_eq_true (by kernel_rfl)) fun x y hy => (tourref2_nearest.way k x.1 x.2.1).ap hy

/-! tourney/tourref2.Pushed -/
noncomputable def tourref2_Pushed.code : Code := Func.cd Try.f223
def tourref2_Pushed (k : Nat) (a0 : V49) (a1 : V27) (a2 : V27) : Option V49 :=
  bnd (tourref2_Free k a0) fun y1 =>
  bif' y1
  (bnd (vec_Sub k a2 a0.1) fun y4 =>
   bnd (vec_Cross k y4 a1) fun y6 =>
   bnd (tourref2_quotient k y6 a0.2.2.2.2.2.1) fun y8 =>
   bnd (tourref2_quotient k y8 411775) fun y10 =>
   bnd (tourref2_quotient k a1.1 a0.2.2.2.2.1) fun y12 =>
   bnd (fix_Add k a0.2.1.1 y12) fun y14 =>
   bnd (tourref2_nearest k y14 268435456) fun y16 =>
   bnd (tourref2_quotient k a1.2.1 a0.2.2.2.2.1) fun y18 =>
   bnd (fix_Add k a0.2.1.2.1 y18) fun y20 =>
   bnd (tourref2_nearest k y20 268435456) fun y22 =>
   bnd (fix_Add k a0.2.2.2.1 y10) fun y24 =>
   bnd (tourref2_nearest k y24 16777216) fun y26 =>
   some (a0.1, (y16, y22, ()), a0.2.2.1, y26, a0.2.2.2.2))
  (some a0)
noncomputable def tourref2_Pushed.sp (k : Nat) : Go.Sx.Spec := ⟨(.pair T49 T35), (.one (.dp T49)), fun x => tourref2_Pushed k x.1 x.2.1 x.2.2.1, false⟩
noncomputable def tourref2_Pushed.cx (k : Nat) : Go.Sx.Ctx := ⟨tys, [(221, tourref2_Free.sp k), (55, vec_Sub.sp k), (216, vec_Cross.sp k), (182, tourref2_quotient.sp k), (104, fix_Add.sp k), (245, tourref2_nearest.sp k)], eqs, 51, 0, [], false⟩
theorem tourref2_Pushed.cok (k : Nat) : CtxOk PR (tourref2_Pushed.cx k) := ctx_ok tysOk eqsOk (FnsOk.cons (tourref2_Free.ok k) (FnsOk.cons (vec_Sub.ok k) (FnsOk.cons (vec_Cross.ok k) (FnsOk.cons (tourref2_quotient.ok k) (FnsOk.cons (fix_Add.ok k) (FnsOk.cons (tourref2_nearest.ok k) FnsOk.nil)))))) HsOk.nil
theorem tourref2_Pushed.way (k : Nat) (a0 : V49) (a1 : V27) (a2 : V27) : Owp (tourref2_Pushed k a0 a1 a2) fun y => ∃ answers cmds, exec PR (tourref2_Pushed.cx k) tourref2_Pushed.code 0 (entry (.pair T49 T35) (a0, a1, a2, ())).st answers (Ret (tourref2_Pushed.cx k) Try.f223 cmds (.one (.dp T49)) y) := by
  unfold tourref2_Pushed; exact
   Owp.bnd fun y1 e2 =>
   Owp.bif (fun e3 =>
   Owp.bnd fun y4 e5 =>
    Owp.bnd fun y6 e7 =>
    Owp.bnd fun y8 e9 =>
    Owp.bnd fun y10 e11 =>
    Owp.bnd fun y12 e13 =>
    Owp.bnd fun y14 e15 =>
    Owp.bnd fun y16 e17 =>
    Owp.bnd fun y18 e19 =>
    Owp.bnd fun y20 e21 =>
    Owp.bnd fun y22 e23 =>
    Owp.bnd fun y24 e25 =>
    Owp.bnd fun y26 e27 =>
    Owp.some (⟨[.res (.one (.dp T4)) y1, .dec false, .res (.one (.dp T27)) y4, .res (.one (.dp T2)) y6, .res (.one (.dp T2)) y8, .res (.one (.dp T2)) y10, .res (.one (.dp T2)) y12, .res (.one (.dp T2)) y14, .res (.one (.dp T2)) y16, .res (.one (.dp T2)) y18, .res (.one (.dp T2)) y20, .res (.one (.dp T2)) y22, .res (.one (.dp T2)) y24, .res (.one (.dp T2)) y26], [], via (retP (And.intro (And.intro (And.intro (And.intro (And.intro (And.intro (And.intro (And.intro (And.intro (And.intro (And.intro (And.intro (And.intro (And.intro trivial e2) (congrArg not e3)) e5) e7) e9) e11) e13) e15) e17) e19) e21) e23) e25) e27) (.one (.dp T49)) ((a0.1, (y16, y22, ()), a0.2.2.1, y26, a0.2.2.2.2) : V49)) (by kernel_rfl)⟩)) (fun e3 =>
   Owp.some (⟨[.res (.one (.dp T4)) y1, .dec true], [], via (retP (And.intro (And.intro trivial e2) (congrArg not e3)) (.one (.dp T49)) (a0 : V49)) (by kernel_rfl)⟩))
theorem tourref2_Pushed.ok (k : Nat) : FnOk PR 223 (tourref2_Pushed.sp k) :=
  fn_ok (tourref2_Pushed.cok k) hmix Try.func223 (code := tourref2_Pushed.code) (by kernel_rfl) (by kernel_rfl) (by kernel_rfl) rfl rfl (by kernel_rfl) (by kernel_rfl) (by kernel_rfl) (fun x => Nat.le_of_ble_eq_true (by kernel_rfl)) fun x y hy => (tourref2_Pushed.way k x.1 x.2.1 x.2.2.1).ap hy

end Go.Proofs.T1
