import Derived.Test.YtcgcnojpcgjnmaaG0
import Derived.Test.YtcgcnojpcgjnmaaG1
namespace Go.Proofs.T1
open Go Go.Sx Go.Proofs
set_option maxRecDepth 100000
set_option linter.unusedVariables false
/-! (tourney/poly.Wide).Over -/
noncomputable def poly_Wide_Over.code : Code := Func.cd Try.f97
def poly_Wide_Over.c1 (k : Nat) (a0 : V90) : Option (V90) :=
  bif' (ilt a0.1 0)
  (bnd (poly_Wide_Minus k (0, 0, ()) a0) fun y3 =>
   some y3)
  (some a0)
def poly_Wide_Over.c2 (k : Nat) (a0 : V90) (a1 : Int) : Option ((Bool × Int)) :=
  bif' (ilt a1 0)
  (some ((!(ilt a0.1 0)), (ineg .u64 (icv .u64 a1))))
  (some ((ilt a0.1 0), (icv .u64 a1)))
def poly_Wide_Over.c3 (k : Nat) (o8 : (Bool × Int)) (y11 : (Int × Int)) : Option (Bool) :=
  bif' (igt y11.2 (isub .u64 o8.2 y11.2))
  (some true)
  (bif' (ieq y11.2 (isub .u64 o8.2 y11.2))
   (some (!o8.1))
   (some false))
def poly_Wide_Over.c4 (k : Nat) (o15 : Bool) (y11 : (Int × Int)) : Option (Unit ⊕ Int) :=
  bif' o15
  (bif' (ieq (iadd .u64 y11.1 1) 0)
   (some (.inl ()))
   (some (.inr (iadd .u64 y11.1 1))))
  (some (.inr y11.1))
def poly_Wide_Over.c5 (k : Nat) (o8 : (Bool × Int)) (y23 : Int) : Option (Bool) :=
  bif' o8.1
  (some (ile y23 9223372036854775808))
  (some false)
def poly_Wide_Over.c6 (k : Nat) (o8 : (Bool × Int)) (y23 : Int) : Option (Bool) :=
  bif' o8.1
  (some false)
  (some (ilt y23 9223372036854775808))
def poly_Wide_Over (k : Nat) (a0 : V90) (a1 : Int) : Option (Int × Int) :=
  bif' (ieq a1 0)
  (some (0, 17))
  (bnd (poly_Wide_Over.c1 k a0) fun o5 =>
   bnd (poly_Wide_Over.c2 k a0 a1) fun o8 =>
   bif' (ige (icv .u64 o5.1) o8.2)
   (some (0, 2))
   (bnd (bits_Div64 k (icv .u64 o5.1) o5.2.1 o8.2) fun y11 =>
    bnd (poly_Wide_Over.c3 k o8 y11) fun o15 =>
    bnd (poly_Wide_Over.c4 k o15 y11) fun o19 =>
    two o19 (fun y21 =>
    some (0, 2)) (fun y23 =>
    bnd (poly_Wide_Over.c5 k o8 y23) fun o26 =>
     bif' o26
     (some ((icv .i64 (ineg .u64 y23)), 0))
     (bnd (poly_Wide_Over.c6 k o8 y23) fun o30 =>
      bif' o30
      (some ((icv .i64 y23), 0))
      (some (0, 2))))))
noncomputable def poly_Wide_Over.sp (k : Nat) : Go.Sx.Spec := ⟨(.pair T90 (.pair T2 .unit)), (.more (.dp T2) (.one (.dp T2))), fun x => poly_Wide_Over k x.1 x.2.1, false⟩
noncomputable def poly_Wide_Over.cx (k : Nat) : Go.Sx.Ctx := ⟨tys, [(140, poly_Wide_Minus.sp k), (162, bits_Div64.sp k)], eqs, 82, 0, [], false⟩
theorem poly_Wide_Over.cok (k : Nat) : CtxOk PR (poly_Wide_Over.cx k) := ctx_ok tysOk eqsOk (FnsOk.cons (poly_Wide_Minus.ok k) (FnsOk.cons (bits_Div64.ok k) FnsOk.nil)) HsOk.nil
noncomputable def poly_Wide_Over.c1p (a0 : V90) (a1 : Int) : SL := ⟨[(1, (.val T2 a1)), (2, (.val .ptr ⟨0, 0, (0 : Int), 0, 0⟩)), (6, (.val T4 (ilt a0.1 (0 : Int)))), (17, (.val T4 (ilt a0.1 (0 : Int))))], [(0, .cells T90 a0)]⟩
noncomputable def poly_Wide_Over.c1q (a0 : V90) (a1 : Int) (o : V90) : SL := (fun v => ⟨[(1, (.val T2 a1)), (2, (.val .ptr ⟨0, 0, (0 : Int), 0, 0⟩)), (6, (.val T4 (ilt a0.1 (0 : Int))))], [(0, .cells T90 v)]⟩) o
noncomputable def poly_Wide_Over.c1x (o : V90) : Ex := (fun _ => .normal) o
noncomputable def poly_Wide_Over.c1n (o : V90) : Nat := (fun _ => 1) o
theorem poly_Wide_Over.c1_ok (k : Nat) (a0 : V90) (a1 : Int) : Owp (poly_Wide_Over.c1 k a0) fun o => Triple PR (poly_Wide_Over.cx k) (sub poly_Wide_Over.code [1, 1, 1, 0, 1]) 1 (poly_Wide_Over.c1p a0 a1) (poly_Wide_Over.c1x o) (poly_Wide_Over.c1n o) (poly_Wide_Over.c1q a0 a1 o) := by
  unfold poly_Wide_Over.c1; exact
   Owp.bif (fun e2 =>
   Owp.bnd fun y3 e4 =>
    Owp.some (triple_way (poly_Wide_Over.cok k) hmix [.dec true, .res (.one (.dp T90)) y3] [] [(0, 0)] (via (finP (And.intro (And.intro trivial e2) e4) .normal [(0, 0)] (poly_Wide_Over.c1q a0 a1 y3)) (by kernel_rfl)))) (fun e2 =>
   Owp.some (triple_way (poly_Wide_Over.cok k) hmix [.dec false] [] [(0, 0)] (via (finP (And.intro trivial e2) .normal [(0, 0)] (poly_Wide_Over.c1q a0 a1 a0)) (by kernel_rfl))))
noncomputable def poly_Wide_Over.c2p (a0 : V90) (a1 : Int) (o5 : V90) : SL := ⟨[(2, (.val .ptr ⟨0, 0, (0 : Int), 0, 0⟩)), (6, (.val T4 (ilt a0.1 (0 : Int)))), (7, (.val T12 (icv .u64 a1))), (24, (.val T4 (ilt a1 (0 : Int))))], [(0, .cells T90 o5)]⟩
noncomputable def poly_Wide_Over.c2q (o5 : V90) (o : (Bool × Int)) : SL := (fun v => ⟨[(2, (.val .ptr ⟨0, 0, (0 : Int), 0, 0⟩)), (6, (.val T4 v.1)), (7, (.val T12 v.2))], [(0, .cells T90 o5)]⟩) o
noncomputable def poly_Wide_Over.c2x (o : (Bool × Int)) : Ex := (fun _ => .normal) o
noncomputable def poly_Wide_Over.c2n (o : (Bool × Int)) : Nat := (fun _ => 1) o
theorem poly_Wide_Over.c2_ok (k : Nat) (a0 : V90) (a1 : Int) (o5 : V90) : Owp (poly_Wide_Over.c2 k a0 a1) fun o => Triple PR (poly_Wide_Over.cx k) (sub poly_Wide_Over.code [1, 1, 1, 1, 1, 0, 1]) 1 (poly_Wide_Over.c2p a0 a1 o5) (poly_Wide_Over.c2x o) (poly_Wide_Over.c2n o) (poly_Wide_Over.c2q o5 o) := by
  unfold poly_Wide_Over.c2; exact
   Owp.bif (fun e7 =>
   Owp.some (triple_way (poly_Wide_Over.cok k) hmix [.dec true] [] [(0, 0)] (via (finP (And.intro trivial e7) .normal [(0, 0)] (poly_Wide_Over.c2q o5 ((!(ilt a0.1 (0 : Int))), (ineg .u64 (icv .u64 a1))))) (by kernel_rfl)))) (fun e7 =>
   Owp.some (triple_way (poly_Wide_Over.cok k) hmix [.dec false] [] [(0, 0)] (via (finP (And.intro trivial e7) .normal [(0, 0)] (poly_Wide_Over.c2q o5 ((ilt a0.1 (0 : Int)), (icv .u64 a1)))) (by kernel_rfl))))
noncomputable def poly_Wide_Over.c3p (o8 : (Bool × Int)) (y11 : (Int × Int)) : SL := ⟨[(6, (.val T4 o8.1)), (7, (.val T12 o8.2)), (9, (.val T12 y11.1)), (10, (.val T12 y11.2))], []⟩
noncomputable def poly_Wide_Over.c3q (o8 : (Bool × Int)) (y11 : (Int × Int)) (o : Bool) : SL := (fun v => ⟨[(6, (.val T4 o8.1)), (9, (.val T12 y11.1)), (11, (.val T4 v))], []⟩) o
noncomputable def poly_Wide_Over.c3x (o : Bool) : Ex := (fun _ => .normal) o
noncomputable def poly_Wide_Over.c3n (o : Bool) : Nat := (fun _ => 0) o
theorem poly_Wide_Over.c3_ok (k : Nat) (o8 : (Bool × Int)) (y11 : (Int × Int)) : Owp (poly_Wide_Over.c3 k o8 y11) fun o => Triple PR (poly_Wide_Over.cx k) (sub poly_Wide_Over.code [1, 1, 1, 1, 1, 1, 1, 1, 1, 0]) 0 (poly_Wide_Over.c3p o8 y11) (poly_Wide_Over.c3x o) (poly_Wide_Over.c3n o) (poly_Wide_Over.c3q o8 y11 o) := by
  unfold poly_Wide_Over.c3; exact
   Owp.bif (fun e13 =>
   Owp.some (triple_way (poly_Wide_Over.cok k) hmix [.dec true, .dec true, .dec true, .dec true, .dec true, .dec true, .dec true, .dec true, .dec true, .dec true, .dec true] [] [] (via (finP (And.intro (And.intro (And.intro (And.intro (And.intro (And.intro (And.intro (And.intro trivial e13) e13) e13) e13) e13) e13) e13) e13) .normal [] (poly_Wide_Over.c3q o8 y11 true)) (by kernel_rfl)))) (fun e13 =>
   Owp.bif (fun e14 =>
    Owp.some (triple_way (poly_Wide_Over.cok k) hmix [.dec false, .dec false, .dec false, .dec false, .dec false, .dec false, .dec true, .dec true, .dec false, .dec true, .dec false] [] [] (via (finP (And.intro (And.intro (And.intro (And.intro (And.intro (And.intro (And.intro (And.intro (And.intro (And.intro trivial e13) e13) e13) e13) e13) e13) e14) e14) (And.intro e13 e14)) e13) .normal [] (poly_Wide_Over.c3q o8 y11 (!o8.1))) (by kernel_rfl)))) (fun e14 =>
    Owp.some (triple_way (poly_Wide_Over.cok k) hmix [.dec false, .dec false, .dec false, .dec false, .dec false, .dec false, .dec false, .dec false, .dec false, .dec false, .dec false] [] [] (via (finP (And.intro (And.intro (And.intro (And.intro (And.intro (And.intro (And.intro (And.intro (And.intro (And.intro trivial e13) e13) e13) e13) e13) e13) e14) e14) (And.intro e13 e14)) e13) .normal [] (poly_Wide_Over.c3q o8 y11 false)) (by kernel_rfl)))))
noncomputable def poly_Wide_Over.c4p (o8 : (Bool × Int)) (o15 : Bool) (y11 : (Int × Int)) : SL := ⟨[(6, (.val T4 o8.1)), (9, (.val T12 y11.1)), (59, (.val T4 o15))], []⟩
noncomputable def poly_Wide_Over.c4q (o8 : (Bool × Int)) (o : Unit ⊕ Int) : SL := (fun o => two o (fun v => ⟨[(4, (.val T2 (0 : Int))), (5, (.val T2 (2 : Int)))], []⟩) (fun v => ⟨[(6, (.val T4 o8.1)), (9, (.val T12 v))], []⟩)) o
noncomputable def poly_Wide_Over.c4x (o : Unit ⊕ Int) : Ex := (fun o => two o (fun _ => .ret) (fun _ => .normal)) o
noncomputable def poly_Wide_Over.c4n (o : Unit ⊕ Int) : Nat := (fun o => two o (fun _ => 0) (fun _ => 0)) o
theorem poly_Wide_Over.c4_ok (k : Nat) (o8 : (Bool × Int)) (o15 : Bool) (y11 : (Int × Int)) : Owp (poly_Wide_Over.c4 k o15 y11) fun o => Triple PR (poly_Wide_Over.cx k) (sub poly_Wide_Over.code [1, 1, 1, 1, 1, 1, 1, 1, 1, 1, 0, 1]) 0 (poly_Wide_Over.c4p o8 o15 y11) (poly_Wide_Over.c4x o) (poly_Wide_Over.c4n o) (poly_Wide_Over.c4q o8 o) := by
  unfold poly_Wide_Over.c4; exact
   Owp.bif (fun e17 =>
   Owp.bif (fun e18 =>
    Owp.some (triple_way (poly_Wide_Over.cok k) hmix [.dec true, .dec true] [] [] (via (finP (And.intro (And.intro trivial e17) e18) .ret [] (poly_Wide_Over.c4q o8 (.inl ()))) (by kernel_rfl)))) (fun e18 =>
    Owp.some (triple_way (poly_Wide_Over.cok k) hmix [.dec true, .dec false] [] [] (via (finP (And.intro (And.intro trivial e17) e18) .normal [] (poly_Wide_Over.c4q o8 (.inr (iadd .u64 y11.1 (1 : Int))))) (by kernel_rfl))))) (fun e17 =>
   Owp.some (triple_way (poly_Wide_Over.cok k) hmix [.dec false] [] [] (via (finP (And.intro trivial e17) .normal [] (poly_Wide_Over.c4q o8 (.inr y11.1))) (by kernel_rfl))))
noncomputable def poly_Wide_Over.c5p (o8 : (Bool × Int)) (y23 : Int) : SL := ⟨[(6, (.val T4 o8.1)), (9, (.val T12 y23))], []⟩
noncomputable def poly_Wide_Over.c5q (o8 : (Bool × Int)) (y23 : Int) (o : Bool) : SL := (fun v => ⟨[(6, (.val T4 o8.1)), (9, (.val T12 y23)), (64, (.val T4 v))], []⟩) o
noncomputable def poly_Wide_Over.c5x (o : Bool) : Ex := (fun _ => .normal) o
noncomputable def poly_Wide_Over.c5n (o : Bool) : Nat := (fun _ => 0) o
theorem poly_Wide_Over.c5_ok (k : Nat) (o8 : (Bool × Int)) (y23 : Int) : Owp (poly_Wide_Over.c5 k o8 y23) fun o => Triple PR (poly_Wide_Over.cx k) (sub poly_Wide_Over.code [1, 1, 1, 1, 1, 1, 1, 1, 1, 1, 1, 0, 0, 0]) 0 (poly_Wide_Over.c5p o8 y23) (poly_Wide_Over.c5x o) (poly_Wide_Over.c5n o) (poly_Wide_Over.c5q o8 y23 o) := by
  unfold poly_Wide_Over.c5; exact
   Owp.bif (fun e25 =>
   Owp.some (triple_way (poly_Wide_Over.cok k) hmix [.dec true, .dec true, .dec true] [] [] (via (finP (And.intro (And.intro (And.intro trivial e25) e25) e25) .normal [] (poly_Wide_Over.c5q o8 y23 (ile y23 (9223372036854775808 : Int)))) (by kernel_rfl)))) (fun e25 =>
   Owp.some (triple_way (poly_Wide_Over.cok k) hmix [.dec false, .dec false, .dec false] [] [] (via (finP (And.intro (And.intro (And.intro trivial e25) e25) e25) .normal [] (poly_Wide_Over.c5q o8 y23 false)) (by kernel_rfl))))
noncomputable def poly_Wide_Over.c6p (o8 : (Bool × Int)) (y23 : Int) : SL := ⟨[(6, (.val T4 o8.1)), (9, (.val T12 y23))], []⟩
noncomputable def poly_Wide_Over.c6q (y23 : Int) (o : Bool) : SL := (fun v => ⟨[(9, (.val T12 y23)), (73, (.val T4 v))], []⟩) o
noncomputable def poly_Wide_Over.c6x (o : Bool) : Ex := (fun _ => .normal) o
noncomputable def poly_Wide_Over.c6n (o : Bool) : Nat := (fun _ => 0) o
theorem poly_Wide_Over.c6_ok (k : Nat) (o8 : (Bool × Int)) (y23 : Int) : Owp (poly_Wide_Over.c6 k o8 y23) fun o => Triple PR (poly_Wide_Over.cx k) (sub poly_Wide_Over.code [1, 1, 1, 1, 1, 1, 1, 1, 1, 1, 1, 0, 0, 1, 1, 0]) 0 (poly_Wide_Over.c6p o8 y23) (poly_Wide_Over.c6x o) (poly_Wide_Over.c6n o) (poly_Wide_Over.c6q y23 o) := by
  unfold poly_Wide_Over.c6; exact
   Owp.bif (fun e29 =>
   Owp.some (triple_way (poly_Wide_Over.cok k) hmix [.dec false, .dec false, .dec false] [] [] (via (finP (And.intro (And.intro (And.intro trivial (congrArg not e29)) (congrArg not e29)) (congrArg not e29)) .normal [] (poly_Wide_Over.c6q y23 false)) (by kernel_rfl)))) (fun e29 =>
   Owp.some (triple_way (poly_Wide_Over.cok k) hmix [.dec true, .dec true, .dec true] [] [] (via (finP (And.intro (And.intro (And.intro trivial (congrArg not e29)) (congrArg not e29)) (congrArg not e29)) .normal [] (poly_Wide_Over.c6q y23 (ilt y23 (9223372036854775808 : Int)))) (by kernel_rfl))))
theorem poly_Wide_Over.way (k : Nat) (a0 : V90) (a1 : Int) : Owp (poly_Wide_Over k a0 a1) fun y => ∃ answers cmds, exec PR (poly_Wide_Over.cx k) poly_Wide_Over.code 0 (entry (.pair T90 (.pair T2 .unit)) (a0, a1, ())).st answers (Ret (poly_Wide_Over.cx k) Try.f97 cmds (.more (.dp T2) (.one (.dp T2))) y) := by
  unfold poly_Wide_Over; exact
   Owp.bif (fun e1 =>
   Owp.some (⟨[.dec true], [], via (retP (And.intro trivial e1) (.more (.dp T2) (.one (.dp T2))) (((0 : Int), (17 : Int)) : (Int × Int))) (by kernel_rfl)⟩)) (fun e1 =>
   Owp.bnd fun o5 e6 =>
    Owp.bnd fun o8 e9 =>
    Owp.bif (fun e10 =>
    Owp.some (⟨[.dec false, .cut ⟨[], [(0, 0)], (poly_Wide_Over.c1p a0 a1), 1, .normal, (poly_Wide_Over.c1q a0 a1 o5), 1⟩, .cut ⟨[], [(0, 0)], (poly_Wide_Over.c2p a0 a1 o5), 1, .normal, (poly_Wide_Over.c2q o5 o8), 1⟩, .dec true], [], via (cutP (And.intro trivial e1) [(0, 0)] (poly_Wide_Over.c1p a0 a1) (((poly_Wide_Over.c1_ok k a0 a1).ap e6)) (cutP trivial [(0, 0)] (poly_Wide_Over.c2p a0 a1 o5) (((poly_Wide_Over.c2_ok k a0 a1 o5).ap e9)) (retP (And.intro trivial e10) (.more (.dp T2) (.one (.dp T2))) (((0 : Int), (2 : Int)) : (Int × Int))))) (by kernel_rfl)⟩)) (fun e10 =>
    Owp.bnd fun y11 e12 =>
     Owp.bnd fun o15 e16 =>
     Owp.bnd fun o19 e20 =>
     Owp.two (fun y21 e22 =>
     Owp.some (⟨[.dec false, .cut ⟨[], [(0, 0)], (poly_Wide_Over.c1p a0 a1), 1, .normal, (poly_Wide_Over.c1q a0 a1 o5), 1⟩, .cut ⟨[], [(0, 0)], (poly_Wide_Over.c2p a0 a1 o5), 1, .normal, (poly_Wide_Over.c2q o5 o8), 1⟩, .dec false, .res (.more (.dp T12) (.one (.dp T12))) y11, .cutR 13 ⟨[], [], (poly_Wide_Over.c3p o8 y11), 0, .normal, (poly_Wide_Over.c3q o8 y11 o15), 0⟩, .cut ⟨[], [], (poly_Wide_Over.c4p o8 o15 y11), 0, .ret, (poly_Wide_Over.c4q o8 (.inl ())), 0⟩], [], via (cutP (And.intro trivial e1) [(0, 0)] (poly_Wide_Over.c1p a0 a1) (((poly_Wide_Over.c1_ok k a0 a1).ap e6)) (cutP trivial [(0, 0)] (poly_Wide_Over.c2p a0 a1 o5) (((poly_Wide_Over.c2_ok k a0 a1 o5).ap e9)) (cutP (And.intro (And.intro trivial e10) e12) [] (poly_Wide_Over.c3p o8 y11) (((poly_Wide_Over.c3_ok k o8 y11).ap e16)) (cutP trivial [] (poly_Wide_Over.c4p o8 o15 y11) (((poly_Wide_Over.c4_ok k o8 o15 y11).ap (e20.trans (congrArg some e22)))) (retP trivial (.more (.dp T2) (.one (.dp T2))) (((0 : Int), (2 : Int)) : (Int × Int))))))) (by kernel_rfl)⟩)) (fun y23 e24 =>
     Owp.bnd fun o26 e27 =>
      Owp.bif (fun e28 =>
      Owp.some (⟨[.dec false, .cut ⟨[], [(0, 0)], (poly_Wide_Over.c1p a0 a1), 1, .normal, (poly_Wide_Over.c1q a0 a1 o5), 1⟩, .cut ⟨[], [(0, 0)], (poly_Wide_Over.c2p a0 a1 o5), 1, .normal, (poly_Wide_Over.c2q o5 o8), 1⟩, .dec false, .res (.more (.dp T12) (.one (.dp T12))) y11, .cutR 13 ⟨[], [], (poly_Wide_Over.c3p o8 y11), 0, .normal, (poly_Wide_Over.c3q o8 y11 o15), 0⟩, .cut ⟨[], [], (poly_Wide_Over.c4p o8 o15 y11), 0, .normal, (poly_Wide_Over.c4q o8 (.inr y23)), 0⟩, .cutR 18 ⟨[], [], (poly_Wide_Over.c5p o8 y23), 0, .normal, (poly_Wide_Over.c5q o8 y23 o26), 0⟩, .dec true], [], via (cutP (And.intro trivial e1) [(0, 0)] (poly_Wide_Over.c1p a0 a1) (((poly_Wide_Over.c1_ok k a0 a1).ap e6)) (cutP trivial [(0, 0)] (poly_Wide_Over.c2p a0 a1 o5) (((poly_Wide_Over.c2_ok k a0 a1 o5).ap e9)) (cutP (And.intro (And.intro trivial e10) e12) [] (poly_Wide_Over.c3p o8 y11) (((poly_Wide_Over.c3_ok k o8 y11).ap e16)) (cutP trivial [] (poly_Wide_Over.c4p o8 o15 y11) (((poly_Wide_Over.c4_ok k o8 o15 y11).ap (e20.trans (congrArg some e24)))) (cutP trivial [] (poly_Wide_Over.c5p o8 y23) (((poly_Wide_Over.c5_ok k o8 y23).ap e27)) (retP (And.intro trivial e28) (.more (.dp T2) (.one (.dp T2))) (((icv .i64 (ineg .u64 y23)), (0 : Int)) : (Int × Int)))))))) (by kernel_rfl)⟩)) (fun e28 =>
      Owp.bnd fun o30 e31 =>
       Owp.bif (fun e32 =>
       Owp.some (⟨[.dec false, .cut ⟨[], [(0, 0)], (poly_Wide_Over.c1p a0 a1), 1, .normal, (poly_Wide_Over.c1q a0 a1 o5), 1⟩, .cut ⟨[], [(0, 0)], (poly_Wide_Over.c2p a0 a1 o5), 1, .normal, (poly_Wide_Over.c2q o5 o8), 1⟩, .dec false, .res (.more (.dp T12) (.one (.dp T12))) y11, .cutR 13 ⟨[], [], (poly_Wide_Over.c3p o8 y11), 0, .normal, (poly_Wide_Over.c3q o8 y11 o15), 0⟩, .cut ⟨[], [], (poly_Wide_Over.c4p o8 o15 y11), 0, .normal, (poly_Wide_Over.c4q o8 (.inr y23)), 0⟩, .cutR 18 ⟨[], [], (poly_Wide_Over.c5p o8 y23), 0, .normal, (poly_Wide_Over.c5q o8 y23 o26), 0⟩, .dec false, .cutR 20 ⟨[], [], (poly_Wide_Over.c6p o8 y23), 0, .normal, (poly_Wide_Over.c6q y23 o30), 0⟩, .dec true], [], via (cutP (And.intro trivial e1) [(0, 0)] (poly_Wide_Over.c1p a0 a1) (((poly_Wide_Over.c1_ok k a0 a1).ap e6)) (cutP trivial [(0, 0)] (poly_Wide_Over.c2p a0 a1 o5) (((poly_Wide_Over.c2_ok k a0 a1 o5).ap e9)) (cutP (And.intro (And.intro trivial e10) e12) [] (poly_Wide_Over.c3p o8 y11) (((poly_Wide_Over.c3_ok k o8 y11).ap e16)) (cutP trivial [] (poly_Wide_Over.c4p o8 o15 y11) (((poly_Wide_Over.c4_ok k o8 o15 y11).ap (e20.trans (congrArg some e24)))) (cutP trivial [] (poly_Wide_Over.c5p o8 y23) (((poly_Wide_Over.c5_ok k o8 y23).ap e27)) (cutP (And.intro trivial e28) [] (poly_Wide_Over.c6p o8 y23) (((poly_Wide_Over.c6_ok k o8 y23).ap e31)) (retP (And.intro trivial e32) (.more (.dp T2) (.one (.dp T2))) (((icv .i64 y23), (0 : Int)) : (Int × Int))))))))) (by kernel_rfl)⟩)) (fun e32 =>
       Owp.some (⟨[.dec false, .cut ⟨[], [(0, 0)], (poly_Wide_Over.c1p a0 a1), 1, .normal, (poly_Wide_Over.c1q a0 a1 o5), 1⟩, .cut ⟨[], [(0, 0)], (poly_Wide_Over.c2p a0 a1 o5), 1, .normal, (poly_Wide_Over.c2q o5 o8), 1⟩, .dec false, .res (.more (.dp T12) (.one (.dp T12))) y11, .cutR 13 ⟨[], [], (poly_Wide_Over.c3p o8 y11), 0, .normal, (poly_Wide_Over.c3q o8 y11 o15), 0⟩, .cut ⟨[], [], (poly_Wide_Over.c4p o8 o15 y11), 0, .normal, (poly_Wide_Over.c4q o8 (.inr y23)), 0⟩, .cutR 18 ⟨[], [], (poly_Wide_Over.c5p o8 y23), 0, .normal, (poly_Wide_Over.c5q o8 y23 o26), 0⟩, .dec false, .cutR 20 ⟨[], [], (poly_Wide_Over.c6p o8 y23), 0, .normal, (poly_Wide_Over.c6q y23 o30), 0⟩, .dec false], [], via (cutP (And.intro trivial e1) [(0, 0)] (poly_Wide_Over.c1p a0 a1) (((poly_Wide_Over.c1_ok k a0 a1).ap e6)) (cutP trivial [(0, 0)] (poly_Wide_Over.c2p a0 a1 o5) (((poly_Wide_Over.c2_ok k a0 a1 o5).ap e9)) (cutP (And.intro (And.intro trivial e10) e12) [] (poly_Wide_Over.c3p o8 y11) (((poly_Wide_Over.c3_ok k o8 y11).ap e16)) (cutP trivial [] (poly_Wide_Over.c4p o8 o15 y11) (((poly_Wide_Over.c4_ok k o8 o15 y11).ap (e20.trans (congrArg some e24)))) (cutP trivial [] (poly_Wide_Over.c5p o8 y23) (((poly_Wide_Over.c5_ok k o8 y23).ap e27)) (cutP (And.intro trivial e28) [] (poly_Wide_Over.c6p o8 y23) (((poly_Wide_Over.c6_ok k o8 y23).ap e31)) (retP (And.intro trivial e32) (.more (.dp T2) (.one (.dp T2))) (((0 : Int), (2 : Int)) : (Int × Int))))))))) (by kernel_rfl)⟩))))))
theorem poly_Wide_Over.ok (k : Nat) : FnOk PR 97 (poly_Wide_Over.sp k) :=
  fn_ok (poly_Wide_Over.cok k) hmix Try.func97 (code := poly_Wide_Over.code) (by kernel_rfl) (by kernel_rfl) (by kernel_rfl) rfl rfl (by kernel_rfl) (by kernel_rfl) (by kernel_rfl) (fun x => Nat.le_of_ble_eq_true (by kernel_rfl)) fun x y hy => (poly_Wide_Over.way k x.1 x.2.1).ap hy

theorem bits_Add64.ok (k : Nat) : FnOk PR 184 (bits_Add64.sp k) := add64_ok Try.func184 (by kernel_rfl) (by kernel_rfl) (by kernel_rfl) (by kernel_rfl) k

/-! tourney/poly.Has -/
noncomputable def poly_Has.code : Code := Func.cd Try.f174
def poly_Has.c1 (k : Nat) (a0 : (List V22)) (a1 : V22) : Option (Bool) :=
  bnd (poly_Check k a0) fun y1 =>
  bif' (ine y1 0)
  (some true)
  (bnd (poly_within k a1) fun y4 =>
   some (!y4))
def poly_Has.c2 (k : Nat) (a0 : (List V22)) (a1 : V22) : Nat → Int → Option (Unit ⊕ Unit)
  | 0, _ => none
  | n + 1, v9 =>
   bif' (ilt v9 (len a0))
   (req (inL v9 a0) <|
    req (nz (len a0)) <|
    req (inL (irem (iadd .i64 v9 1) (len a0)) a0) <|
    bnd (poly_side k (el Z22 a0 v9) (el Z22 a0 (irem (iadd .i64 v9 1) (len a0))) a1) fun y14 =>
    bif' (ilt y14 0)
    (some (.inl ()))
    (poly_Has.c2 k a0 a1 n (iadd .i64 v9 1)))
   (some (.inr ()))
def poly_Has (k : Nat) (a0 : (List V22)) (a1 : V22) : Option Bool :=
  bnd (poly_Has.c1 k a0 a1) fun o6 =>
  bif' o6
  (some false)
  (bnd (poly_Has.c2 k a0 a1 k 0) fun o17 =>
   two o17 (fun y19 =>
   some false) (fun y21 =>
   some true))
noncomputable def poly_Has.sp (k : Nat) : Go.Sx.Spec := ⟨(.pair T24 (.pair T22 .unit)), (.one (.dp T4)), fun x => poly_Has k x.1 x.2.1, false⟩
noncomputable def poly_Has.cx (k : Nat) : Go.Sx.Ctx := ⟨tys, [(39, poly_Check.sp k), (110, poly_within.sp k), (111, poly_side.sp k)], eqs, 35, 0, [], false⟩
theorem poly_Has.cok (k : Nat) : CtxOk PR (poly_Has.cx k) := ctx_ok tysOk eqsOk (FnsOk.cons (poly_Check.ok k) (FnsOk.cons (poly_within.ok k) (FnsOk.cons (poly_side.ok k) FnsOk.nil))) HsOk.nil
noncomputable def poly_Has.c1p (a0 : (List V22)) (a1 : V22) : SL := ⟨[(0, (.val T24 a0)), (3, (.val .ptr ⟨0, 0, (0 : Int), 0, 0⟩))], [(0, .cells T22 a1)]⟩
noncomputable def poly_Has.c1q (a0 : (List V22)) (a1 : V22) (o : Bool) : SL := (fun v => ⟨[(0, (.val T24 a0)), (3, (.val .ptr ⟨0, 0, (0 : Int), 0, 0⟩)), (14, (.val T4 v))], [(0, .cells T22 a1)]⟩) o
noncomputable def poly_Has.c1x (o : Bool) : Ex := (fun _ => .normal) o
noncomputable def poly_Has.c1n (o : Bool) : Nat := (fun _ => 1) o
theorem poly_Has.c1_ok (k : Nat) (a0 : (List V22)) (a1 : V22) : Owp (poly_Has.c1 k a0 a1) fun o => Triple PR (poly_Has.cx k) (sub poly_Has.code [1, 0, 0]) 1 (poly_Has.c1p a0 a1) (poly_Has.c1x o) (poly_Has.c1n o) (poly_Has.c1q a0 a1 o) := by
  unfold poly_Has.c1; exact
   Owp.bnd fun y1 e2 =>
   Owp.bif (fun e3 =>
   Owp.some (triple_way (poly_Has.cok k) hmix [.res (.one (.dp T2)) y1, .dec true, .dec true, .dec true, .dec true, .dec true] [] [(0, 0)] (via (finP (And.intro (And.intro (And.intro (And.intro (And.intro trivial e2) e3) e3) e3) e3) .normal [(0, 0)] (poly_Has.c1q a0 a1 true)) (by kernel_rfl)))) (fun e3 =>
   Owp.bnd fun y4 e5 =>
    Owp.some (triple_way (poly_Has.cok k) hmix [.res (.one (.dp T2)) y1, .dec false, .dec false, .res (.one (.dp T4)) y4, .dec false, .dec false] [] [(0, 0)] (via (finP (And.intro (And.intro (And.intro (And.intro (And.intro trivial e2) e3) (And.intro e3 e5)) e3) e3) .normal [(0, 0)] (poly_Has.c1q a0 a1 (!y4))) (by kernel_rfl))))
noncomputable def poly_Has.c2p (a0 : (List V22)) (a1 : V22) (v9 : Int) : SL := ⟨[(0, (.val T24 a0)), (3, (.val .ptr ⟨0, 0, (0 : Int), 0, 0⟩)), (15, (.val T24 a0)), (16, (.val T2 (len a0))), (17, (.val T2 v9))], [(0, .cells T22 a1)]⟩
noncomputable def poly_Has.c2q (o : Unit ⊕ Unit) : SL := (fun o => two o (fun v => ⟨[(4, (.val T4 false))], []⟩) (fun v => ⟨[], []⟩)) o
noncomputable def poly_Has.c2x (o : Unit ⊕ Unit) : Ex := (fun o => two o (fun _ => .ret) (fun _ => (.exit 0))) o
noncomputable def poly_Has.c2n (o : Unit ⊕ Unit) : Nat := (fun o => two o (fun _ => 0) (fun _ => 0)) o
theorem poly_Has.c2_ok (k : Nat) (a0 : (List V22)) (a1 : V22) : ∀ (n : Nat) (v9 : Int), Owp (poly_Has.c2 k a0 a1 n v9) fun o => LTriple PR (poly_Has.cx k) (sub poly_Has.code [1, 1, 0, 1, 0, 0]) 1 (poly_Has.c2p a0 a1 v9) (poly_Has.c2x o) (poly_Has.c2n o) (poly_Has.c2q o)
  | 0, _ => fun _ h => nomatch h
  | n + 1, v9 => Owp.of (poly_Has.c2.eq_2 ..) (
   Owp.bif (fun e10 =>
   Owp.req fun h11 =>
    Owp.req fun h12 =>
    Owp.req fun h13 =>
    Owp.bnd fun y14 e15 =>
    Owp.bif (fun e16 =>
    Owp.some (loop_exit (poly_Has.cok k) hmix [.dec true, .res (.one (.dp T2)) y14, .dec true] [] [] exne_ret (via (finP (And.intro (And.intro (And.intro (And.intro (And.intro (And.intro trivial e10) h11) h12) h13) e15) e16) .ret [] (poly_Has.c2q (.inl ()))) (by kernel_rfl)))) (fun e16 =>
    fun y hy => loop_back (poly_Has.cok k) hmix 1 (poly_Has.c2p a0 a1 (iadd .i64 v9 (1 : Int))) [.dec true, .res (.one (.dp T2)) y14, .dec false] [] [(0, 0)] (via (finP (And.intro (And.intro (And.intro (And.intro (And.intro (And.intro trivial e10) h11) h12) h13) e15) e16) .normal [(0, 0)] (poly_Has.c2p a0 a1 (iadd .i64 v9 (1 : Int)))) (by kernel_rfl)) ((poly_Has.c2_ok k a0 a1 n (iadd .i64 v9 (1 : Int))).ap hy))) (fun e10 =>
   Owp.some (loop_exit (poly_Has.cok k) hmix [.dec false] [] [] (exne 0) (via (finP (And.intro trivial e10) (.exit 0) [] (poly_Has.c2q (.inr ()))) (by kernel_rfl)))))
theorem poly_Has.way (k : Nat) (a0 : (List V22)) (a1 : V22) : Owp (poly_Has k a0 a1) fun y => ∃ answers cmds, exec PR (poly_Has.cx k) poly_Has.code 0 (entry (.pair T24 (.pair T22 .unit)) (a0, a1, ())).st answers (Ret (poly_Has.cx k) Try.f174 cmds (.one (.dp T4)) y) := by
  unfold poly_Has; exact
   Owp.bnd fun o6 e7 =>
   Owp.bif (fun e8 =>
   Owp.some (⟨[.cutR 1 ⟨[], [(0, 0)], (poly_Has.c1p a0 a1), 1, .normal, (poly_Has.c1q a0 a1 o6), 1⟩, .dec true], [], via (cutP trivial [(0, 0)] (poly_Has.c1p a0 a1) (((poly_Has.c1_ok k a0 a1).ap e7)) (retP (And.intro trivial e8) (.one (.dp T4)) (false : Bool))) (by kernel_rfl)⟩)) (fun e8 =>
   Owp.bnd fun o17 e18 =>
    Owp.two (fun y19 e20 =>
    Owp.some (⟨[.cutR 1 ⟨[], [(0, 0)], (poly_Has.c1p a0 a1), 1, .normal, (poly_Has.c1q a0 a1 o6), 1⟩, .dec false, .cut ⟨[], [(0, 0)], (poly_Has.c2p a0 a1 (0 : Int)), 1, .ret, (poly_Has.c2q (.inl ())), 0⟩], [], via (cutP trivial [(0, 0)] (poly_Has.c1p a0 a1) (((poly_Has.c1_ok k a0 a1).ap e7)) (cutP (And.intro trivial e8) [(0, 0)] (poly_Has.c2p a0 a1 (0 : Int)) (((poly_Has.c2_ok k a0 a1 k (0 : Int)).ap (e18.trans (congrArg some e20))).triple) (retP trivial (.one (.dp T4)) (false : Bool)))) (by kernel_rfl)⟩)) (fun y21 e22 =>
    Owp.some (⟨[.cutR 1 ⟨[], [(0, 0)], (poly_Has.c1p a0 a1), 1, .normal, (poly_Has.c1q a0 a1 o6), 1⟩, .dec false, .cut ⟨[], [(0, 0)], (poly_Has.c2p a0 a1 (0 : Int)), 1, (.exit 0), (poly_Has.c2q (.inr ())), 0⟩], [], via (cutP trivial [(0, 0)] (poly_Has.c1p a0 a1) (((poly_Has.c1_ok k a0 a1).ap e7)) (cutP (And.intro trivial e8) [(0, 0)] (poly_Has.c2p a0 a1 (0 : Int)) (((poly_Has.c2_ok k a0 a1 k (0 : Int)).ap (e18.trans (congrArg some e22))).triple) (retP trivial (.one (.dp T4)) (true : Bool)))) (by kernel_rfl)⟩)))
theorem poly_Has.ok (k : Nat) : FnOk PR 174 (poly_Has.sp k) :=
  fn_ok (poly_Has.cok k) hmix Try.func174 (code := poly_Has.code) (by kernel_rfl) (by kernel_rfl) (by kernel_rfl) rfl rfl (by kernel_rfl) (by kernel_rfl) (by kernel_rfl) (fun x => Nat.le_of_ble_eq_true (by kernel_rfl)) fun x y hy => (poly_Has.way k x.1 x.2.1).ap hy

/-! (tourney/tourref2.Big).Below -/
noncomputable def tourref2_Big_Below.code : Code := Func.cd Try.f179
def tourref2_Big_Below (k : Nat) (a0 : (List Int)) : Option Bool :=
  some (ieq (ishr .u32 (el 0 a0 7) 15) 1)
noncomputable def tourref2_Big_Below.sp (k : Nat) : Go.Sx.Spec := ⟨(.pair T134 .unit), (.one (.dp T4)), fun x => tourref2_Big_Below k x.1, false⟩
noncomputable def tourref2_Big_Below.cx (k : Nat) : Go.Sx.Ctx := ⟨tys, [], eqs, 7, 0, [], false⟩
theorem tourref2_Big_Below.cok (k : Nat) : CtxOk PR (tourref2_Big_Below.cx k) := ctx_ok tysOk eqsOk FnsOk.nil HsOk.nil
theorem tourref2_Big_Below.way (k : Nat) (a0 : (List Int)) : Owp (tourref2_Big_Below k a0) fun y => ∃ answers cmds, exec PR (tourref2_Big_Below.cx k) tourref2_Big_Below.code 0 (entry (.pair T134 .unit) (a0, ())).st answers (Ret (tourref2_Big_Below.cx k) Try.f179 cmds (.one (.dp T4)) y) := by
  unfold tourref2_Big_Below; exact
   Owp.some (⟨[], [], via (retP (And.intro (And.intro (And.intro trivial (by decide : inR (7 : Int) 8)) (by decide : inR (7 : Int) 8)) (by decide : ng (15 : Int))) (.one (.dp T4)) ((ieq (ishr .u32 (el (0 : Int) a0 (7 : Int)) (15 : Int)) (1 : Int)) : Bool)) (by kernel_rfl)⟩)
theorem tourref2_Big_Below.ok (k : Nat) : FnOk PR 179 (tourref2_Big_Below.sp k) :=
  fn_ok (tourref2_Big_Below.cok k) hmix Try.func179 (code := tourref2_Big_Below.code) (by kernel_rfl) (by kernel_rfl) (by kernel_rfl) rfl rfl (by kernel_rfl) (by kernel_rfl) (by kernel_rfl) (fun x => Nat.le_of_ble_eq_true (by kernel_rfl)) fun x y hy => (tourref2_Big_Below.way k x.1).ap hy

/-! (tourney/tourref2.Big).Cmp -/
noncomputable def tourref2_Big_Cmp.code : Code := Func.cd Try.f126
def tourref2_Big_Cmp.c1 (k : Nat) (a0 : (List Int)) (a1 : (List Int)) : Nat → Int → Option (Int ⊕ Unit)
  | 0, _ => none
  | n + 1, v6 =>
   bif' (ige v6 0)
   (req (inR v6 8) <|
    bif' (ine (el 0 a0 v6) (el 0 a1 v6))
    (bif' (ilt (el 0 a0 v6) (el 0 a1 v6))
     (some (.inl (-1)))
     (some (.inl 1)))
    (tourref2_Big_Cmp.c1 k a0 a1 n (isub .i64 v6 1)))
   (some (.inr ()))
def tourref2_Big_Cmp (k : Nat) (a0 : (List Int)) (a1 : (List Int)) : Option Int :=
  bnd (tourref2_Big_Below k a0) fun y1 =>
  bnd (tourref2_Big_Below k a1) fun y3 =>
  bif' (Ty.eqb T4 y1 y3)
  (bnd (tourref2_Big_Cmp.c1 k a0 a1 k 7) fun o11 =>
   two o11 (fun y13 =>
   some y13) (fun y15 =>
   some 0))
  (bnd (tourref2_Big_Below k a0) fun y17 =>
   bif' y17
   (some (-1))
   (some 1))
noncomputable def tourref2_Big_Cmp.sp (k : Nat) : Go.Sx.Spec := ⟨(.pair T134 (.pair T134 .unit)), (.one (.dp T2)), fun x => tourref2_Big_Cmp k x.1 x.2.1, false⟩
noncomputable def tourref2_Big_Cmp.cx (k : Nat) : Go.Sx.Ctx := ⟨tys, [(179, tourref2_Big_Below.sp k)], eqs, 31, 0, [], false⟩
theorem tourref2_Big_Cmp.cok (k : Nat) : CtxOk PR (tourref2_Big_Cmp.cx k) := ctx_ok tysOk eqsOk (FnsOk.cons (tourref2_Big_Below.ok k) FnsOk.nil) HsOk.nil
noncomputable def tourref2_Big_Cmp.c1p (a0 : (List Int)) (a1 : (List Int)) (v6 : Int) : SL := ⟨[(2, (.val .ptr ⟨0, 0, (0 : Int), 0, 0⟩)), (3, (.val .ptr ⟨1, 0, (0 : Int), 0, 0⟩)), (5, (.val T2 v6))], [(0, .cells T134 a0), (1, .cells T134 a1)]⟩
noncomputable def tourref2_Big_Cmp.c1q (o : Int ⊕ Unit) : SL := (fun o => two o (fun v => ⟨[(4, (.val T2 v))], []⟩) (fun v => ⟨[], []⟩)) o
noncomputable def tourref2_Big_Cmp.c1x (o : Int ⊕ Unit) : Ex := (fun o => two o (fun _ => .ret) (fun _ => (.exit 0))) o
noncomputable def tourref2_Big_Cmp.c1n (o : Int ⊕ Unit) : Nat := (fun o => two o (fun _ => 0) (fun _ => 0)) o
theorem tourref2_Big_Cmp.c1_ok (k : Nat) (a0 : (List Int)) (a1 : (List Int)) : ∀ (n : Nat) (v6 : Int), Owp (tourref2_Big_Cmp.c1 k a0 a1 n v6) fun o => LTriple PR (tourref2_Big_Cmp.cx k) (sub tourref2_Big_Cmp.code [1, 1, 0, 1, 0, 0]) 2 (tourref2_Big_Cmp.c1p a0 a1 v6) (tourref2_Big_Cmp.c1x o) (tourref2_Big_Cmp.c1n o) (tourref2_Big_Cmp.c1q o)
  | 0, _ => fun _ h => nomatch h
  | n + 1, v6 => Owp.of (tourref2_Big_Cmp.c1.eq_2 ..) (
   Owp.bif (fun e7 =>
   Owp.req fun h8 =>
    Owp.bif (fun e9 =>
    Owp.bif (fun e10 =>
     Owp.some (loop_exit (tourref2_Big_Cmp.cok k) hmix [.dec true, .dec true, .dec true] [] [] exne_ret (via (finP (And.intro (And.intro (And.intro (And.intro (And.intro (And.intro (And.intro (And.intro (And.intro (And.intro (And.intro trivial e7) h8) h8) h8) h8) e9) h8) h8) h8) h8) e10) .ret [] (tourref2_Big_Cmp.c1q (.inl (-1 : Int)))) (by kernel_rfl)))) (fun e10 =>
     Owp.some (loop_exit (tourref2_Big_Cmp.cok k) hmix [.dec true, .dec true, .dec false] [] [] exne_ret (via (finP (And.intro (And.intro (And.intro (And.intro (And.intro (And.intro (And.intro (And.intro (And.intro (And.intro (And.intro trivial e7) h8) h8) h8) h8) e9) h8) h8) h8) h8) e10) .ret [] (tourref2_Big_Cmp.c1q (.inl (1 : Int)))) (by kernel_rfl))))) (fun e9 =>
    fun y hy => loop_back (tourref2_Big_Cmp.cok k) hmix 2 (tourref2_Big_Cmp.c1p a0 a1 (isub .i64 v6 (1 : Int))) [.dec true, .dec false] [] [(0, 0), (1, 1)] (via (finP (And.intro (And.intro (And.intro (And.intro (And.intro (And.intro trivial e7) h8) h8) h8) h8) e9) .normal [(0, 0), (1, 1)] (tourref2_Big_Cmp.c1p a0 a1 (isub .i64 v6 (1 : Int)))) (by kernel_rfl)) ((tourref2_Big_Cmp.c1_ok k a0 a1 n (isub .i64 v6 (1 : Int))).ap hy))) (fun e7 =>
   Owp.some (loop_exit (tourref2_Big_Cmp.cok k) hmix [.dec false] [] [] (exne 0) (via (finP (And.intro trivial e7) (.exit 0) [] (tourref2_Big_Cmp.c1q (.inr ()))) (by kernel_rfl)))))
theorem tourref2_Big_Cmp.way (k : Nat) (a0 : (List Int)) (a1 : (List Int)) : Owp (tourref2_Big_Cmp k a0 a1) fun y => ∃ answers cmds, exec PR (tourref2_Big_Cmp.cx k) tourref2_Big_Cmp.code 0 (entry (.pair T134 (.pair T134 .unit)) (a0, a1, ())).st answers (Ret (tourref2_Big_Cmp.cx k) Try.f126 cmds (.one (.dp T2)) y) := by
  unfold tourref2_Big_Cmp; exact
   Owp.bnd fun y1 e2 =>
   Owp.bnd fun y3 e4 =>
   Owp.bif (fun e5 =>
   Owp.bnd fun o11 e12 =>
    Owp.two (fun y13 e14 =>
    Owp.some (⟨[.res (.one (.dp T4)) y1, .res (.one (.dp T4)) y3, .dec false, .cut ⟨[], [(0, 0), (1, 1)], (tourref2_Big_Cmp.c1p a0 a1 (7 : Int)), 2, .ret, (tourref2_Big_Cmp.c1q (.inl y13)), 0⟩], [], via (cutP (And.intro (And.intro (And.intro trivial e2) e4) (congrArg not e5)) [(0, 0), (1, 1)] (tourref2_Big_Cmp.c1p a0 a1 (7 : Int)) (((tourref2_Big_Cmp.c1_ok k a0 a1 k (7 : Int)).ap (e12.trans (congrArg some e14))).triple) (retP trivial (.one (.dp T2)) (y13 : Int))) (by kernel_rfl)⟩)) (fun y15 e16 =>
    Owp.some (⟨[.res (.one (.dp T4)) y1, .res (.one (.dp T4)) y3, .dec false, .cut ⟨[], [(0, 0), (1, 1)], (tourref2_Big_Cmp.c1p a0 a1 (7 : Int)), 2, (.exit 0), (tourref2_Big_Cmp.c1q (.inr ())), 0⟩], [], via (cutP (And.intro (And.intro (And.intro trivial e2) e4) (congrArg not e5)) [(0, 0), (1, 1)] (tourref2_Big_Cmp.c1p a0 a1 (7 : Int)) (((tourref2_Big_Cmp.c1_ok k a0 a1 k (7 : Int)).ap (e12.trans (congrArg some e16))).triple) (retP trivial (.one (.dp T2)) ((0 : Int) : Int))) (by kernel_rfl)⟩))) (fun e5 =>
   Owp.bnd fun y17 e18 =>
    Owp.bif (fun e19 =>
    Owp.some (⟨[.res (.one (.dp T4)) y1, .res (.one (.dp T4)) y3, .dec true, .res (.one (.dp T4)) y17, .dec true], [], via (retP (And.intro (And.intro (And.intro (And.intro (And.intro trivial e2) e4) (congrArg not e5)) e18) e19) (.one (.dp T2)) ((-1 : Int) : Int)) (by kernel_rfl)⟩)) (fun e19 =>
    Owp.some (⟨[.res (.one (.dp T4)) y1, .res (.one (.dp T4)) y3, .dec true, .res (.one (.dp T4)) y17, .dec false], [], via (retP (And.intro (And.intro (And.intro (And.intro (And.intro trivial e2) e4) (congrArg not e5)) e18) e19) (.one (.dp T2)) ((1 : Int) : Int)) (by kernel_rfl)⟩)))
theorem tourref2_Big_Cmp.ok (k : Nat) : FnOk PR 126 (tourref2_Big_Cmp.sp k) :=
  fn_ok (tourref2_Big_Cmp.cok k) hmix Try.func126 (code := tourref2_Big_Cmp.code) (by kernel_rfl) (by kernel_rfl) (by kernel_rfl) rfl rfl (by kernel_rfl) (by kernel_rfl) (by kernel_rfl) (fun x => Nat.le_of_ble_eq_true (by kernel_rfl)) fun x y hy => (tourref2_Big_Cmp.way k x.1 x.2.1).ap hy

/-! tourney/tourref2.Of -/
noncomputable def tourref2_Of.code : Code := Func.cd Try.f159
def tourref2_Of.c1 (k : Nat) (a0 : Int) : Nat → Int → (List Int) → Option ((List Int))
  | 0, _, _ => none
  | n + 1, v1, v2 =>
   bif' (ilt v1 8)
   (bif' (ilt v1 4)
    (req (ng (imul .i64 16 v1)) <|
     req (inR v1 8) <|
     tourref2_Of.c1 k a0 n (iadd .i64 v1 1) (st v2 v1 (icv .u32 (ibits .and .u64 (ishr .u64 (icv .u64 a0) (imul .i64 16 v1)) 65535))))
    (bif' (ilt a0 0)
     (req (inR v1 8) <|
      tourref2_Of.c1 k a0 n (iadd .i64 v1 1) (st v2 v1 65535))
     (tourref2_Of.c1 k a0 n (iadd .i64 v1 1) v2)))
   (some v2)
def tourref2_Of (k : Nat) (a0 : Int) : Option (List Int) :=
  bnd (tourref2_Of.c1 k a0 k 0 (List.replicate 8 0)) fun o9 =>
  some o9
noncomputable def tourref2_Of.sp (k : Nat) : Go.Sx.Spec := ⟨(.pair T2 .unit), (.one (.dp T134)), fun x => tourref2_Of k x.1, false⟩
noncomputable def tourref2_Of.cx (k : Nat) : Go.Sx.Ctx := ⟨tys, [], eqs, 27, 0, [], false⟩
theorem tourref2_Of.cok (k : Nat) : CtxOk PR (tourref2_Of.cx k) := ctx_ok tysOk eqsOk FnsOk.nil HsOk.nil
noncomputable def tourref2_Of.c1p (a0 : Int) (v1 : Int) (v2 : (List Int)) : SL := ⟨[(0, (.val T2 a0)), (2, (.val .ptr ⟨0, 0, (0 : Int), 0, 0⟩)), (3, (.val .ptr ⟨1, 0, (0 : Int), 0, 0⟩)), (4, (.val T12 (icv .u64 a0))), (8, (.val T2 v1))], [(0, .cells T134 (List.replicate 8 (0 : Int))), (1, .cells T134 v2)]⟩
noncomputable def tourref2_Of.c1q (o : (List Int)) : SL := (fun v => ⟨[(2, (.val .ptr ⟨0, 0, (0 : Int), 0, 0⟩)), (3, (.val .ptr ⟨1, 0, (0 : Int), 0, 0⟩))], [(0, .cells T134 (List.replicate 8 (0 : Int))), (1, .cells T134 v)]⟩) o
noncomputable def tourref2_Of.c1x (o : (List Int)) : Ex := (fun _ => (.exit 0)) o
noncomputable def tourref2_Of.c1n (o : (List Int)) : Nat := (fun _ => 2) o
theorem tourref2_Of.c1_ok (k : Nat) (a0 : Int) : ∀ (n : Nat) (v1 : Int) (v2 : (List Int)), Owp (tourref2_Of.c1 k a0 n v1 v2) fun o => LTriple PR (tourref2_Of.cx k) (sub tourref2_Of.code [1, 1, 1, 0, 1, 0, 0]) 2 (tourref2_Of.c1p a0 v1 v2) (tourref2_Of.c1x o) (tourref2_Of.c1n o) (tourref2_Of.c1q o)
  | 0, _, _ => fun _ h => nomatch h
  | n + 1, v1, v2 => Owp.of (tourref2_Of.c1.eq_2 ..) (
   Owp.bif (fun e3 =>
   Owp.bif (fun e4 =>
    Owp.req fun h5 =>
     Owp.req fun h6 =>
     fun y hy => loop_back (tourref2_Of.cok k) hmix 2 (tourref2_Of.c1p a0 (iadd .i64 v1 (1 : Int)) (st v2 v1 (icv .u32 (ibits .and .u64 (ishr .u64 (icv .u64 a0) (imul .i64 (16 : Int) v1)) (65535 : Int))))) [.dec true, .dec true] [] [(0, 0), (1, 1)] (via (finP (And.intro (And.intro (And.intro (And.intro (And.intro trivial e3) e4) h5) h6) h6) .normal [(0, 0), (1, 1)] (tourref2_Of.c1p a0 (iadd .i64 v1 (1 : Int)) (st v2 v1 (icv .u32 (ibits .and .u64 (ishr .u64 (icv .u64 a0) (imul .i64 (16 : Int) v1)) (65535 : Int)))))) (by kernel_rfl)) ((tourref2_Of.c1_ok k a0 n (iadd .i64 v1 (1 : Int)) (st v2 v1 (icv .u32 (ibits .and .u64 (ishr .u64 (icv .u64 a0) (imul .i64 (16 : Int) v1)) (65535 : Int))))).ap hy)) (fun e4 =>
    Owp.bif (fun e7 =>
     Owp.req fun h8 =>
      fun y hy => loop_back (tourref2_Of.cok k) hmix 2 (tourref2_Of.c1p a0 (iadd .i64 v1 (1 : Int)) (st v2 v1 (65535 : Int))) [.dec true, .dec false, .dec true] [] [(0, 0), (1, 1)] (via (finP (And.intro (And.intro (And.intro (And.intro (And.intro trivial e3) e4) e7) h8) h8) .normal [(0, 0), (1, 1)] (tourref2_Of.c1p a0 (iadd .i64 v1 (1 : Int)) (st v2 v1 (65535 : Int)))) (by kernel_rfl)) ((tourref2_Of.c1_ok k a0 n (iadd .i64 v1 (1 : Int)) (st v2 v1 (65535 : Int))).ap hy)) (fun e7 =>
     fun y hy => loop_back (tourref2_Of.cok k) hmix 2 (tourref2_Of.c1p a0 (iadd .i64 v1 (1 : Int)) v2) [.dec true, .dec false, .dec false] [] [(0, 0), (1, 1)] (via (finP (And.intro (And.intro (And.intro trivial e3) e4) e7) .normal [(0, 0), (1, 1)] (tourref2_Of.c1p a0 (iadd .i64 v1 (1 : Int)) v2)) (by kernel_rfl)) ((tourref2_Of.c1_ok k a0 n (iadd .i64 v1 (1 : Int)) v2).ap hy)))) (fun e3 =>
   Owp.some (loop_exit (tourref2_Of.cok k) hmix [.dec false] [] [(0, 0), (1, 1)] (exne 0) (via (finP (And.intro trivial e3) (.exit 0) [(0, 0), (1, 1)] (tourref2_Of.c1q v2)) (by kernel_rfl)))))
theorem tourref2_Of.way (k : Nat) (a0 : Int) : Owp (tourref2_Of k a0) fun y => ∃ answers cmds, exec PR (tourref2_Of.cx k) tourref2_Of.code 0 (entry (.pair T2 .unit) (a0, ())).st answers (Ret (tourref2_Of.cx k) Try.f159 cmds (.one (.dp T134)) y) := by
  unfold tourref2_Of; exact
   Owp.bnd fun o9 e10 =>
   Owp.some (⟨[.cut ⟨[], [(0, 0), (1, 1)], (tourref2_Of.c1p a0 (0 : Int) (List.replicate 8 (0 : Int))), 2, (.exit 0), (tourref2_Of.c1q o9), 2⟩], [], via (cutP trivial [(0, 0), (1, 1)] (tourref2_Of.c1p a0 (0 : Int) (List.replicate 8 (0 : Int))) (((tourref2_Of.c1_ok k a0 k (0 : Int) (List.replicate 8 (0 : Int))).ap e10).triple) (retP trivial (.one (.dp T134)) (o9 : (List Int)))) (by kernel_rfl)⟩)
theorem tourref2_Of.ok (k : Nat) : FnOk PR 159 (tourref2_Of.sp k) :=
  fn_ok (tourref2_Of.cok k) hmix Try.func159 (code := tourref2_Of.code) (by kernel_rfl) (by kernel_rfl) (by kernel_rfl) rfl rfl (by kernel_rfl) (by kernel_rfl) (by kernel_rfl) (fun x => Nat.le_of_ble_eq_true (by kernel_rfl)) fun x y hy => (tourref2_Of.way k x.1).ap hy

/-! (tourney/tourref2.Big).Add -/
noncomputable def tourref2_Big_Add.code : Code := Func.cd Try.f178
def tourref2_Big_Add.c1 (k : Nat) (a0 : (List Int)) (a1 : (List Int)) : Nat → Int → Int → (List Int) → Option ((List Int))
  | 0, _, _, _ => none
  | n + 1, v1, v2, v3 =>
   bif' (ilt v2 8)
   (req (inR v2 8) <|
    tourref2_Big_Add.c1 k a0 a1 n (ishr .u32 (iadd .u32 v1 (iadd .u32 (el 0 a0 v2) (el 0 a1 v2))) 16) (iadd .i64 v2 1) (st v3 v2 (ibits .and .u32 (iadd .u32 v1 (iadd .u32 (el 0 a0 v2) (el 0 a1 v2))) 65535)))
   (some v3)
def tourref2_Big_Add (k : Nat) (a0 : (List Int)) (a1 : (List Int)) : Option (List Int) :=
  bnd (tourref2_Big_Add.c1 k a0 a1 k 0 0 (List.replicate 8 0)) fun o6 =>
  some o6
noncomputable def tourref2_Big_Add.sp (k : Nat) : Go.Sx.Spec := ⟨(.pair T134 (.pair T134 .unit)), (.one (.dp T134)), fun x => tourref2_Big_Add k x.1 x.2.1, false⟩
noncomputable def tourref2_Big_Add.cx (k : Nat) : Go.Sx.Ctx := ⟨tys, [], eqs, 28, 0, [], false⟩
theorem tourref2_Big_Add.cok (k : Nat) : CtxOk PR (tourref2_Big_Add.cx k) := ctx_ok tysOk eqsOk FnsOk.nil HsOk.nil
noncomputable def tourref2_Big_Add.c1p (a0 : (List Int)) (a1 : (List Int)) (v1 : Int) (v2 : Int) (v3 : (List Int)) : SL := ⟨[(2, (.val .ptr ⟨0, 0, (0 : Int), 0, 0⟩)), (3, (.val .ptr ⟨1, 0, (0 : Int), 0, 0⟩)), (4, (.val .ptr ⟨2, 0, (0 : Int), 0, 0⟩)), (5, (.val .ptr ⟨3, 0, (0 : Int), 0, 0⟩)), (6, (.val T133 v1)), (8, (.val T2 v2))], [(0, .cells T134 a0), (1, .cells T134 a1), (2, .cells T134 (List.replicate 8 (0 : Int))), (3, .cells T134 v3)]⟩
noncomputable def tourref2_Big_Add.c1q (o : (List Int)) : SL := (fun v => ⟨[(4, (.val .ptr ⟨0, 0, (0 : Int), 0, 0⟩)), (5, (.val .ptr ⟨1, 0, (0 : Int), 0, 0⟩))], [(0, .cells T134 (List.replicate 8 (0 : Int))), (1, .cells T134 v)]⟩) o
noncomputable def tourref2_Big_Add.c1x (o : (List Int)) : Ex := (fun _ => (.exit 0)) o
noncomputable def tourref2_Big_Add.c1n (o : (List Int)) : Nat := (fun _ => 2) o
theorem tourref2_Big_Add.c1_ok (k : Nat) (a0 : (List Int)) (a1 : (List Int)) : ∀ (n : Nat) (v1 : Int) (v2 : Int) (v3 : (List Int)), Owp (tourref2_Big_Add.c1 k a0 a1 n v1 v2 v3) fun o => LTriple PR (tourref2_Big_Add.cx k) (sub tourref2_Big_Add.code [1, 1, 1, 0, 1, 0, 0]) 4 (tourref2_Big_Add.c1p a0 a1 v1 v2 v3) (tourref2_Big_Add.c1x o) (tourref2_Big_Add.c1n o) (tourref2_Big_Add.c1q o)
  | 0, _, _, _ => fun _ h => nomatch h
  | n + 1, v1, v2, v3 => Owp.of (tourref2_Big_Add.c1.eq_2 ..) (
   Owp.bif (fun e4 =>
   Owp.req fun h5 =>
    fun y hy => loop_back (tourref2_Big_Add.cok k) hmix 4 (tourref2_Big_Add.c1p a0 a1 (ishr .u32 (iadd .u32 v1 (iadd .u32 (el (0 : Int) a0 v2) (el (0 : Int) a1 v2))) (16 : Int)) (iadd .i64 v2 (1 : Int)) (st v3 v2 (ibits .and .u32 (iadd .u32 v1 (iadd .u32 (el (0 : Int) a0 v2) (el (0 : Int) a1 v2))) (65535 : Int)))) [.dec true] [] [(0, 0), (1, 1), (2, 2), (3, 3)] (via (finP (And.intro (And.intro (And.intro (And.intro (And.intro (And.intro (And.intro (And.intro trivial e4) h5) h5) h5) h5) (by decide : ng (16 : Int))) h5) h5) .normal [(0, 0), (1, 1), (2, 2), (3, 3)] (tourref2_Big_Add.c1p a0 a1 (ishr .u32 (iadd .u32 v1 (iadd .u32 (el (0 : Int) a0 v2) (el (0 : Int) a1 v2))) (16 : Int)) (iadd .i64 v2 (1 : Int)) (st v3 v2 (ibits .and .u32 (iadd .u32 v1 (iadd .u32 (el (0 : Int) a0 v2) (el (0 : Int) a1 v2))) (65535 : Int))))) (by kernel_rfl)) ((tourref2_Big_Add.c1_ok k a0 a1 n (ishr .u32 (iadd .u32 v1 (iadd .u32 (el (0 : Int) a0 v2) (el (0 : Int) a1 v2))) (16 : Int)) (iadd .i64 v2 (1 : Int)) (st v3 v2 (ibits .and .u32 (iadd .u32 v1 (iadd .u32 (el (0 : Int) a0 v2) (el (0 : Int) a1 v2))) (65535 : Int)))).ap hy)) (fun e4 =>
   Owp.some (loop_exit (tourref2_Big_Add.cok k) hmix [.dec false] [] [(0, 2), (1, 3)] (exne 0) (via (finP (And.intro trivial e4) (.exit 0) [(0, 2), (1, 3)] (tourref2_Big_Add.c1q v3)) (by kernel_rfl)))))
theorem tourref2_Big_Add.way (k : Nat) (a0 : (List Int)) (a1 : (List Int)) : Owp (tourref2_Big_Add k a0 a1) fun y => ∃ answers cmds, exec PR (tourref2_Big_Add.cx k) tourref2_Big_Add.code 0 (entry (.pair T134 (.pair T134 .unit)) (a0, a1, ())).st answers (Ret (tourref2_Big_Add.cx k) Try.f178 cmds (.one (.dp T134)) y) := by
  unfold tourref2_Big_Add; exact
   Owp.bnd fun o6 e7 =>
   Owp.some (⟨[.cut ⟨[], [(0, 0), (1, 1), (2, 2), (3, 3)], (tourref2_Big_Add.c1p a0 a1 (0 : Int) (0 : Int) (List.replicate 8 (0 : Int))), 4, (.exit 0), (tourref2_Big_Add.c1q o6), 2⟩], [], via (cutP trivial [(0, 0), (1, 1), (2, 2), (3, 3)] (tourref2_Big_Add.c1p a0 a1 (0 : Int) (0 : Int) (List.replicate 8 (0 : Int))) (((tourref2_Big_Add.c1_ok k a0 a1 k (0 : Int) (0 : Int) (List.replicate 8 (0 : Int))).ap e7).triple) (retP trivial (.one (.dp T134)) (o6 : (List Int)))) (by kernel_rfl)⟩)
theorem tourref2_Big_Add.ok (k : Nat) : FnOk PR 178 (tourref2_Big_Add.sp k) :=
  fn_ok (tourref2_Big_Add.cok k) hmix Try.func178 (code := tourref2_Big_Add.code) (by kernel_rfl) (by kernel_rfl) (by kernel_rfl) rfl rfl (by kernel_rfl) (by kernel_rfl) (by kernel_rfl) (fun x => Nat.le_of_ble_eq_true (by kernel_rfl)) fun x y hy => (tourref2_Big_Add.way k x.1 x.2.1).ap hy

/-! (tourney/tourref2.Big).Neg -/
noncomputable def tourref2_Big_Neg.code : Code := Func.cd Try.f180
def tourref2_Big_Neg.c1 (k : Nat) : Nat → Int → (List Int) → Option ((List Int))
  | 0, _, _ => none
  | n + 1, v1, v2 =>
   bif' (ilt v1 8)
   (req (inR v1 8) <|
    tourref2_Big_Neg.c1 k n (iadd .i64 v1 1) (st v2 v1 (ibits .xor .u32 (el 0 v2 v1) 65535)))
   (some v2)
def tourref2_Big_Neg (k : Nat) (a0 : (List Int)) : Option (List Int) :=
  bnd (tourref2_Big_Neg.c1 k k 0 a0) fun o5 =>
  bnd (tourref2_Of k 1) fun y7 =>
  bnd (tourref2_Big_Add k o5 y7) fun y9 =>
  some y9
noncomputable def tourref2_Big_Neg.sp (k : Nat) : Go.Sx.Spec := ⟨(.pair T134 .unit), (.one (.dp T134)), fun x => tourref2_Big_Neg k x.1, false⟩
noncomputable def tourref2_Big_Neg.cx (k : Nat) : Go.Sx.Ctx := ⟨tys, [(159, tourref2_Of.sp k), (178, tourref2_Big_Add.sp k)], eqs, 16, 0, [], false⟩
theorem tourref2_Big_Neg.cok (k : Nat) : CtxOk PR (tourref2_Big_Neg.cx k) := ctx_ok tysOk eqsOk (FnsOk.cons (tourref2_Of.ok k) (FnsOk.cons (tourref2_Big_Add.ok k) FnsOk.nil)) HsOk.nil
noncomputable def tourref2_Big_Neg.c1p (v1 : Int) (v2 : (List Int)) : SL := ⟨[(1, (.val .ptr ⟨0, 0, (0 : Int), 0, 0⟩)), (2, (.val .ptr ⟨1, 0, (0 : Int), 0, 0⟩)), (4, (.val T2 v1))], [(0, .cells T134 v2), (1, .cells T134 (List.replicate 8 (0 : Int)))]⟩
noncomputable def tourref2_Big_Neg.c1q (o : (List Int)) : SL := (fun v => ⟨[(1, (.val .ptr ⟨0, 0, (0 : Int), 0, 0⟩)), (2, (.val .ptr ⟨1, 0, (0 : Int), 0, 0⟩))], [(0, .cells T134 v), (1, .cells T134 (List.replicate 8 (0 : Int)))]⟩) o
noncomputable def tourref2_Big_Neg.c1x (o : (List Int)) : Ex := (fun _ => (.exit 0)) o
noncomputable def tourref2_Big_Neg.c1n (o : (List Int)) : Nat := (fun _ => 2) o
theorem tourref2_Big_Neg.c1_ok (k : Nat) : ∀ (n : Nat) (v1 : Int) (v2 : (List Int)), Owp (tourref2_Big_Neg.c1 k n v1 v2) fun o => LTriple PR (tourref2_Big_Neg.cx k) (sub tourref2_Big_Neg.code [1, 0, 1, 0, 0]) 2 (tourref2_Big_Neg.c1p v1 v2) (tourref2_Big_Neg.c1x o) (tourref2_Big_Neg.c1n o) (tourref2_Big_Neg.c1q o)
  | 0, _, _ => fun _ h => nomatch h
  | n + 1, v1, v2 => Owp.of (tourref2_Big_Neg.c1.eq_2 ..) (
   Owp.bif (fun e3 =>
   Owp.req fun h4 =>
    fun y hy => loop_back (tourref2_Big_Neg.cok k) hmix 2 (tourref2_Big_Neg.c1p (iadd .i64 v1 (1 : Int)) (st v2 v1 (ibits .xor .u32 (el (0 : Int) v2 v1) (65535 : Int)))) [.dec true] [] [(0, 0), (1, 1)] (via (finP (And.intro (And.intro (And.intro (And.intro (And.intro trivial e3) h4) h4) h4) h4) .normal [(0, 0), (1, 1)] (tourref2_Big_Neg.c1p (iadd .i64 v1 (1 : Int)) (st v2 v1 (ibits .xor .u32 (el (0 : Int) v2 v1) (65535 : Int))))) (by kernel_rfl)) ((tourref2_Big_Neg.c1_ok k n (iadd .i64 v1 (1 : Int)) (st v2 v1 (ibits .xor .u32 (el (0 : Int) v2 v1) (65535 : Int)))).ap hy)) (fun e3 =>
   Owp.some (loop_exit (tourref2_Big_Neg.cok k) hmix [.dec false] [] [(0, 0), (1, 1)] (exne 0) (via (finP (And.intro trivial e3) (.exit 0) [(0, 0), (1, 1)] (tourref2_Big_Neg.c1q v2)) (by kernel_rfl)))))
theorem tourref2_Big_Neg.way (k : Nat) (a0 : (List Int)) : Owp (tourref2_Big_Neg k a0) fun y => ∃ answers cmds, exec PR (tourref2_Big_Neg.cx k) tourref2_Big_Neg.code 0 (entry (.pair T134 .unit) (a0, ())).st answers (Ret (tourref2_Big_Neg.cx k) Try.f180 cmds (.one (.dp T134)) y) := by
  unfold tourref2_Big_Neg; exact
   Owp.bnd fun o5 e6 =>
   Owp.bnd fun y7 e8 =>
   Owp.bnd fun y9 e10 =>
   Owp.some (⟨[.cut ⟨[], [(0, 0), (1, 1)], (tourref2_Big_Neg.c1p (0 : Int) a0), 2, (.exit 0), (tourref2_Big_Neg.c1q o5), 2⟩, .res (.one (.dp T134)) y7, .res (.one (.dp T134)) y9], [], via (cutP trivial [(0, 0), (1, 1)] (tourref2_Big_Neg.c1p (0 : Int) a0) (((tourref2_Big_Neg.c1_ok k k (0 : Int) a0).ap e6).triple) (retP (And.intro (And.intro trivial e8) e10) (.one (.dp T134)) (y9 : (List Int)))) (by kernel_rfl)⟩)
theorem tourref2_Big_Neg.ok (k : Nat) : FnOk PR 180 (tourref2_Big_Neg.sp k) :=
  fn_ok (tourref2_Big_Neg.cok k) hmix Try.func180 (code := tourref2_Big_Neg.code) (by kernel_rfl) (by kernel_rfl) (by kernel_rfl) rfl rfl (by kernel_rfl) (by kernel_rfl) (by kernel_rfl) (fun x => Nat.le_of_ble_eq_true (by kernel_rfl)) fun x y hy => (tourref2_Big_Neg.way k x.1).ap hy

/-! (tourney/tourref2.Big).Sub -/
noncomputable def tourref2_Big_Sub.code : Code := Func.cd Try.f189
def tourref2_Big_Sub (k : Nat) (a0 : (List Int)) (a1 : (List Int)) : Option (List Int) :=
  bnd (tourref2_Big_Neg k a1) fun y1 =>
  bnd (tourref2_Big_Add k a0 y1) fun y3 =>
  some y3
noncomputable def tourref2_Big_Sub.sp (k : Nat) : Go.Sx.Spec := ⟨(.pair T134 (.pair T134 .unit)), (.one (.dp T134)), fun x => tourref2_Big_Sub k x.1 x.2.1, false⟩
noncomputable def tourref2_Big_Sub.cx (k : Nat) : Go.Sx.Ctx := ⟨tys, [(180, tourref2_Big_Neg.sp k), (178, tourref2_Big_Add.sp k)], eqs, 9, 0, [], false⟩
theorem tourref2_Big_Sub.cok (k : Nat) : CtxOk PR (tourref2_Big_Sub.cx k) := ctx_ok tysOk eqsOk (FnsOk.cons (tourref2_Big_Neg.ok k) (FnsOk.cons (tourref2_Big_Add.ok k) FnsOk.nil)) HsOk.nil
theorem tourref2_Big_Sub.way (k : Nat) (a0 : (List Int)) (a1 : (List Int)) : Owp (tourref2_Big_Sub k a0 a1) fun y => ∃ answers cmds, exec PR (tourref2_Big_Sub.cx k) tourref2_Big_Sub.code 0 (entry (.pair T134 (.pair T134 .unit)) (a0, a1, ())).st answers (Ret (tourref2_Big_Sub.cx k) Try.f189 cmds (.one (.dp T134)) y) := by
  unfold tourref2_Big_Sub; exact
   Owp.bnd fun y1 e2 =>
   Owp.bnd fun y3 e4 =>
   Owp.some (⟨[.res (.one (.dp T134)) y1, .res (.one (.dp T134)) y3], [], via (retP (And.intro (And.intro trivial e2) e4) (.one (.dp T134)) (y3 : (List Int))) (by kernel_rfl)⟩)
theorem tourref2_Big_Sub.ok (k : Nat) : FnOk PR 189 (tourref2_Big_Sub.sp k) :=
  fn_ok (tourref2_Big_Sub.cok k) hmix Try.func189 (code := tourref2_Big_Sub.code) (by kernel_rfl) (by kernel_rfl) (by kernel_rfl) rfl rfl (by kernel_rfl) (by kernel_rfl) (by kernel_rfl) (fun x => Nat.le_of_ble_eq_true (by kernel_rfl)) fun x y hy => (tourref2_Big_Sub.way k x.1 x.2.1).ap hy

/-! (tourney/tourref2.Big).Mul -/
noncomputable def tourref2_Big_Mul.code : Code := Func.cd Try.f177
def tourref2_Big_Mul.c2 (k : Nat) (a0 : (List Int)) (a1 : (List Int)) (v1 : Int) : Nat → Int → Int → (List Int) → Option ((List Int))
  | 0, _, _, _ => none
  | n + 1, v4, v5, v6 =>
   bif' (ilt (iadd .i64 v1 v5) 8)
   (req (inR v1 8) <|
    req (inR v5 8) <|
    req (inR (iadd .i64 v1 v5) 8) <|
    tourref2_Big_Mul.c2 k a0 a1 v1 n (ishr .u64 (iadd .u64 v4 (iadd .u64 (imul .u64 (icv .u64 (el 0 a0 v1)) (icv .u64 (el 0 a1 v5))) (icv .u64 (el 0 v6 (iadd .i64 v1 v5))))) 16) (iadd .i64 v5 1) (st v6 (iadd .i64 v1 v5) (icv .u32 (ibits .and .u64 (iadd .u64 v4 (iadd .u64 (imul .u64 (icv .u64 (el 0 a0 v1)) (icv .u64 (el 0 a1 v5))) (icv .u64 (el 0 v6 (iadd .i64 v1 v5))))) 65535))))
   (some v6)
def tourref2_Big_Mul.c1 (k : Nat) (a0 : (List Int)) (a1 : (List Int)) : Nat → Int → (List Int) → Option ((List Int))
  | 0, _, _ => none
  | n + 1, v1, v2 =>
   bif' (ilt v1 8)
   (bnd (tourref2_Big_Mul.c2 k a0 a1 v1 k 0 0 v2) fun o11 =>
    tourref2_Big_Mul.c1 k a0 a1 n (iadd .i64 v1 1) o11)
   (some v2)
def tourref2_Big_Mul (k : Nat) (a0 : (List Int)) (a1 : (List Int)) : Option (List Int) :=
  bnd (tourref2_Big_Mul.c1 k a0 a1 k 0 (List.replicate 8 0)) fun o13 =>
  some o13
noncomputable def tourref2_Big_Mul.sp (k : Nat) : Go.Sx.Spec := ⟨(.pair T134 (.pair T134 .unit)), (.one (.dp T134)), fun x => tourref2_Big_Mul k x.1 x.2.1, false⟩
noncomputable def tourref2_Big_Mul.cx (k : Nat) : Go.Sx.Ctx := ⟨tys, [], eqs, 47, 0, [], false⟩
theorem tourref2_Big_Mul.cok (k : Nat) : CtxOk PR (tourref2_Big_Mul.cx k) := ctx_ok tysOk eqsOk FnsOk.nil HsOk.nil
noncomputable def tourref2_Big_Mul.c2p (a0 : (List Int)) (a1 : (List Int)) (v1 : Int) (v4 : Int) (v5 : Int) (v6 : (List Int)) : SL := ⟨[(2, (.val .ptr ⟨0, 0, (0 : Int), 0, 0⟩)), (3, (.val .ptr ⟨1, 0, (0 : Int), 0, 0⟩)), (4, (.val .ptr ⟨2, 0, (0 : Int), 0, 0⟩)), (5, (.val .ptr ⟨3, 0, (0 : Int), 0, 0⟩)), (6, (.val T2 v1)), (7, (.val T12 v4)), (8, (.val T2 v5)), (9, (.val T2 v1))], [(0, .cells T134 a0), (1, .cells T134 a1), (2, .cells T134 (List.replicate 8 (0 : Int))), (3, .cells T134 v6)]⟩
noncomputable def tourref2_Big_Mul.c2q (a0 : (List Int)) (a1 : (List Int)) (v1 : Int) (o : (List Int)) : SL := (fun v => ⟨[(2, (.val .ptr ⟨0, 0, (0 : Int), 0, 0⟩)), (3, (.val .ptr ⟨1, 0, (0 : Int), 0, 0⟩)), (4, (.val .ptr ⟨2, 0, (0 : Int), 0, 0⟩)), (5, (.val .ptr ⟨3, 0, (0 : Int), 0, 0⟩)), (9, (.val T2 v1))], [(0, .cells T134 a0), (1, .cells T134 a1), (2, .cells T134 (List.replicate 8 (0 : Int))), (3, .cells T134 v)]⟩) o
noncomputable def tourref2_Big_Mul.c2x (o : (List Int)) : Ex := (fun _ => (.exit 2)) o
noncomputable def tourref2_Big_Mul.c2n (o : (List Int)) : Nat := (fun _ => 4) o
theorem tourref2_Big_Mul.c2_ok (k : Nat) (a0 : (List Int)) (a1 : (List Int)) (v1 : Int) : ∀ (n : Nat) (v4 : Int) (v5 : Int) (v6 : (List Int)), Owp (tourref2_Big_Mul.c2 k a0 a1 v1 n v4 v5 v6) fun o => LTriple PR (tourref2_Big_Mul.cx k) (sub tourref2_Big_Mul.code [1, 1, 0, 1, 0, 0, 1, 1, 0, 0, 1, 1, 1, 0, 0]) 4 (tourref2_Big_Mul.c2p a0 a1 v1 v4 v5 v6) (tourref2_Big_Mul.c2x o) (tourref2_Big_Mul.c2n o) (tourref2_Big_Mul.c2q a0 a1 v1 o)
  | 0, _, _, _ => fun _ h => nomatch h
  | n + 1, v4, v5, v6 => Owp.of (tourref2_Big_Mul.c2.eq_2 ..) (
   Owp.bif (fun e7 =>
   Owp.req fun h8 =>
    Owp.req fun h9 =>
    Owp.req fun h10 =>
    fun y hy => loop_back (tourref2_Big_Mul.cok k) hmix 4 (tourref2_Big_Mul.c2p a0 a1 v1 (ishr .u64 (iadd .u64 v4 (iadd .u64 (imul .u64 (icv .u64 (el (0 : Int) a0 v1)) (icv .u64 (el (0 : Int) a1 v5))) (icv .u64 (el (0 : Int) v6 (iadd .i64 v1 v5))))) (16 : Int)) (iadd .i64 v5 (1 : Int)) (st v6 (iadd .i64 v1 v5) (icv .u32 (ibits .and .u64 (iadd .u64 v4 (iadd .u64 (imul .u64 (icv .u64 (el (0 : Int) a0 v1)) (icv .u64 (el (0 : Int) a1 v5))) (icv .u64 (el (0 : Int) v6 (iadd .i64 v1 v5))))) (65535 : Int))))) [.dec true] [] [(0, 0), (1, 1), (2, 2), (3, 3)] (via (finP (And.intro (And.intro (And.intro (And.intro (And.intro (And.intro (And.intro (And.intro (And.intro (And.intro trivial e7) h8) h8) h9) h9) h10) h10) (by decide : ng (16 : Int))) h10) h10) .normal [(0, 0), (1, 1), (2, 2), (3, 3)] (tourref2_Big_Mul.c2p a0 a1 v1 (ishr .u64 (iadd .u64 v4 (iadd .u64 (imul .u64 (icv .u64 (el (0 : Int) a0 v1)) (icv .u64 (el (0 : Int) a1 v5))) (icv .u64 (el (0 : Int) v6 (iadd .i64 v1 v5))))) (16 : Int)) (iadd .i64 v5 (1 : Int)) (st v6 (iadd .i64 v1 v5) (icv .u32 (ibits .and .u64 (iadd .u64 v4 (iadd .u64 (imul .u64 (icv .u64 (el (0 : Int) a0 v1)) (icv .u64 (el (0 : Int) a1 v5))) (icv .u64 (el (0 : Int) v6 (iadd .i64 v1 v5))))) (65535 : Int)))))) (by kernel_rfl)) ((tourref2_Big_Mul.c2_ok k a0 a1 v1 n (ishr .u64 (iadd .u64 v4 (iadd .u64 (imul .u64 (icv .u64 (el (0 : Int) a0 v1)) (icv .u64 (el (0 : Int) a1 v5))) (icv .u64 (el (0 : Int) v6 (iadd .i64 v1 v5))))) (16 : Int)) (iadd .i64 v5 (1 : Int)) (st v6 (iadd .i64 v1 v5) (icv .u32 (ibits .and .u64 (iadd .u64 v4 (iadd .u64 (imul .u64 (icv .u64 (el (0 : Int) a0 v1)) (icv .u64 (el (0 : Int) a1 v5))) (icv .u64 (el (0 : Int) v6 (iadd .i64 v1 v5))))) (65535 : Int))))).ap hy)) (fun e7 =>
   Owp.some (loop_exit (tourref2_Big_Mul.cok k) hmix [.dec false] [] [(0, 0), (1, 1), (2, 2), (3, 3)] (exne 2) (via (finP (And.intro trivial e7) (.exit 2) [(0, 0), (1, 1), (2, 2), (3, 3)] (tourref2_Big_Mul.c2q a0 a1 v1 v6)) (by kernel_rfl)))))
noncomputable def tourref2_Big_Mul.c1p (a0 : (List Int)) (a1 : (List Int)) (v1 : Int) (v2 : (List Int)) : SL := ⟨[(2, (.val .ptr ⟨0, 0, (0 : Int), 0, 0⟩)), (3, (.val .ptr ⟨1, 0, (0 : Int), 0, 0⟩)), (4, (.val .ptr ⟨2, 0, (0 : Int), 0, 0⟩)), (5, (.val .ptr ⟨3, 0, (0 : Int), 0, 0⟩)), (9, (.val T2 v1))], [(0, .cells T134 a0), (1, .cells T134 a1), (2, .cells T134 (List.replicate 8 (0 : Int))), (3, .cells T134 v2)]⟩
noncomputable def tourref2_Big_Mul.c1q (o : (List Int)) : SL := (fun v => ⟨[(4, (.val .ptr ⟨0, 0, (0 : Int), 0, 0⟩)), (5, (.val .ptr ⟨1, 0, (0 : Int), 0, 0⟩))], [(0, .cells T134 (List.replicate 8 (0 : Int))), (1, .cells T134 v)]⟩) o
noncomputable def tourref2_Big_Mul.c1x (o : (List Int)) : Ex := (fun _ => (.exit 0)) o
noncomputable def tourref2_Big_Mul.c1n (o : (List Int)) : Nat := (fun _ => 2) o
theorem tourref2_Big_Mul.c1_ok (k : Nat) (a0 : (List Int)) (a1 : (List Int)) : ∀ (n : Nat) (v1 : Int) (v2 : (List Int)), Owp (tourref2_Big_Mul.c1 k a0 a1 n v1 v2) fun o => LTriple PR (tourref2_Big_Mul.cx k) (sub tourref2_Big_Mul.code [1, 1, 0, 1, 0, 0]) 4 (tourref2_Big_Mul.c1p a0 a1 v1 v2) (tourref2_Big_Mul.c1x o) (tourref2_Big_Mul.c1n o) (tourref2_Big_Mul.c1q o)
  | 0, _, _ => fun _ h => nomatch h
  | n + 1, v1, v2 => Owp.of (tourref2_Big_Mul.c1.eq_2 ..) (
   Owp.bif (fun e3 =>
   Owp.bnd fun o11 e12 =>
    fun y hy => loop_back (tourref2_Big_Mul.cok k) hmix 4 (tourref2_Big_Mul.c1p a0 a1 (iadd .i64 v1 (1 : Int)) o11) [.dec true, .cut ⟨[], [(0, 0), (1, 1), (2, 2), (3, 3)], (tourref2_Big_Mul.c2p a0 a1 v1 (0 : Int) (0 : Int) v2), 4, (.exit 2), (tourref2_Big_Mul.c2q a0 a1 v1 o11), 4⟩] [] [(0, 0), (1, 1), (2, 2), (3, 3)] (via (cutP (And.intro trivial e3) [(0, 0), (1, 1), (2, 2), (3, 3)] (tourref2_Big_Mul.c2p a0 a1 v1 (0 : Int) (0 : Int) v2) (((tourref2_Big_Mul.c2_ok k a0 a1 v1 k (0 : Int) (0 : Int) v2).ap e12).triple) (finP trivial .normal [(0, 0), (1, 1), (2, 2), (3, 3)] (tourref2_Big_Mul.c1p a0 a1 (iadd .i64 v1 (1 : Int)) o11))) (by kernel_rfl)) ((tourref2_Big_Mul.c1_ok k a0 a1 n (iadd .i64 v1 (1 : Int)) o11).ap hy)) (fun e3 =>
   Owp.some (loop_exit (tourref2_Big_Mul.cok k) hmix [.dec false] [] [(0, 2), (1, 3)] (exne 0) (via (finP (And.intro trivial e3) (.exit 0) [(0, 2), (1, 3)] (tourref2_Big_Mul.c1q v2)) (by kernel_rfl)))))
theorem tourref2_Big_Mul.way (k : Nat) (a0 : (List Int)) (a1 : (List Int)) : Owp (tourref2_Big_Mul k a0 a1) fun y => ∃ answers cmds, exec PR (tourref2_Big_Mul.cx k) tourref2_Big_Mul.code 0 (entry (.pair T134 (.pair T134 .unit)) (a0, a1, ())).st answers (Ret (tourref2_Big_Mul.cx k) Try.f177 cmds (.one (.dp T134)) y) := by
  unfold tourref2_Big_Mul; exact
   Owp.bnd fun o13 e14 =>
   Owp.some (⟨[.cut ⟨[], [(0, 0), (1, 1), (2, 2), (3, 3)], (tourref2_Big_Mul.c1p a0 a1 (0 : Int) (List.replicate 8 (0 : Int))), 4, (.exit 0), (tourref2_Big_Mul.c1q o13), 2⟩], [], via (cutP trivial [(0, 0), (1, 1), (2, 2), (3, 3)] (tourref2_Big_Mul.c1p a0 a1 (0 : Int) (List.replicate 8 (0 : Int))) (((tourref2_Big_Mul.c1_ok k a0 a1 k (0 : Int) (List.replicate 8 (0 : Int))).ap e14).triple) (retP trivial (.one (.dp T134)) (o13 : (List Int)))) (by kernel_rfl)⟩)
theorem tourref2_Big_Mul.ok (k : Nat) : FnOk PR 177 (tourref2_Big_Mul.sp k) :=
  fn_ok (tourref2_Big_Mul.cok k) hmix Try.func177 (code := tourref2_Big_Mul.code) (by kernel_rfl) (by kernel_rfl) (by kernel_rfl) rfl rfl (by kernel_rfl) (by kernel_rfl) (by kernel_rfl) (fun x => Nat.le_of_ble_eq_true (by kernel_rfl)) fun x y hy => (tourref2_Big_Mul.way k x.1 x.2.1).ap hy

/-! tourney/fix.Clamp -/
noncomputable def fix_Clamp.code : Code := Func.cd Try.f135
def fix_Clamp (k : Nat) (a0 : Int) : Option Int :=
  some (imin (imax a0 (-1099511627776)) 1099511627776)
noncomputable def fix_Clamp.sp (k : Nat) : Go.Sx.Spec := ⟨(.pair T2 .unit), (.one (.dp T2)), fun x => fix_Clamp k x.1, false⟩
noncomputable def fix_Clamp.cx (k : Nat) : Go.Sx.Ctx := ⟨tys, [], eqs, 6, 0, [], false⟩
theorem fix_Clamp.cok (k : Nat) : CtxOk PR (fix_Clamp.cx k) := ctx_ok tysOk eqsOk FnsOk.nil HsOk.nil
theorem fix_Clamp.way (k : Nat) (a0 : Int) : Owp (fix_Clamp k a0) fun y => ∃ answers cmds, exec PR (fix_Clamp.cx k) fix_Clamp.code 0 (entry (.pair T2 .unit) (a0, ())).st answers (Ret (fix_Clamp.cx k) Try.f135 cmds (.one (.dp T2)) y) := by
  unfold fix_Clamp; exact
   Owp.some (⟨[], [], via (retP trivial (.one (.dp T2)) ((imin (imax a0 (-1099511627776 : Int)) (1099511627776 : Int)) : Int)) (by kernel_rfl)⟩)
theorem fix_Clamp.ok (k : Nat) : FnOk PR 135 (fix_Clamp.sp k) :=
  fn_ok (fix_Clamp.cok k) hmix Try.func135 (code := fix_Clamp.code) (by kernel_rfl) (by kernel_rfl) (by kernel_rfl) rfl rfl (by kernel_rfl) (by kernel_rfl) (by kernel_rfl) (fun x => Nat.le_of_ble_eq_true (by kernel_rfl)) fun x y hy => (fix_Clamp.way k x.1).ap hy

/-! tourney/fix.Add -/
noncomputable def fix_Add.code : Code := Func.cd Try.f85
def fix_Add (k : Nat) (a0 : Int) (a1 : Int) : Option Int :=
  bnd (fix_Clamp k a0) fun y1 =>
  bnd (fix_Clamp k a1) fun y3 =>
  bnd (fix_Clamp k (iadd .i64 y1 y3)) fun y5 =>
  some y5
noncomputable def fix_Add.sp (k : Nat) : Go.Sx.Spec := ⟨T22, (.one (.dp T2)), fun x => fix_Add k x.1 x.2.1, false⟩
noncomputable def fix_Add.cx (k : Nat) : Go.Sx.Ctx := ⟨tys, [(135, fix_Clamp.sp k)], eqs, 11, 0, [], false⟩
theorem fix_Add.cok (k : Nat) : CtxOk PR (fix_Add.cx k) := ctx_ok tysOk eqsOk (FnsOk.cons (fix_Clamp.ok k) FnsOk.nil) HsOk.nil
theorem fix_Add.way (k : Nat) (a0 : Int) (a1 : Int) : Owp (fix_Add k a0 a1) fun y => ∃ answers cmds, exec PR (fix_Add.cx k) fix_Add.code 0 (entry T22 (a0, a1, ())).st answers (Ret (fix_Add.cx k) Try.f85 cmds (.one (.dp T2)) y) := by
  unfold fix_Add; exact
   Owp.bnd fun y1 e2 =>
   Owp.bnd fun y3 e4 =>
   Owp.bnd fun y5 e6 =>
   Owp.some (⟨[.res (.one (.dp T2)) y1, .res (.one (.dp T2)) y3, .res (.one (.dp T2)) y5], [], via (retP (And.intro (And.intro (And.intro trivial e2) e4) e6) (.one (.dp T2)) (y5 : Int)) (by kernel_rfl)⟩)
theorem fix_Add.ok (k : Nat) : FnOk PR 85 (fix_Add.sp k) :=
  fn_ok (fix_Add.cok k) hmix Try.func85 (code := fix_Add.code) (by kernel_rfl) (by kernel_rfl) (by kernel_rfl) rfl rfl (by kernel_rfl) (by kernel_rfl) (by kernel_rfl) (fun x => Nat.le_of_ble_eq_true (by kernel_rfl)) fun x y hy => (fix_Add.way k x.1 x.2.1).ap hy

/-! tourney/fix.mag -/
noncomputable def fix_mag.code : Code := Func.cd Try.f195
def fix_mag (k : Nat) (a0 : Int) : Option Int :=
  bif' (ilt a0 0)
  (some (icv .u64 (ineg .i64 a0)))
  (some (icv .u64 a0))
noncomputable def fix_mag.sp (k : Nat) : Go.Sx.Spec := ⟨(.pair T2 .unit), (.one (.dp T12)), fun x => fix_mag k x.1, false⟩
noncomputable def fix_mag.cx (k : Nat) : Go.Sx.Ctx := ⟨tys, [], eqs, 10, 0, [], false⟩
theorem fix_mag.cok (k : Nat) : CtxOk PR (fix_mag.cx k) := ctx_ok tysOk eqsOk FnsOk.nil HsOk.nil
theorem fix_mag.way (k : Nat) (a0 : Int) : Owp (fix_mag k a0) fun y => ∃ answers cmds, exec PR (fix_mag.cx k) fix_mag.code 0 (entry (.pair T2 .unit) (a0, ())).st answers (Ret (fix_mag.cx k) Try.f195 cmds (.one (.dp T12)) y) := by
  unfold fix_mag; exact
   Owp.bif (fun e1 =>
   Owp.some (⟨[.dec true], [], via (retP (And.intro trivial e1) (.one (.dp T12)) ((icv .u64 (ineg .i64 a0)) : Int)) (by kernel_rfl)⟩)) (fun e1 =>
   Owp.some (⟨[.dec false], [], via (retP (And.intro trivial e1) (.one (.dp T12)) ((icv .u64 a0) : Int)) (by kernel_rfl)⟩))
theorem fix_mag.ok (k : Nat) : FnOk PR 195 (fix_mag.sp k) :=
  fn_ok (fix_mag.cok k) hmix Try.func195 (code := fix_mag.code) (by kernel_rfl) (by kernel_rfl) (by kernel_rfl) rfl rfl (by kernel_rfl) (by kernel_rfl) (by kernel_rfl) (fun x => Nat.le_of_ble_eq_true (by kernel_rfl)) fun x y hy => (fix_mag.way k x.1).ap hy

/-! tourney/fix.MulDiv -/
noncomputable def fix_MulDiv.code : Code := Func.cd Try.f160
def fix_MulDiv.c1 (k : Nat) (y1 : Int) (y3 : Int) : Option (Bool) :=
  bif' (ilt y3 0)
  (some (!(ilt y1 0)))
  (some (ilt y1 0))
def fix_MulDiv.c2 (k : Nat) (o9 : Bool) (y5 : Int) : Option (Bool) :=
  bif' (ilt y5 0)
  (some (!o9))
  (some o9)
def fix_MulDiv.c3 (k : Nat) (y24 : (Int × Int)) : Option ((Int × Int)) :=
  bif' (igt y24.1 1099511627776)
  (some (1099511627777, 0))
  (some (y24.1, y24.2))
def fix_MulDiv.c4 (k : Nat) (o27 : (Int × Int)) (y14 : Int) : Option (Int) :=
  bif' (igt o27.2 (isub .u64 y14 o27.2))
  (some (iadd .i64 (icv .i64 o27.1) 1))
  (some (icv .i64 o27.1))
def fix_MulDiv.c5 (k : Nat) (o27 : (Int × Int)) (y14 : Int) : Option (Int) :=
  bif' (ige o27.2 (isub .u64 y14 o27.2))
  (some (iadd .i64 (icv .i64 o27.1) 1))
  (some (icv .i64 o27.1))
def fix_MulDiv (k : Nat) (a0 : Int) (a1 : Int) (a2 : Int) : Option Int :=
  bnd (fix_Clamp k a0) fun y1 =>
  bnd (fix_Clamp k a1) fun y3 =>
  bnd (fix_Clamp k a2) fun y5 =>
  bif' (ieq y5 0)
  (some 0)
  (bnd (fix_MulDiv.c1 k y1 y3) fun o9 =>
   bnd (fix_MulDiv.c2 k o9 y5) fun o12 =>
   bnd (fix_mag k y5) fun y14 =>
   bnd (fix_mag k y1) fun y16 =>
   bnd (fix_mag k y3) fun y18 =>
   bnd (bits_Mul64 k y16 y18) fun y20 =>
   bif' (ige y20.1 y14)
   (bif' o12
    (some (-1099511627776))
    (some 1099511627776))
   (bnd (bits_Div64 k y20.1 y20.2 y14) fun y24 =>
    bnd (fix_MulDiv.c3 k y24) fun o27 =>
    bif' o12
    (bnd (fix_MulDiv.c4 k o27 y14) fun o31 =>
     bnd (fix_Clamp k (ineg .i64 o31)) fun y33 =>
     some y33)
    (bnd (fix_MulDiv.c5 k o27 y14) fun o36 =>
     bnd (fix_Clamp k o36) fun y38 =>
     some y38)))
noncomputable def fix_MulDiv.sp (k : Nat) : Go.Sx.Spec := ⟨(.pair T2 T22), (.one (.dp T2)), fun x => fix_MulDiv k x.1 x.2.1 x.2.2.1, false⟩
noncomputable def fix_MulDiv.cx (k : Nat) : Go.Sx.Ctx := ⟨tys, [(135, fix_Clamp.sp k), (195, fix_mag.sp k), (161, bits_Mul64.sp k), (162, bits_Div64.sp k)], eqs, 78, 0, [], false⟩
theorem fix_MulDiv.cok (k : Nat) : CtxOk PR (fix_MulDiv.cx k) := ctx_ok tysOk eqsOk (FnsOk.cons (fix_Clamp.ok k) (FnsOk.cons (fix_mag.ok k) (FnsOk.cons (bits_Mul64.ok k) (FnsOk.cons (bits_Div64.ok k) FnsOk.nil)))) HsOk.nil
noncomputable def fix_MulDiv.c1p (y1 : Int) (y3 : Int) (y5 : Int) : SL := ⟨[(0, (.val T2 y1)), (1, (.val T2 y3)), (2, (.val T2 y5)), (7, (.val T4 (ilt y1 (0 : Int)))), (25, (.val T4 (ilt y3 (0 : Int))))], []⟩
noncomputable def fix_MulDiv.c1q (y1 : Int) (y3 : Int) (y5 : Int) (o : Bool) : SL := (fun v => ⟨[(0, (.val T2 y1)), (1, (.val T2 y3)), (2, (.val T2 y5)), (7, (.val T4 v))], []⟩) o
noncomputable def fix_MulDiv.c1x (o : Bool) : Ex := (fun _ => .normal) o
noncomputable def fix_MulDiv.c1n (o : Bool) : Nat := (fun _ => 0) o
theorem fix_MulDiv.c1_ok (k : Nat) (y1 : Int) (y3 : Int) (y5 : Int) : Owp (fix_MulDiv.c1 k y1 y3) fun o => Triple PR (fix_MulDiv.cx k) (sub fix_MulDiv.code [1, 1, 1, 1, 0, 1]) 0 (fix_MulDiv.c1p y1 y3 y5) (fix_MulDiv.c1x o) (fix_MulDiv.c1n o) (fix_MulDiv.c1q y1 y3 y5 o) := by
  unfold fix_MulDiv.c1; exact
   Owp.bif (fun e8 =>
   Owp.some (triple_way (fix_MulDiv.cok k) hmix [.dec true] [] [] (via (finP (And.intro trivial e8) .normal [] (fix_MulDiv.c1q y1 y3 y5 (!(ilt y1 (0 : Int))))) (by kernel_rfl)))) (fun e8 =>
   Owp.some (triple_way (fix_MulDiv.cok k) hmix [.dec false] [] [] (via (finP (And.intro trivial e8) .normal [] (fix_MulDiv.c1q y1 y3 y5 (ilt y1 (0 : Int)))) (by kernel_rfl))))
noncomputable def fix_MulDiv.c2p (o9 : Bool) (y1 : Int) (y3 : Int) (y5 : Int) : SL := ⟨[(0, (.val T2 y1)), (1, (.val T2 y3)), (2, (.val T2 y5)), (7, (.val T4 o9)), (29, (.val T4 (ilt y5 (0 : Int))))], []⟩
noncomputable def fix_MulDiv.c2q (y1 : Int) (y3 : Int) (y5 : Int) (o : Bool) : SL := (fun v => ⟨[(0, (.val T2 y1)), (1, (.val T2 y3)), (2, (.val T2 y5)), (7, (.val T4 v))], []⟩) o
noncomputable def fix_MulDiv.c2x (o : Bool) : Ex := (fun _ => .normal) o
noncomputable def fix_MulDiv.c2n (o : Bool) : Nat := (fun _ => 0) o
theorem fix_MulDiv.c2_ok (k : Nat) (o9 : Bool) (y1 : Int) (y3 : Int) (y5 : Int) : Owp (fix_MulDiv.c2 k o9 y5) fun o => Triple PR (fix_MulDiv.cx k) (sub fix_MulDiv.code [1, 1, 1, 1, 1, 0, 1]) 0 (fix_MulDiv.c2p o9 y1 y3 y5) (fix_MulDiv.c2x o) (fix_MulDiv.c2n o) (fix_MulDiv.c2q y1 y3 y5 o) := by
  unfold fix_MulDiv.c2; exact
   Owp.bif (fun e11 =>
   Owp.some (triple_way (fix_MulDiv.cok k) hmix [.dec true] [] [] (via (finP (And.intro trivial e11) .normal [] (fix_MulDiv.c2q y1 y3 y5 (!o9))) (by kernel_rfl)))) (fun e11 =>
   Owp.some (triple_way (fix_MulDiv.cok k) hmix [.dec false] [] [] (via (finP (And.intro trivial e11) .normal [] (fix_MulDiv.c2q y1 y3 y5 o9)) (by kernel_rfl))))
noncomputable def fix_MulDiv.c3p (o12 : Bool) (y14 : Int) (y24 : (Int × Int)) : SL := ⟨[(7, (.val T4 o12)), (8, (.val T12 y14)), (11, (.val T12 y24.1)), (12, (.val T12 y24.2)), (54, (.val T4 (igt y24.1 (1099511627776 : Int))))], []⟩
noncomputable def fix_MulDiv.c3q (o12 : Bool) (y14 : Int) (o : (Int × Int)) : SL := (fun v => ⟨[(7, (.val T4 o12)), (8, (.val T12 y14)), (11, (.val T12 v.1)), (12, (.val T12 v.2))], []⟩) o
noncomputable def fix_MulDiv.c3x (o : (Int × Int)) : Ex := (fun _ => .normal) o
noncomputable def fix_MulDiv.c3n (o : (Int × Int)) : Nat := (fun _ => 0) o
theorem fix_MulDiv.c3_ok (k : Nat) (o12 : Bool) (y14 : Int) (y24 : (Int × Int)) : Owp (fix_MulDiv.c3 k y24) fun o => Triple PR (fix_MulDiv.cx k) (sub fix_MulDiv.code [1, 1, 1, 1, 1, 1, 1, 1, 1, 1, 0, 1]) 0 (fix_MulDiv.c3p o12 y14 y24) (fix_MulDiv.c3x o) (fix_MulDiv.c3n o) (fix_MulDiv.c3q o12 y14 o) := by
  unfold fix_MulDiv.c3; exact
   Owp.bif (fun e26 =>
   Owp.some (triple_way (fix_MulDiv.cok k) hmix [.dec true] [] [] (via (finP (And.intro trivial e26) .normal [] (fix_MulDiv.c3q o12 y14 ((1099511627777 : Int), (0 : Int)))) (by kernel_rfl)))) (fun e26 =>
   Owp.some (triple_way (fix_MulDiv.cok k) hmix [.dec false] [] [] (via (finP (And.intro trivial e26) .normal [] (fix_MulDiv.c3q o12 y14 (y24.1, y24.2))) (by kernel_rfl))))
noncomputable def fix_MulDiv.c4p (o27 : (Int × Int)) (y14 : Int) : SL := ⟨[(13, (.val T2 (icv .i64 o27.1))), (72, (.val T4 (igt o27.2 (isub .u64 y14 o27.2))))], []⟩
noncomputable def fix_MulDiv.c4q (o : Int) : SL := (fun v => ⟨[(13, (.val T2 v))], []⟩) o
noncomputable def fix_MulDiv.c4x (o : Int) : Ex := (fun _ => .normal) o
noncomputable def fix_MulDiv.c4n (o : Int) : Nat := (fun _ => 0) o
theorem fix_MulDiv.c4_ok (k : Nat) (o27 : (Int × Int)) (y14 : Int) : Owp (fix_MulDiv.c4 k o27 y14) fun o => Triple PR (fix_MulDiv.cx k) (sub fix_MulDiv.code [1, 1, 1, 1, 1, 1, 1, 1, 1, 1, 1, 1, 1, 0, 1]) 0 (fix_MulDiv.c4p o27 y14) (fix_MulDiv.c4x o) (fix_MulDiv.c4n o) (fix_MulDiv.c4q o) := by
  unfold fix_MulDiv.c4; exact
   Owp.bif (fun e30 =>
   Owp.some (triple_way (fix_MulDiv.cok k) hmix [.dec true] [] [] (via (finP (And.intro trivial e30) .normal [] (fix_MulDiv.c4q (iadd .i64 (icv .i64 o27.1) (1 : Int)))) (by kernel_rfl)))) (fun e30 =>
   Owp.some (triple_way (fix_MulDiv.cok k) hmix [.dec false] [] [] (via (finP (And.intro trivial e30) .normal [] (fix_MulDiv.c4q (icv .i64 o27.1))) (by kernel_rfl))))
noncomputable def fix_MulDiv.c5p (o27 : (Int × Int)) (y14 : Int) : SL := ⟨[(13, (.val T2 (icv .i64 o27.1))), (63, (.val T4 (ige o27.2 (isub .u64 y14 o27.2))))], []⟩
noncomputable def fix_MulDiv.c5q (o : Int) : SL := (fun v => ⟨[(13, (.val T2 v))], []⟩) o
noncomputable def fix_MulDiv.c5x (o : Int) : Ex := (fun _ => .normal) o
noncomputable def fix_MulDiv.c5n (o : Int) : Nat := (fun _ => 0) o
theorem fix_MulDiv.c5_ok (k : Nat) (o27 : (Int × Int)) (y14 : Int) : Owp (fix_MulDiv.c5 k o27 y14) fun o => Triple PR (fix_MulDiv.cx k) (sub fix_MulDiv.code [1, 1, 1, 1, 1, 1, 1, 1, 1, 1, 1, 1, 0, 1, 0, 0, 1]) 0 (fix_MulDiv.c5p o27 y14) (fix_MulDiv.c5x o) (fix_MulDiv.c5n o) (fix_MulDiv.c5q o) := by
  unfold fix_MulDiv.c5; exact
   Owp.bif (fun e35 =>
   Owp.some (triple_way (fix_MulDiv.cok k) hmix [.dec true] [] [] (via (finP (And.intro trivial e35) .normal [] (fix_MulDiv.c5q (iadd .i64 (icv .i64 o27.1) (1 : Int)))) (by kernel_rfl)))) (fun e35 =>
   Owp.some (triple_way (fix_MulDiv.cok k) hmix [.dec false] [] [] (via (finP (And.intro trivial e35) .normal [] (fix_MulDiv.c5q (icv .i64 o27.1))) (by kernel_rfl))))
theorem fix_MulDiv.way (k : Nat) (a0 : Int) (a1 : Int) (a2 : Int) : Owp (fix_MulDiv k a0 a1 a2) fun y => ∃ answers cmds, exec PR (fix_MulDiv.cx k) fix_MulDiv.code 0 (entry (.pair T2 T22) (a0, a1, a2, ())).st answers (Ret (fix_MulDiv.cx k) Try.f160 cmds (.one (.dp T2)) y) := by
  unfold fix_MulDiv; exact
   Owp.bnd fun y1 e2 =>
   Owp.bnd fun y3 e4 =>
   Owp.bnd fun y5 e6 =>
   Owp.bif (fun e7 =>
   Owp.some (⟨[.res (.one (.dp T2)) y1, .res (.one (.dp T2)) y3, .res (.one (.dp T2)) y5, .dec true], [], via (retP (And.intro (And.intro (And.intro (And.intro trivial e2) e4) e6) e7) (.one (.dp T2)) ((0 : Int) : Int)) (by kernel_rfl)⟩)) (fun e7 =>
   Owp.bnd fun o9 e10 =>
    Owp.bnd fun o12 e13 =>
    Owp.bnd fun y14 e15 =>
    Owp.bnd fun y16 e17 =>
    Owp.bnd fun y18 e19 =>
    Owp.bnd fun y20 e21 =>
    Owp.bif (fun e22 =>
    Owp.bif (fun e23 =>
     Owp.some (⟨[.res (.one (.dp T2)) y1, .res (.one (.dp T2)) y3, .res (.one (.dp T2)) y5, .dec false, .cut ⟨[], [], (fix_MulDiv.c1p y1 y3 y5), 0, .normal, (fix_MulDiv.c1q y1 y3 y5 o9), 0⟩, .cut ⟨[], [], (fix_MulDiv.c2p o9 y1 y3 y5), 0, .normal, (fix_MulDiv.c2q y1 y3 y5 o12), 0⟩, .res (.one (.dp T12)) y14, .res (.one (.dp T12)) y16, .res (.one (.dp T12)) y18, .res (.more (.dp T12) (.one (.dp T12))) y20, .dec true, .dec true], [], via (cutP (And.intro (And.intro (And.intro (And.intro trivial e2) e4) e6) e7) [] (fix_MulDiv.c1p y1 y3 y5) (((fix_MulDiv.c1_ok k y1 y3 y5).ap e10)) (cutP trivial [] (fix_MulDiv.c2p o9 y1 y3 y5) (((fix_MulDiv.c2_ok k o9 y1 y3 y5).ap e13)) (retP (And.intro (And.intro (And.intro (And.intro (And.intro (And.intro trivial e15) e17) e19) e21) e22) e23) (.one (.dp T2)) ((-1099511627776 : Int) : Int)))) (by kernel_rfl)⟩)) (fun e23 =>
     Owp.some (⟨[.res (.one (.dp T2)) y1, .res (.one (.dp T2)) y3, .res (.one (.dp T2)) y5, .dec false, .cut ⟨[], [], (fix_MulDiv.c1p y1 y3 y5), 0, .normal, (fix_MulDiv.c1q y1 y3 y5 o9), 0⟩, .cut ⟨[], [], (fix_MulDiv.c2p o9 y1 y3 y5), 0, .normal, (fix_MulDiv.c2q y1 y3 y5 o12), 0⟩, .res (.one (.dp T12)) y14, .res (.one (.dp T12)) y16, .res (.one (.dp T12)) y18, .res (.more (.dp T12) (.one (.dp T12))) y20, .dec true, .dec false], [], via (cutP (And.intro (And.intro (And.intro (And.intro trivial e2) e4) e6) e7) [] (fix_MulDiv.c1p y1 y3 y5) (((fix_MulDiv.c1_ok k y1 y3 y5).ap e10)) (cutP trivial [] (fix_MulDiv.c2p o9 y1 y3 y5) (((fix_MulDiv.c2_ok k o9 y1 y3 y5).ap e13)) (retP (And.intro (And.intro (And.intro (And.intro (And.intro (And.intro trivial e15) e17) e19) e21) e22) e23) (.one (.dp T2)) ((1099511627776 : Int) : Int)))) (by kernel_rfl)⟩))) (fun e22 =>
    Owp.bnd fun y24 e25 =>
     Owp.bnd fun o27 e28 =>
     Owp.bif (fun e29 =>
     Owp.bnd fun o31 e32 =>
      Owp.bnd fun y33 e34 =>
      Owp.some (⟨[.res (.one (.dp T2)) y1, .res (.one (.dp T2)) y3, .res (.one (.dp T2)) y5, .dec false, .cut ⟨[], [], (fix_MulDiv.c1p y1 y3 y5), 0, .normal, (fix_MulDiv.c1q y1 y3 y5 o9), 0⟩, .cut ⟨[], [], (fix_MulDiv.c2p o9 y1 y3 y5), 0, .normal, (fix_MulDiv.c2q y1 y3 y5 o12), 0⟩, .res (.one (.dp T12)) y14, .res (.one (.dp T12)) y16, .res (.one (.dp T12)) y18, .res (.more (.dp T12) (.one (.dp T12))) y20, .dec false, .res (.more (.dp T12) (.one (.dp T12))) y24, .cut ⟨[], [], (fix_MulDiv.c3p o12 y14 y24), 0, .normal, (fix_MulDiv.c3q o12 y14 o27), 0⟩, .dec false, .cut ⟨[], [], (fix_MulDiv.c4p o27 y14), 0, .normal, (fix_MulDiv.c4q o31), 0⟩, .res (.one (.dp T2)) y33], [], via (cutP (And.intro (And.intro (And.intro (And.intro trivial e2) e4) e6) e7) [] (fix_MulDiv.c1p y1 y3 y5) (((fix_MulDiv.c1_ok k y1 y3 y5).ap e10)) (cutP trivial [] (fix_MulDiv.c2p o9 y1 y3 y5) (((fix_MulDiv.c2_ok k o9 y1 y3 y5).ap e13)) (cutP (And.intro (And.intro (And.intro (And.intro (And.intro (And.intro trivial e15) e17) e19) e21) e22) e25) [] (fix_MulDiv.c3p o12 y14 y24) (((fix_MulDiv.c3_ok k o12 y14 y24).ap e28)) (cutP (And.intro trivial (congrArg not e29)) [] (fix_MulDiv.c4p o27 y14) (((fix_MulDiv.c4_ok k o27 y14).ap e32)) (retP (And.intro trivial e34) (.one (.dp T2)) (y33 : Int)))))) (by kernel_rfl)⟩)) (fun e29 =>
     Owp.bnd fun o36 e37 =>
      Owp.bnd fun y38 e39 =>
      Owp.some (⟨[.res (.one (.dp T2)) y1, .res (.one (.dp T2)) y3, .res (.one (.dp T2)) y5, .dec false, .cut ⟨[], [], (fix_MulDiv.c1p y1 y3 y5), 0, .normal, (fix_MulDiv.c1q y1 y3 y5 o9), 0⟩, .cut ⟨[], [], (fix_MulDiv.c2p o9 y1 y3 y5), 0, .normal, (fix_MulDiv.c2q y1 y3 y5 o12), 0⟩, .res (.one (.dp T12)) y14, .res (.one (.dp T12)) y16, .res (.one (.dp T12)) y18, .res (.more (.dp T12) (.one (.dp T12))) y20, .dec false, .res (.more (.dp T12) (.one (.dp T12))) y24, .cut ⟨[], [], (fix_MulDiv.c3p o12 y14 y24), 0, .normal, (fix_MulDiv.c3q o12 y14 o27), 0⟩, .dec true, .cut ⟨[], [], (fix_MulDiv.c5p o27 y14), 0, .normal, (fix_MulDiv.c5q o36), 0⟩, .res (.one (.dp T2)) y38], [], via (cutP (And.intro (And.intro (And.intro (And.intro trivial e2) e4) e6) e7) [] (fix_MulDiv.c1p y1 y3 y5) (((fix_MulDiv.c1_ok k y1 y3 y5).ap e10)) (cutP trivial [] (fix_MulDiv.c2p o9 y1 y3 y5) (((fix_MulDiv.c2_ok k o9 y1 y3 y5).ap e13)) (cutP (And.intro (And.intro (And.intro (And.intro (And.intro (And.intro trivial e15) e17) e19) e21) e22) e25) [] (fix_MulDiv.c3p o12 y14 y24) (((fix_MulDiv.c3_ok k o12 y14 y24).ap e28)) (cutP (And.intro trivial (congrArg not e29)) [] (fix_MulDiv.c5p o27 y14) (((fix_MulDiv.c5_ok k o27 y14).ap e37)) (retP (And.intro trivial e39) (.one (.dp T2)) (y38 : Int)))))) (by kernel_rfl)⟩))))
theorem fix_MulDiv.ok (k : Nat) : FnOk PR 160 (fix_MulDiv.sp k) :=
  fn_ok (fix_MulDiv.cok k) hmix Try.func160 (code := fix_MulDiv.code) (by kernel_rfl) (by kernel_rfl) (by kernel_rfl) rfl rfl (by kernel_rfl) (by kernel_rfl) (by kernel_rfl) (fun x => Nat.le_of_ble_eq_true (by kernel_rfl)) fun x y hy => (fix_MulDiv.way k x.1 x.2.1 x.2.2.1).ap hy

/-! tourney/fix.Mul -/
noncomputable def fix_Mul.code : Code := Func.cd Try.f89
def fix_Mul (k : Nat) (a0 : Int) (a1 : Int) : Option Int :=
  bnd (fix_MulDiv k a0 a1 65536) fun y1 =>
  some y1
noncomputable def fix_Mul.sp (k : Nat) : Go.Sx.Spec := ⟨T22, (.one (.dp T2)), fun x => fix_Mul k x.1 x.2.1, false⟩
noncomputable def fix_Mul.cx (k : Nat) : Go.Sx.Ctx := ⟨tys, [(160, fix_MulDiv.sp k)], eqs, 8, 0, [], false⟩
theorem fix_Mul.cok (k : Nat) : CtxOk PR (fix_Mul.cx k) := ctx_ok tysOk eqsOk (FnsOk.cons (fix_MulDiv.ok k) FnsOk.nil) HsOk.nil
theorem fix_Mul.way (k : Nat) (a0 : Int) (a1 : Int) : Owp (fix_Mul k a0 a1) fun y => ∃ answers cmds, exec PR (fix_Mul.cx k) fix_Mul.code 0 (entry T22 (a0, a1, ())).st answers (Ret (fix_Mul.cx k) Try.f89 cmds (.one (.dp T2)) y) := by
  unfold fix_Mul; exact
   Owp.bnd fun y1 e2 =>
   Owp.some (⟨[.res (.one (.dp T2)) y1], [], via (retP (And.intro trivial e2) (.one (.dp T2)) (y1 : Int)) (by kernel_rfl)⟩)
theorem fix_Mul.ok (k : Nat) : FnOk PR 89 (fix_Mul.sp k) :=
  fn_ok (fix_Mul.cok k) hmix Try.func89 (code := fix_Mul.code) (by kernel_rfl) (by kernel_rfl) (by kernel_rfl) rfl rfl (by kernel_rfl) (by kernel_rfl) (by kernel_rfl) (fun x => Nat.le_of_ble_eq_true (by kernel_rfl)) fun x y hy => (fix_Mul.way k x.1 x.2.1).ap hy

/-! tourney/fix.Sub -/
noncomputable def fix_Sub.code : Code := Func.cd Try.f90
def fix_Sub (k : Nat) (a0 : Int) (a1 : Int) : Option Int :=
  bnd (fix_Clamp k a0) fun y1 =>
  bnd (fix_Clamp k a1) fun y3 =>
  bnd (fix_Clamp k (isub .i64 y1 y3)) fun y5 =>
  some y5
noncomputable def fix_Sub.sp (k : Nat) : Go.Sx.Spec := ⟨T22, (.one (.dp T2)), fun x => fix_Sub k x.1 x.2.1, false⟩
noncomputable def fix_Sub.cx (k : Nat) : Go.Sx.Ctx := ⟨tys, [(135, fix_Clamp.sp k)], eqs, 11, 0, [], false⟩
theorem fix_Sub.cok (k : Nat) : CtxOk PR (fix_Sub.cx k) := ctx_ok tysOk eqsOk (FnsOk.cons (fix_Clamp.ok k) FnsOk.nil) HsOk.nil
theorem fix_Sub.way (k : Nat) (a0 : Int) (a1 : Int) : Owp (fix_Sub k a0 a1) fun y => ∃ answers cmds, exec PR (fix_Sub.cx k) fix_Sub.code 0 (entry T22 (a0, a1, ())).st answers (Ret (fix_Sub.cx k) Try.f90 cmds (.one (.dp T2)) y) := by
  unfold fix_Sub; exact
   Owp.bnd fun y1 e2 =>
   Owp.bnd fun y3 e4 =>
   Owp.bnd fun y5 e6 =>
   Owp.some (⟨[.res (.one (.dp T2)) y1, .res (.one (.dp T2)) y3, .res (.one (.dp T2)) y5], [], via (retP (And.intro (And.intro (And.intro trivial e2) e4) e6) (.one (.dp T2)) (y5 : Int)) (by kernel_rfl)⟩)
theorem fix_Sub.ok (k : Nat) : FnOk PR 90 (fix_Sub.sp k) :=
  fn_ok (fix_Sub.cok k) hmix Try.func90 (code := fix_Sub.code) (by kernel_rfl) (by kernel_rfl) (by kernel_rfl) rfl rfl (by kernel_rfl) (by kernel_rfl) (by kernel_rfl) (fun x => Nat.le_of_ble_eq_true (by kernel_rfl)) fun x y hy => (fix_Sub.way k x.1 x.2.1).ap hy

/-! tourney/fix.Div -/
noncomputable def fix_Div.code : Code := Func.cd Try.f157
def fix_Div (k : Nat) (a0 : Int) (a1 : Int) : Option (Int × Int) :=
  bif' (ieq a1 0)
  (some (0, 17))
  (bnd (fix_MulDiv k a0 65536 a1) fun y2 =>
   some (y2, 0))
noncomputable def fix_Div.sp (k : Nat) : Go.Sx.Spec := ⟨T22, (.more (.dp T2) (.one (.dp T2))), fun x => fix_Div k x.1 x.2.1, false⟩
noncomputable def fix_Div.cx (k : Nat) : Go.Sx.Ctx := ⟨tys, [(160, fix_MulDiv.sp k)], eqs, 11, 0, [], false⟩
theorem fix_Div.cok (k : Nat) : CtxOk PR (fix_Div.cx k) := ctx_ok tysOk eqsOk (FnsOk.cons (fix_MulDiv.ok k) FnsOk.nil) HsOk.nil
theorem fix_Div.way (k : Nat) (a0 : Int) (a1 : Int) : Owp (fix_Div k a0 a1) fun y => ∃ answers cmds, exec PR (fix_Div.cx k) fix_Div.code 0 (entry T22 (a0, a1, ())).st answers (Ret (fix_Div.cx k) Try.f157 cmds (.more (.dp T2) (.one (.dp T2))) y) := by
  unfold fix_Div; exact
   Owp.bif (fun e1 =>
   Owp.some (⟨[.dec true], [], via (retP (And.intro trivial e1) (.more (.dp T2) (.one (.dp T2))) (((0 : Int), (17 : Int)) : (Int × Int))) (by kernel_rfl)⟩)) (fun e1 =>
   Owp.bnd fun y2 e3 =>
    Owp.some (⟨[.dec false, .res (.one (.dp T2)) y2], [], via (retP (And.intro (And.intro trivial e1) e3) (.more (.dp T2) (.one (.dp T2))) ((y2, (0 : Int)) : (Int × Int))) (by kernel_rfl)⟩))
theorem fix_Div.ok (k : Nat) : FnOk PR 157 (fix_Div.sp k) :=
  fn_ok (fix_Div.cok k) hmix Try.func157 (code := fix_Div.code) (by kernel_rfl) (by kernel_rfl) (by kernel_rfl) rfl rfl (by kernel_rfl) (by kernel_rfl) (by kernel_rfl) (fun x => Nat.le_of_ble_eq_true (by kernel_rfl)) fun x y hy => (fix_Div.way k x.1 x.2.1).ap hy

/-! tourney/fix.Root -/
noncomputable def fix_Root.code : Code := Func.cd Try.f185
def fix_Root.c2 (k : Nat) (a0 : Int) (a1 : Int) (y4 : (Int × Int)) : Option (Bool) :=
  bif' (ilt y4.1 a0)
  (some true)
  (bif' (ieq y4.1 a0)
   (some (ile y4.2 a1))
   (some false))
def fix_Root.c3 (k : Nat) (o8 : Bool) (v1 : Int) (v2 : Int) : Option (Int) :=
  bif' o8
  (some (ibits .or .u64 v1 v2))
  (some v1)
def fix_Root.c1 (k : Nat) (a0 : Int) (a1 : Int) : Nat → Int → Int → Option (Int)
  | 0, _, _ => none
  | n + 1, v1, v2 =>
   bif' (igt v2 0)
   (bnd (bits_Mul64 k (ibits .or .u64 v1 v2) (ibits .or .u64 v1 v2)) fun y4 =>
    bnd (fix_Root.c2 k a0 a1 y4) fun o8 =>
    bnd (fix_Root.c3 k o8 v1 v2) fun o11 =>
    fix_Root.c1 k a0 a1 n o11 (ishr .u64 v2 1))
   (some v1)
def fix_Root (k : Nat) (a0 : Int) (a1 : Int) : Option Int :=
  bnd (fix_Root.c1 k a0 a1 k 0 9223372036854775808) fun o13 =>
  some o13
noncomputable def fix_Root.sp (k : Nat) : Go.Sx.Spec := ⟨(.pair T12 (.pair T12 .unit)), (.one (.dp T12)), fun x => fix_Root k x.1 x.2.1, false⟩
noncomputable def fix_Root.cx (k : Nat) : Go.Sx.Ctx := ⟨tys, [(161, bits_Mul64.sp k)], eqs, 38, 0, [], false⟩
theorem fix_Root.cok (k : Nat) : CtxOk PR (fix_Root.cx k) := ctx_ok tysOk eqsOk (FnsOk.cons (bits_Mul64.ok k) FnsOk.nil) HsOk.nil
noncomputable def fix_Root.c2p (a0 : Int) (a1 : Int) (v1 : Int) (v2 : Int) (y4 : (Int × Int)) : SL := ⟨[(0, (.val T12 a0)), (1, (.val T12 a1)), (5, (.val T12 v1)), (6, (.val T12 v2)), (7, (.val T12 (ibits .or .u64 v1 v2))), (8, (.val T12 y4.1)), (9, (.val T12 y4.2))], []⟩
noncomputable def fix_Root.c2q (a0 : Int) (a1 : Int) (v1 : Int) (v2 : Int) (o : Bool) : SL := (fun v => ⟨[(0, (.val T12 a0)), (1, (.val T12 a1)), (5, (.val T12 v1)), (6, (.val T12 v2)), (7, (.val T12 (ibits .or .u64 v1 v2))), (35, (.val T4 v))], []⟩) o
noncomputable def fix_Root.c2x (o : Bool) : Ex := (fun _ => .normal) o
noncomputable def fix_Root.c2n (o : Bool) : Nat := (fun _ => 0) o
theorem fix_Root.c2_ok (k : Nat) (a0 : Int) (a1 : Int) (v1 : Int) (v2 : Int) (y4 : (Int × Int)) : Owp (fix_Root.c2 k a0 a1 y4) fun o => Triple PR (fix_Root.cx k) (sub fix_Root.code [1, 1, 0, 1, 0, 0, 1, 0, 0, 1, 1, 0]) 0 (fix_Root.c2p a0 a1 v1 v2 y4) (fix_Root.c2x o) (fix_Root.c2n o) (fix_Root.c2q a0 a1 v1 v2 o) := by
  unfold fix_Root.c2; exact
   Owp.bif (fun e6 =>
   Owp.some (triple_way (fix_Root.cok k) hmix [.dec true, .dec true, .dec true, .dec true, .dec true, .dec true, .dec true, .dec true, .dec true, .dec true] [] [] (via (finP (And.intro (And.intro (And.intro (And.intro (And.intro (And.intro trivial e6) e6) e6) e6) e6) e6) .normal [] (fix_Root.c2q a0 a1 v1 v2 true)) (by kernel_rfl)))) (fun e6 =>
   Owp.bif (fun e7 =>
    Owp.some (triple_way (fix_Root.cok k) hmix [.dec false, .dec false, .dec false, .dec false, .dec true, .dec true, .dec true, .dec false, .dec true, .dec false] [] [] (via (finP (And.intro (And.intro (And.intro (And.intro (And.intro (And.intro (And.intro (And.intro (And.intro trivial e6) e6) e6) e6) e7) e7) e7) (And.intro e6 e7)) e6) .normal [] (fix_Root.c2q a0 a1 v1 v2 (ile y4.2 a1))) (by kernel_rfl)))) (fun e7 =>
    Owp.some (triple_way (fix_Root.cok k) hmix [.dec false, .dec false, .dec false, .dec false, .dec false, .dec false, .dec false, .dec false, .dec false, .dec false] [] [] (via (finP (And.intro (And.intro (And.intro (And.intro (And.intro (And.intro (And.intro (And.intro (And.intro trivial e6) e6) e6) e6) e7) e7) e7) (And.intro e6 e7)) e6) .normal [] (fix_Root.c2q a0 a1 v1 v2 false)) (by kernel_rfl)))))
noncomputable def fix_Root.c3p (a0 : Int) (a1 : Int) (o8 : Bool) (v1 : Int) (v2 : Int) : SL := ⟨[(0, (.val T12 a0)), (1, (.val T12 a1)), (5, (.val T12 v1)), (6, (.val T12 v2)), (7, (.val T12 (ibits .or .u64 v1 v2))), (35, (.val T4 o8))], []⟩
noncomputable def fix_Root.c3q (a0 : Int) (a1 : Int) (v2 : Int) (o : Int) : SL := (fun v => ⟨[(0, (.val T12 a0)), (1, (.val T12 a1)), (5, (.val T12 v)), (6, (.val T12 v2))], []⟩) o
noncomputable def fix_Root.c3x (o : Int) : Ex := (fun _ => .normal) o
noncomputable def fix_Root.c3n (o : Int) : Nat := (fun _ => 0) o
theorem fix_Root.c3_ok (k : Nat) (a0 : Int) (a1 : Int) (o8 : Bool) (v1 : Int) (v2 : Int) : Owp (fix_Root.c3 k o8 v1 v2) fun o => Triple PR (fix_Root.cx k) (sub fix_Root.code [1, 1, 0, 1, 0, 0, 1, 0, 0, 1, 1, 1]) 0 (fix_Root.c3p a0 a1 o8 v1 v2) (fix_Root.c3x o) (fix_Root.c3n o) (fix_Root.c3q a0 a1 v2 o) := by
  unfold fix_Root.c3; exact
   Owp.bif (fun e10 =>
   Owp.some (triple_way (fix_Root.cok k) hmix [.dec true] [] [] (via (finP (And.intro trivial e10) .normal [] (fix_Root.c3q a0 a1 v2 (ibits .or .u64 v1 v2))) (by kernel_rfl)))) (fun e10 =>
   Owp.some (triple_way (fix_Root.cok k) hmix [.dec false] [] [] (via (finP (And.intro trivial e10) .normal [] (fix_Root.c3q a0 a1 v2 v1)) (by kernel_rfl))))
noncomputable def fix_Root.c1p (a0 : Int) (a1 : Int) (v1 : Int) (v2 : Int) : SL := ⟨[(0, (.val T12 a0)), (1, (.val T12 a1)), (5, (.val T12 v1)), (6, (.val T12 v2))], []⟩
noncomputable def fix_Root.c1q (o : Int) : SL := (fun v => ⟨[(5, (.val T12 v))], []⟩) o
noncomputable def fix_Root.c1x (o : Int) : Ex := (fun _ => (.exit 0)) o
noncomputable def fix_Root.c1n (o : Int) : Nat := (fun _ => 0) o
theorem fix_Root.c1_ok (k : Nat) (a0 : Int) (a1 : Int) : ∀ (n : Nat) (v1 : Int) (v2 : Int), Owp (fix_Root.c1 k a0 a1 n v1 v2) fun o => LTriple PR (fix_Root.cx k) (sub fix_Root.code [1, 1, 0, 1, 0, 0]) 0 (fix_Root.c1p a0 a1 v1 v2) (fix_Root.c1x o) (fix_Root.c1n o) (fix_Root.c1q o)
  | 0, _, _ => fun _ h => nomatch h
  | n + 1, v1, v2 => Owp.of (fix_Root.c1.eq_2 ..) (
   Owp.bif (fun e3 =>
   Owp.bnd fun y4 e5 =>
    Owp.bnd fun o8 e9 =>
    Owp.bnd fun o11 e12 =>
    fun y hy => loop_back (fix_Root.cok k) hmix 0 (fix_Root.c1p a0 a1 o11 (ishr .u64 v2 (1 : Int))) [.dec true, .res (.more (.dp T12) (.one (.dp T12))) y4, .cutR 7 ⟨[], [], (fix_Root.c2p a0 a1 v1 v2 y4), 0, .normal, (fix_Root.c2q a0 a1 v1 v2 o8), 0⟩, .cut ⟨[], [], (fix_Root.c3p a0 a1 o8 v1 v2), 0, .normal, (fix_Root.c3q a0 a1 v2 o11), 0⟩] [] [] (via (cutP (And.intro (And.intro trivial e3) e5) [] (fix_Root.c2p a0 a1 v1 v2 y4) (((fix_Root.c2_ok k a0 a1 v1 v2 y4).ap e9)) (cutP trivial [] (fix_Root.c3p a0 a1 o8 v1 v2) (((fix_Root.c3_ok k a0 a1 o8 v1 v2).ap e12)) (finP (And.intro trivial (by decide : ng (1 : Int))) .normal [] (fix_Root.c1p a0 a1 o11 (ishr .u64 v2 (1 : Int)))))) (by kernel_rfl)) ((fix_Root.c1_ok k a0 a1 n o11 (ishr .u64 v2 (1 : Int))).ap hy)) (fun e3 =>
   Owp.some (loop_exit (fix_Root.cok k) hmix [.dec false] [] [] (exne 0) (via (finP (And.intro trivial e3) (.exit 0) [] (fix_Root.c1q v1)) (by kernel_rfl)))))
theorem fix_Root.way (k : Nat) (a0 : Int) (a1 : Int) : Owp (fix_Root k a0 a1) fun y => ∃ answers cmds, exec PR (fix_Root.cx k) fix_Root.code 0 (entry (.pair T12 (.pair T12 .unit)) (a0, a1, ())).st answers (Ret (fix_Root.cx k) Try.f185 cmds (.one (.dp T12)) y) := by
  unfold fix_Root; exact
   Owp.bnd fun o13 e14 =>
   Owp.some (⟨[.cut ⟨[], [], (fix_Root.c1p a0 a1 (0 : Int) (9223372036854775808 : Int)), 0, (.exit 0), (fix_Root.c1q o13), 0⟩], [], via (cutP trivial [] (fix_Root.c1p a0 a1 (0 : Int) (9223372036854775808 : Int)) (((fix_Root.c1_ok k a0 a1 k (0 : Int) (9223372036854775808 : Int)).ap e14).triple) (retP trivial (.one (.dp T12)) (o13 : Int))) (by kernel_rfl)⟩)
theorem fix_Root.ok (k : Nat) : FnOk PR 185 (fix_Root.sp k) :=
  fn_ok (fix_Root.cok k) hmix Try.func185 (code := fix_Root.code) (by kernel_rfl) (by kernel_rfl) (by kernel_rfl) rfl rfl (by kernel_rfl) (by kernel_rfl) (by kernel_rfl) (fun x => Nat.le_of_ble_eq_true (by kernel_rfl)) fun x y hy => (fix_Root.way k x.1 x.2.1).ap hy

end Go.Proofs.T1
