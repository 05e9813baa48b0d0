import Derived.Test.YtcgcnojpcgjnmaaG0
import Derived.Test.YtcgcnojpcgjnmaaG2
namespace Go.Proofs.T1
open Go Go.Sx Go.Proofs
set_option maxRecDepth 100000
set_option linter.unusedVariables false
/-! tourney/tourref2.cross$1 -/
noncomputable def tourref2_cross_1.code : Code := Func.cd Try.f165
def tourref2_cross_1 (k : Nat) (a0 : V22) (a1 : V22) (a2 : V22) (a3 : Int) : Option Bool :=
  bif' (ieq a3 0)
  (bif' (ile (imin a0.1 a1.1) a2.1)
   (bif' (ile a2.1 (imax a0.1 a1.1))
    (bif' (ile (imin a0.2.1 a1.2.1) a2.2.1)
     (some (ile a2.2.1 (imax a0.2.1 a1.2.1)))
     (some false))
    (some false))
   (some false))
  (some false)
noncomputable def tourref2_cross_1.sp (k : Nat) : Go.Sx.Spec := ⟨(.pair T22 (.pair T22 (.pair T22 (.pair T2 .unit)))), (.one (.dp T4)), fun x => tourref2_cross_1 k x.1 x.2.1 x.2.2.1 x.2.2.2.1, false⟩
noncomputable def tourref2_cross_1.cx (k : Nat) : Go.Sx.Ctx := ⟨tys, [], eqs, 51, 0, [], false⟩
theorem tourref2_cross_1.cok (k : Nat) : CtxOk PR (tourref2_cross_1.cx k) := ctx_ok tysOk eqsOk FnsOk.nil HsOk.nil
theorem tourref2_cross_1.way (k : Nat) (a0 : V22) (a1 : V22) (a2 : V22) (a3 : Int) : Owp (tourref2_cross_1 k a0 a1 a2 a3) fun y => ∃ answers cmds, exec PR (tourref2_cross_1.cx k) tourref2_cross_1.code 0 (entry (.pair T22 (.pair T22 (.pair T22 (.pair T2 .unit)))) (a0, a1, a2, a3, ())).st answers (Ret (tourref2_cross_1.cx k) Try.f165 cmds (.one (.dp T4)) y) := by
  unfold tourref2_cross_1; exact
   Owp.bif (fun e1 =>
   Owp.bif (fun e2 =>
    Owp.bif (fun e3 =>
     Owp.bif (fun e4 =>
      Owp.some (⟨[.dec true, .dec true, .dec true, .dec true, .dec true, .dec true, .dec true, .dec true, .dec true, .dec true, .dec true, .dec true, .dec true, .dec true, .dec true, .dec true, .dec true, .dec true, .dec true, .dec true, .dec true, .dec true, .dec true, .dec true, .dec true, .dec true, .dec true, .dec true, .dec true, .dec true, .dec true, .dec true, .dec true, .dec true, .dec true, .dec true], [], via (retP (And.intro (And.intro (And.intro (And.intro (And.intro (And.intro (And.intro (And.intro (And.intro (And.intro (And.intro (And.intro (And.intro (And.intro (And.intro (And.intro (And.intro (And.intro (And.intro (And.intro (And.intro (And.intro (And.intro (And.intro (And.intro (And.intro (And.intro (And.intro (And.intro (And.intro (And.intro (And.intro (And.intro (And.intro (And.intro (And.intro trivial e1) e1) e1) e1) e1) e1) e1) e1) e1) e2) e2) e2) e2) e2) e2) e2) e2) e2) e3) e3) e3) e3) e3) e3) e3) e3) e3) e4) e4) e4) e4) e4) e4) e4) e4) e4) (.one (.dp T4)) ((ile a2.2.1 (imax a0.2.1 a1.2.1)) : Bool)) (by kernel_rfl)⟩)) (fun e4 =>
      Owp.some (⟨[.dec true, .dec true, .dec true, .dec true, .dec true, .dec true, .dec true, .dec true, .dec true, .dec true, .dec true, .dec true, .dec true, .dec true, .dec true, .dec true, .dec true, .dec true, .dec true, .dec true, .dec true, .dec true, .dec true, .dec true, .dec true, .dec true, .dec true, .dec false, .dec false, .dec false, .dec false, .dec false, .dec false, .dec false, .dec false, .dec false], [], via (retP (And.intro (And.intro (And.intro (And.intro (And.intro (And.intro (And.intro (And.intro (And.intro (And.intro (And.intro (And.intro (And.intro (And.intro (And.intro (And.intro (And.intro (And.intro (And.intro (And.intro (And.intro (And.intro (And.intro (And.intro (And.intro (And.intro (And.intro (And.intro (And.intro (And.intro (And.intro (And.intro (And.intro (And.intro (And.intro (And.intro trivial e1) e1) e1) e1) e1) e1) e1) e1) e1) e2) e2) e2) e2) e2) e2) e2) e2) e2) e3) e3) e3) e3) e3) e3) e3) e3) e3) e4) e4) e4) e4) e4) e4) e4) e4) e4) (.one (.dp T4)) (false : Bool)) (by kernel_rfl)⟩))) (fun e3 =>
     Owp.some (⟨[.dec true, .dec true, .dec true, .dec true, .dec true, .dec true, .dec true, .dec true, .dec true, .dec true, .dec true, .dec true, .dec true, .dec true, .dec true, .dec true, .dec true, .dec true, .dec false, .dec false, .dec false, .dec false, .dec false, .dec false, .dec false, .dec false, .dec false, .dec false, .dec false, .dec false, .dec false, .dec false, .dec false, .dec false, .dec false, .dec false], [], via (retP (And.intro (And.intro (And.intro (And.intro (And.intro (And.intro (And.intro (And.intro (And.intro (And.intro (And.intro (And.intro (And.intro (And.intro (And.intro (And.intro (And.intro (And.intro (And.intro (And.intro (And.intro (And.intro (And.intro (And.intro (And.intro (And.intro (And.intro (And.intro (And.intro (And.intro (And.intro (And.intro (And.intro (And.intro (And.intro (And.intro trivial e1) e1) e1) e1) e1) e1) e1) e1) e1) e2) e2) e2) e2) e2) e2) e2) e2) e2) e3) e3) e3) e3) e3) e3) e3) e3) e3) ff) ff) ff) ff) ff) ff) ff) ff) ff) (.one (.dp T4)) (false : Bool)) (by kernel_rfl)⟩))) (fun e2 =>
    Owp.some (⟨[.dec true, .dec true, .dec true, .dec true, .dec true, .dec true, .dec true, .dec true, .dec true, .dec false, .dec false, .dec false, .dec false, .dec false, .dec false, .dec false, .dec false, .dec false, .dec false, .dec false, .dec false, .dec false, .dec false, .dec false, .dec false, .dec false, .dec false, .dec false, .dec false, .dec false, .dec false, .dec false, .dec false, .dec false, .dec false, .dec false], [], via (retP (And.intro (And.intro (And.intro (And.intro (And.intro (And.intro (And.intro (And.intro (And.intro (And.intro (And.intro (And.intro (And.intro (And.intro (And.intro (And.intro (And.intro (And.intro (And.intro (And.intro (And.intro (And.intro (And.intro (And.intro (And.intro (And.intro (And.intro (And.intro (And.intro (And.intro (And.intro (And.intro (And.intro (And.intro (And.intro (And.intro trivial e1) e1) e1) e1) e1) e1) e1) e1) e1) e2) e2) e2) e2) e2) e2) e2) e2) e2) ff) ff) ff) ff) ff) ff) ff) ff) ff) ff) ff) ff) ff) ff) ff) ff) ff) ff) (.one (.dp T4)) (false : Bool)) (by kernel_rfl)⟩))) (fun e1 =>
   Owp.some (⟨[.dec false, .dec false, .dec false, .dec false, .dec false, .dec false, .dec false, .dec false, .dec false, .dec false, .dec false, .dec false, .dec false, .dec false, .dec false, .dec false, .dec false, .dec false, .dec false, .dec false, .dec false, .dec false, .dec false, .dec false, .dec false, .dec false, .dec false, .dec false, .dec false, .dec false, .dec false, .dec false, .dec false, .dec false, .dec false, .dec false], [], via (retP (And.intro (And.intro (And.intro (And.intro (And.intro (And.intro (And.intro (And.intro (And.intro (And.intro (And.intro (And.intro (And.intro (And.intro (And.intro (And.intro (And.intro (And.intro (And.intro (And.intro (And.intro (And.intro (And.intro (And.intro (And.intro (And.intro (And.intro (And.intro (And.intro (And.intro (And.intro (And.intro (And.intro (And.intro (And.intro (And.intro trivial e1) e1) e1) e1) e1) e1) e1) e1) e1) ff) ff) ff) ff) ff) ff) ff) ff) ff) ff) ff) ff) ff) ff) ff) ff) ff) ff) ff) ff) ff) ff) ff) ff) ff) ff) ff) (.one (.dp T4)) (false : Bool)) (by kernel_rfl)⟩))
theorem tourref2_cross_1.ok (k : Nat) : FnOk PR 165 (tourref2_cross_1.sp k) :=
  fn_ok (tourref2_cross_1.cok k) hmix Try.func165 (code := tourref2_cross_1.code) (by kernel_rfl) (by kernel_rfl) (by kernel_rfl) rfl rfl (by kernel_rfl) (by kernel_rfl) (by kernel_rfl) (fun x => Nat.le_of_ble_eq_true (by kernel_rfl)) fun x y hy => (tourref2_cross_1.way k x.1 x.2.1 x.2.2.1 x.2.2.2.1).ap hy

/-! tourney/tourref2.cross -/
noncomputable def tourref2_cross.code : Code := Func.cd Try.f101
def tourref2_cross.c1 (k : Nat) (y1 : Int) (y3 : Int) (y5 : Int) (y7 : Int) : Option (Bool) :=
  bif' (ilt (imul .i64 y1 y3) 0)
  (some (ilt (imul .i64 y5 y7) 0))
  (some false)
def tourref2_cross (k : Nat) (a0 : V22) (a1 : V22) (a2 : V22) (a3 : V22) : Option Bool :=
  bnd (tourref2_left k a0 a1 a2) fun y1 =>
  bnd (tourref2_left k a0 a1 a3) fun y3 =>
  bnd (tourref2_left k a2 a3 a0) fun y5 =>
  bnd (tourref2_left k a2 a3 a1) fun y7 =>
  bnd (tourref2_cross.c1 k y1 y3 y5 y7) fun o10 =>
  bif' o10
  (some true)
  (bnd (tourref2_cross_1 k a0 a1 a2 y1) fun y13 =>
   bif' y13
   (some true)
   (bnd (tourref2_cross_1 k a0 a1 a3 y3) fun y16 =>
    bif' y16
    (some true)
    (bnd (tourref2_cross_1 k a2 a3 a0 y5) fun y19 =>
     bif' y19
     (some true)
     (bnd (tourref2_cross_1 k a2 a3 a1 y7) fun y22 =>
      some y22))))
noncomputable def tourref2_cross.sp (k : Nat) : Go.Sx.Spec := ⟨(.pair T22 (.pair T22 T52)), (.one (.dp T4)), fun x => tourref2_cross k x.1 x.2.1 x.2.2.1 x.2.2.2.1, false⟩
noncomputable def tourref2_cross.cx (k : Nat) : Go.Sx.Ctx := ⟨tys, [(124, tourref2_left.sp k), (165, tourref2_cross_1.sp k)], eqs, 70, 0, [], false⟩
theorem tourref2_cross.cok (k : Nat) : CtxOk PR (tourref2_cross.cx k) := ctx_ok tysOk eqsOk (FnsOk.cons (tourref2_left.ok k) (FnsOk.cons (tourref2_cross_1.ok k) FnsOk.nil)) HsOk.nil
noncomputable def tourref2_cross.c1p (a0 : V22) (a1 : V22) (a2 : V22) (a3 : V22) (y1 : Int) (y3 : Int) (y5 : Int) (y7 : Int) : SL := ⟨[(4, (.val .ptr ⟨0, 0, (0 : Int), 0, 0⟩)), (5, (.val .ptr ⟨1, 0, (0 : Int), 0, 0⟩)), (6, (.val .ptr ⟨2, 0, (0 : Int), 0, 0⟩)), (7, (.val .ptr ⟨3, 0, (0 : Int), 0, 0⟩)), (9, (.val T2 y1)), (10, (.val T2 y3)), (11, (.val T2 y5)), (12, (.val T2 y7))], [(0, .cells T22 a0), (1, .cells T22 a1), (2, .cells T22 a2), (3, .cells T22 a3)]⟩
noncomputable def tourref2_cross.c1q (a0 : V22) (a1 : V22) (a2 : V22) (a3 : V22) (y1 : Int) (y3 : Int) (y5 : Int) (y7 : Int) (o : Bool) : SL := (fun v => ⟨[(4, (.val .ptr ⟨0, 0, (0 : Int), 0, 0⟩)), (5, (.val .ptr ⟨1, 0, (0 : Int), 0, 0⟩)), (6, (.val .ptr ⟨2, 0, (0 : Int), 0, 0⟩)), (7, (.val .ptr ⟨3, 0, (0 : Int), 0, 0⟩)), (9, (.val T2 y1)), (10, (.val T2 y3)), (11, (.val T2 y5)), (12, (.val T2 y7)), (39, (.val T4 v))], [(0, .cells T22 a0), (1, .cells T22 a1), (2, .cells T22 a2), (3, .cells T22 a3)]⟩) o
noncomputable def tourref2_cross.c1x (o : Bool) : Ex := (fun _ => .normal) o
noncomputable def tourref2_cross.c1n (o : Bool) : Nat := (fun _ => 4) o
theorem tourref2_cross.c1_ok (k : Nat) (a0 : V22) (a1 : V22) (a2 : V22) (a3 : V22) (y1 : Int) (y3 : Int) (y5 : Int) (y7 : Int) : Owp (tourref2_cross.c1 k y1 y3 y5 y7) fun o => Triple PR (tourref2_cross.cx k) (sub tourref2_cross.code [1, 1, 0, 0]) 4 (tourref2_cross.c1p a0 a1 a2 a3 y1 y3 y5 y7) (tourref2_cross.c1x o) (tourref2_cross.c1n o) (tourref2_cross.c1q a0 a1 a2 a3 y1 y3 y5 y7 o) := by
  unfold tourref2_cross.c1; exact
   Owp.bif (fun e9 =>
   Owp.some (triple_way (tourref2_cross.cok k) hmix [.dec true, .dec true, .dec true, .dec true, .dec true] [] [(0, 0), (1, 1), (2, 2), (3, 3)] (via (finP (And.intro (And.intro (And.intro (And.intro (And.intro trivial e9) e9) e9) e9) e9) .normal [(0, 0), (1, 1), (2, 2), (3, 3)] (tourref2_cross.c1q a0 a1 a2 a3 y1 y3 y5 y7 (ilt (imul .i64 y5 y7) (0 : Int)))) (by kernel_rfl)))) (fun e9 =>
   Owp.some (triple_way (tourref2_cross.cok k) hmix [.dec false, .dec false, .dec false, .dec false, .dec false] [] [(0, 0), (1, 1), (2, 2), (3, 3)] (via (finP (And.intro (And.intro (And.intro (And.intro (And.intro trivial e9) e9) e9) e9) e9) .normal [(0, 0), (1, 1), (2, 2), (3, 3)] (tourref2_cross.c1q a0 a1 a2 a3 y1 y3 y5 y7 false)) (by kernel_rfl))))
theorem tourref2_cross.way (k : Nat) (a0 : V22) (a1 : V22) (a2 : V22) (a3 : V22) : Owp (tourref2_cross k a0 a1 a2 a3) fun y => ∃ answers cmds, exec PR (tourref2_cross.cx k) tourref2_cross.code 0 (entry (.pair T22 (.pair T22 T52)) (a0, a1, a2, a3, ())).st answers (Ret (tourref2_cross.cx k) Try.f101 cmds (.one (.dp T4)) y) := by
  unfold tourref2_cross; exact
   Owp.bnd fun y1 e2 =>
   Owp.bnd fun y3 e4 =>
   Owp.bnd fun y5 e6 =>
   Owp.bnd fun y7 e8 =>
   Owp.bnd fun o10 e11 =>
   Owp.bif (fun e12 =>
   Owp.some (⟨[.res (.one (.dp T2)) y1, .res (.one (.dp T2)) y3, .res (.one (.dp T2)) y5, .res (.one (.dp T2)) y7, .cutR 2 ⟨[], [(0, 0), (1, 1), (2, 2), (3, 3)], (tourref2_cross.c1p a0 a1 a2 a3 y1 y3 y5 y7), 4, .normal, (tourref2_cross.c1q a0 a1 a2 a3 y1 y3 y5 y7 o10), 4⟩, .dec true], [], via (cutP (And.intro (And.intro (And.intro (And.intro trivial e2) e4) e6) e8) [(0, 0), (1, 1), (2, 2), (3, 3)] (tourref2_cross.c1p a0 a1 a2 a3 y1 y3 y5 y7) (((tourref2_cross.c1_ok k a0 a1 a2 a3 y1 y3 y5 y7).ap e11)) (retP (And.intro trivial e12) (.one (.dp T4)) (true : Bool))) (by kernel_rfl)⟩)) (fun e12 =>
   Owp.bnd fun y13 e14 =>
    Owp.bif (fun e15 =>
    Owp.some (⟨[.res (.one (.dp T2)) y1, .res (.one (.dp T2)) y3, .res (.one (.dp T2)) y5, .res (.one (.dp T2)) y7, .cutR 2 ⟨[], [(0, 0), (1, 1), (2, 2), (3, 3)], (tourref2_cross.c1p a0 a1 a2 a3 y1 y3 y5 y7), 4, .normal, (tourref2_cross.c1q a0 a1 a2 a3 y1 y3 y5 y7 o10), 4⟩, .dec false, .res (.one (.dp T4)) y13, .dec true, .dec true, .dec true, .dec true, .dec true, .dec true, .dec true, .dec true, .dec true, .dec true, .dec true, .dec true, .dec true, .dec true, .dec true, .dec true, .dec true, .dec true, .dec true, .dec true, .dec true, .dec true, .dec true, .dec true], [], via (cutP (And.intro (And.intro (And.intro (And.intro trivial e2) e4) e6) e8) [(0, 0), (1, 1), (2, 2), (3, 3)] (tourref2_cross.c1p a0 a1 a2 a3 y1 y3 y5 y7) (((tourref2_cross.c1_ok k a0 a1 a2 a3 y1 y3 y5 y7).ap e11)) (retP (And.intro (And.intro (And.intro (And.intro (And.intro (And.intro (And.intro (And.intro (And.intro (And.intro (And.intro (And.intro (And.intro (And.intro (And.intro (And.intro (And.intro (And.intro (And.intro (And.intro (And.intro (And.intro (And.intro trivial e12) e14) e15) e15) e15) e15) e15) e15) e15) tt) tt) tt) tt) tt) tt) tt) tt) tt) tt) tt) tt) tt) tt) (.one (.dp T4)) (true : Bool))) (by kernel_rfl)⟩)) (fun e15 =>
    Owp.bnd fun y16 e17 =>
     Owp.bif (fun e18 =>
     Owp.some (⟨[.res (.one (.dp T2)) y1, .res (.one (.dp T2)) y3, .res (.one (.dp T2)) y5, .res (.one (.dp T2)) y7, .cutR 2 ⟨[], [(0, 0), (1, 1), (2, 2), (3, 3)], (tourref2_cross.c1p a0 a1 a2 a3 y1 y3 y5 y7), 4, .normal, (tourref2_cross.c1q a0 a1 a2 a3 y1 y3 y5 y7 o10), 4⟩, .dec false, .res (.one (.dp T4)) y13, .dec false, .dec false, .dec false, .dec false, .dec false, .dec false, .res (.one (.dp T4)) y16, .dec false, .dec true, .dec true, .dec true, .dec true, .dec true, .dec true, .dec true, .dec true, .dec true, .dec true, .dec true, .dec true, .dec true, .dec true, .dec true, .dec true], [], via (cutP (And.intro (And.intro (And.intro (And.intro trivial e2) e4) e6) e8) [(0, 0), (1, 1), (2, 2), (3, 3)] (tourref2_cross.c1p a0 a1 a2 a3 y1 y3 y5 y7) (((tourref2_cross.c1_ok k a0 a1 a2 a3 y1 y3 y5 y7).ap e11)) (retP (And.intro (And.intro (And.intro (And.intro (And.intro (And.intro (And.intro (And.intro (And.intro (And.intro (And.intro (And.intro (And.intro (And.intro (And.intro (And.intro (And.intro (And.intro (And.intro (And.intro (And.intro (And.intro (And.intro trivial e12) e14) e15) e15) e15) e15) e15) (And.intro e15 e17)) e15) e18) e18) e18) e18) e18) e18) e18) tt) tt) tt) tt) tt) tt) tt) (.one (.dp T4)) (true : Bool))) (by kernel_rfl)⟩)) (fun e18 =>
     Owp.bnd fun y19 e20 =>
      Owp.bif (fun e21 =>
      Owp.some (⟨[.res (.one (.dp T2)) y1, .res (.one (.dp T2)) y3, .res (.one (.dp T2)) y5, .res (.one (.dp T2)) y7, .cutR 2 ⟨[], [(0, 0), (1, 1), (2, 2), (3, 3)], (tourref2_cross.c1p a0 a1 a2 a3 y1 y3 y5 y7), 4, .normal, (tourref2_cross.c1q a0 a1 a2 a3 y1 y3 y5 y7 o10), 4⟩, .dec false, .res (.one (.dp T4)) y13, .dec false, .dec false, .dec false, .dec false, .dec false, .dec false, .res (.one (.dp T4)) y16, .dec false, .dec false, .dec false, .dec false, .dec false, .dec false, .dec false, .res (.one (.dp T4)) y19, .dec false, .dec true, .dec true, .dec true, .dec true, .dec true, .dec true, .dec true, .dec true], [], via (cutP (And.intro (And.intro (And.intro (And.intro trivial e2) e4) e6) e8) [(0, 0), (1, 1), (2, 2), (3, 3)] (tourref2_cross.c1p a0 a1 a2 a3 y1 y3 y5 y7) (((tourref2_cross.c1_ok k a0 a1 a2 a3 y1 y3 y5 y7).ap e11)) (retP (And.intro (And.intro (And.intro (And.intro (And.intro (And.intro (And.intro (And.intro (And.intro (And.intro (And.intro (And.intro (And.intro (And.intro (And.intro (And.intro (And.intro (And.intro (And.intro (And.intro (And.intro (And.intro (And.intro trivial e12) e14) e15) e15) e15) e15) e15) (And.intro e15 e17)) e15) e18) e18) e18) e18) e18) (And.intro e18 e20)) e18) e21) e21) e21) e21) e21) e21) e21) (.one (.dp T4)) (true : Bool))) (by kernel_rfl)⟩)) (fun e21 =>
      Owp.bnd fun y22 e23 =>
       Owp.some (⟨[.res (.one (.dp T2)) y1, .res (.one (.dp T2)) y3, .res (.one (.dp T2)) y5, .res (.one (.dp T2)) y7, .cutR 2 ⟨[], [(0, 0), (1, 1), (2, 2), (3, 3)], (tourref2_cross.c1p a0 a1 a2 a3 y1 y3 y5 y7), 4, .normal, (tourref2_cross.c1q a0 a1 a2 a3 y1 y3 y5 y7 o10), 4⟩, .dec false, .res (.one (.dp T4)) y13, .dec false, .dec false, .dec false, .dec false, .dec false, .dec false, .res (.one (.dp T4)) y16, .dec false, .dec false, .dec false, .dec false, .dec false, .dec false, .dec false, .res (.one (.dp T4)) y19, .dec false, .dec false, .dec false, .dec false, .dec false, .dec false, .dec false, .res (.one (.dp T4)) y22, .dec false], [], via (cutP (And.intro (And.intro (And.intro (And.intro trivial e2) e4) e6) e8) [(0, 0), (1, 1), (2, 2), (3, 3)] (tourref2_cross.c1p a0 a1 a2 a3 y1 y3 y5 y7) (((tourref2_cross.c1_ok k a0 a1 a2 a3 y1 y3 y5 y7).ap e11)) (retP (And.intro (And.intro (And.intro (And.intro (And.intro (And.intro (And.intro (And.intro (And.intro (And.intro (And.intro (And.intro (And.intro (And.intro (And.intro (And.intro (And.intro (And.intro (And.intro (And.intro (And.intro (And.intro (And.intro trivial e12) e14) e15) e15) e15) e15) e15) (And.intro e15 e17)) e15) e18) e18) e18) e18) e18) (And.intro e18 e20)) e18) e21) e21) e21) e21) e21) (And.intro e21 e23)) e21) (.one (.dp T4)) (y22 : Bool))) (by kernel_rfl)⟩)))))
theorem tourref2_cross.ok (k : Nat) : FnOk PR 101 (tourref2_cross.sp k) :=
  fn_ok (tourref2_cross.cok k) hmix Try.func101 (code := tourref2_cross.code) (by kernel_rfl) (by kernel_rfl) (by kernel_rfl) rfl rfl (by kernel_rfl) (by kernel_rfl) (by kernel_rfl) (fun x => Nat.le_of_ble_eq_true (by kernel_rfl)) fun x y hy => (tourref2_cross.way k x.1 x.2.1 x.2.2.1 x.2.2.2.1).ap hy

/-! tourney/tourref2.Out -/
noncomputable def tourref2_Out.code : Code := Func.cd Try.f32
def tourref2_Out (k : Nat) (a0 : (List V22)) (a1 : Int) : Option V22 :=
  req (nz (len a0)) <|
  req (inL (irem (iadd .i64 a1 1) (len a0)) a0) <|
  req (inL a1 a0) <|
  bnd (tourref2_sub k (el Z22 a0 (irem (iadd .i64 a1 1) (len a0))) (el Z22 a0 a1)) fun y4 =>
  some (y4.2.1, (ineg .i64 y4.1), ())
noncomputable def tourref2_Out.sp (k : Nat) : Go.Sx.Spec := ⟨(.pair T24 (.pair T2 .unit)), (.one (.dp T22)), fun x => tourref2_Out k x.1 x.2.1, false⟩
noncomputable def tourref2_Out.cx (k : Nat) : Go.Sx.Ctx := ⟨tys, [(102, tourref2_sub.sp k)], eqs, 25, 0, [], false⟩
theorem tourref2_Out.cok (k : Nat) : CtxOk PR (tourref2_Out.cx k) := ctx_ok tysOk eqsOk (FnsOk.cons (tourref2_sub.ok k) FnsOk.nil) HsOk.nil
theorem tourref2_Out.way (k : Nat) (a0 : (List V22)) (a1 : Int) : Owp (tourref2_Out k a0 a1) fun y => ∃ answers cmds, exec PR (tourref2_Out.cx k) tourref2_Out.code 0 (entry (.pair T24 (.pair T2 .unit)) (a0, a1, ())).st answers (Ret (tourref2_Out.cx k) Try.f32 cmds (.one (.dp T22)) y) := by
  unfold tourref2_Out; exact
   Owp.req fun h1 =>
   Owp.req fun h2 =>
   Owp.req fun h3 =>
   Owp.bnd fun y4 e5 =>
   Owp.some (⟨[.res (.one (.dp T22)) y4], [], via (retP (And.intro (And.intro (And.intro (And.intro trivial h1) h2) h3) e5) (.one (.dp T22)) ((y4.2.1, (ineg .i64 y4.1), ()) : V22)) (by kernel_rfl)⟩)
theorem tourref2_Out.ok (k : Nat) : FnOk PR 32 (tourref2_Out.sp k) :=
  fn_ok (tourref2_Out.cok k) hmix Try.func32 (code := tourref2_Out.code) (by kernel_rfl) (by kernel_rfl) (by kernel_rfl) rfl rfl (by kernel_rfl) (by kernel_rfl) (by kernel_rfl) (fun x => Nat.le_of_ble_eq_true (by kernel_rfl)) fun x y hy => (tourref2_Out.way k x.1 x.2.1).ap hy

end Go.Proofs.T1
