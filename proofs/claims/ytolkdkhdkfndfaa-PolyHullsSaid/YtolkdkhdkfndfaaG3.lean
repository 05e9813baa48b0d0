import Derived.Test.YtolkdkhdkfndfaaG0
import Derived.Test.YtolkdkhdkfndfaaG1
import Derived.Test.YtolkdkhdkfndfaaG2
namespace Go.Proofs.T1
open Go Go.Sx Go.Proofs
set_option maxRecDepth 100000
set_option linter.unusedVariables false
/-! tourney/tourlaw2.square -/
noncomputable def tourlaw2_square.code : Code := Func.cd Try.f15
noncomputable def tourlaw2_square (k : Nat) (a0 : Int) (a1 : Int) (a2 : Int) : Option (List V27) :=
  some [((imul .i64 a0 65536), (imul .i64 a1 65536), ()), ((iadd .i64 (imul .i64 a0 65536) (imul .i64 a2 65536)), (imul .i64 a1 65536), ()), ((iadd .i64 (imul .i64 a0 65536) (imul .i64 a2 65536)), (iadd .i64 (imul .i64 a1 65536) (imul .i64 a2 65536)), ()), ((imul .i64 a0 65536), (iadd .i64 (imul .i64 a1 65536) (imul .i64 a2 65536)), ())]
noncomputable def tourlaw2_square.sp (k : Nat) : Go.Sx.Spec := ⟨(.pair T2 T27), (.one (.ow T27 28)), fun x => tourlaw2_square k x.1 x.2.1 x.2.2.1, false⟩
noncomputable def tourlaw2_square.cx (k : Nat) : Go.Sx.Ctx := ⟨tys, [], eqs, 34, 0, [], false⟩
theorem tourlaw2_square.cok (k : Nat) : CtxOk PR (tourlaw2_square.cx k) := ctx_ok tysOk eqsOk FnsOk.nil HsOk.nil
theorem tourlaw2_square.way (k : Nat) (a0 : Int) (a1 : Int) (a2 : Int) : Owp (tourlaw2_square k a0 a1 a2) fun y => ∃ answers cmds, exec PR (tourlaw2_square.cx k) tourlaw2_square.code 0 (entry (.pair T2 T27) (a0, a1, a2, ())).st answers (Ret (tourlaw2_square.cx k) Try.f15 cmds (.one (.ow T27 28)) y) := by
  unfold tourlaw2_square; exact
   Owp.some (⟨[.dec true], [], via (retP trivial (.one (.ow T27 28)) ([((imul .i64 a0 (65536 : Int)), (imul .i64 a1 (65536 : Int)), ()), ((iadd .i64 (imul .i64 a0 (65536 : Int)) (imul .i64 a2 (65536 : Int))), (imul .i64 a1 (65536 : Int)), ()), ((iadd .i64 (imul .i64 a0 (65536 : Int)) (imul .i64 a2 (65536 : Int))), (iadd .i64 (imul .i64 a1 (65536 : Int)) (imul .i64 a2 (65536 : Int))), ()), ((imul .i64 a0 (65536 : Int)), (iadd .i64 (imul .i64 a1 (65536 : Int)) (imul .i64 a2 (65536 : Int))), ())] : (List V27))) (by kernel_rfl)⟩)
theorem tourlaw2_square.ok (k : Nat) : FnOk PR 15 (tourlaw2_square.sp k) :=
  fn_ok (tourlaw2_square.cok k) hmix Try.func15 (code := tourlaw2_square.code) (by kernel_rfl) (by kernel_rfl) (by kernel_rfl) rfl rfl (by kernel_rfl) (by kernel_rfl) (by kernel_rfl) (fun x => Nat.le_of_ble_eq_true (by kernel_rfl)) fun x y hy => (tourlaw2_square.way k x.1 x.2.1 x.2.2.1).ap hy

/-! tourney/tourlaw2.PolyHulls -/
noncomputable def tourlaw2_PolyHulls.code : Code := Func.cd Try.f3
noncomputable def tourlaw2_PolyHulls.c1 (k : Nat) (y4 : ((List V27) × Int)) : Option (Bool) :=
  bif' (ine y4.2 0)
  (some true)
  (bnd (tourlaw2_square k 0 0 2) fun y7 =>
   bnd (slices_Equal k y4.1 y7) fun y9 =>
   some (!y9))
noncomputable def tourlaw2_PolyHulls (k : Nat) (a0 : (List V27)) : Option Bool :=
  bnd (tourlaw2_square k 0 0 2) fun y1 =>
  req (room 16 y1 [(5, 5, ())]) <|
  bnd (poly_Hull k (y1 ++ [(5, 5, ())])) fun y4 =>
  bnd (tourlaw2_PolyHulls.c1 k y4) fun o11 =>
  bif' o11
  (some false)
  (bnd (poly_Hull k a0) fun y14 =>
   bnd (tourref2_Hull k a0) fun y16 =>
   bif' (ieq y14.2 y16.2)
   (bnd (slices_Equal k y14.1 y16.1) fun y19 =>
    some y19)
   (some false))
noncomputable def tourlaw2_PolyHulls.sp (k : Nat) : Go.Sx.Spec := ⟨(.pair T22 .unit), (.one (.dp T4)), fun x => tourlaw2_PolyHulls k x.1, false⟩
noncomputable def tourlaw2_PolyHulls.cx (k : Nat) : Go.Sx.Ctx := ⟨tys, [(15, tourlaw2_square.sp k), (14, poly_Hull.sp k), (16, slices_Equal.sp k), (17, tourref2_Hull.sp k)], eqs, 43, 0, [], false⟩
theorem tourlaw2_PolyHulls.cok (k : Nat) : CtxOk PR (tourlaw2_PolyHulls.cx k) := ctx_ok tysOk eqsOk (FnsOk.cons (tourlaw2_square.ok k) (FnsOk.cons (poly_Hull.ok k) (FnsOk.cons (slices_Equal.ok k) (FnsOk.cons (tourref2_Hull.ok k) FnsOk.nil)))) HsOk.nil
noncomputable def tourlaw2_PolyHulls.c1p (a0 : (List V27)) (y4 : ((List V27) × Int)) : SL := ⟨[(0, (.val T22 a0)), (3, (.val .own (0 : Nat))), (4, (.val T2 y4.2))], [(0, .row T27 y4.1 28)]⟩
noncomputable def tourlaw2_PolyHulls.c1q (a0 : (List V27)) (o : Bool) : SL := (fun v => ⟨[(0, (.val T22 a0)), (24, (.val T4 v))], []⟩) o
noncomputable def tourlaw2_PolyHulls.c1x (o : Bool) : Ex := (fun _ => .normal) o
noncomputable def tourlaw2_PolyHulls.c1n (o : Bool) : Nat := (fun _ => 0) o
theorem tourlaw2_PolyHulls.c1_ok (k : Nat) (a0 : (List V27)) (y4 : ((List V27) × Int)) : Owp (tourlaw2_PolyHulls.c1 k y4) fun o => Triple PR (tourlaw2_PolyHulls.cx k) (sub tourlaw2_PolyHulls.code [1, 0, 1, 0]) 1 (tourlaw2_PolyHulls.c1p a0 y4) (tourlaw2_PolyHulls.c1x o) (tourlaw2_PolyHulls.c1n o) (tourlaw2_PolyHulls.c1q a0 o) := by
  unfold tourlaw2_PolyHulls.c1; exact
   Owp.bif (fun e6 =>
   Owp.some (triple_way (tourlaw2_PolyHulls.cok k) hmix [.dec true, .dec true, .dec true, .dec true, .dec true, .dec true, .dec true] [] [] (via (finP (And.intro (And.intro (And.intro (And.intro (And.intro trivial e6) e6) e6) e6) e6) .normal [] (tourlaw2_PolyHulls.c1q a0 true)) (by kernel_rfl)))) (fun e6 =>
   Owp.bnd fun y7 e8 =>
    Owp.bnd fun y9 e10 =>
    Owp.some (triple_way (tourlaw2_PolyHulls.cok k) hmix [.dec false, .dec false, .res (.one (.ow T27 28)) y7, .dec false, .res (.one (.dp T4)) y9, .dec false, .dec false] [] [] (via (finP (And.intro (And.intro (And.intro (And.intro (And.intro trivial e6) (And.intro e6 e8)) (And.intro e6 e10)) e6) e6) .normal [] (tourlaw2_PolyHulls.c1q a0 (!y9))) (by kernel_rfl))))
theorem tourlaw2_PolyHulls.way (k : Nat) (a0 : (List V27)) : Owp (tourlaw2_PolyHulls k a0) fun y => ∃ answers cmds, exec PR (tourlaw2_PolyHulls.cx k) tourlaw2_PolyHulls.code 0 (entry (.pair T22 .unit) (a0, ())).st answers (Ret (tourlaw2_PolyHulls.cx k) Try.f3 cmds (.one (.dp T4)) y) := by
  unfold tourlaw2_PolyHulls; exact
   Owp.bnd fun y1 e2 =>
   Owp.req fun h3 =>
   Owp.bnd fun y4 e5 =>
   Owp.bnd fun o11 e12 =>
   Owp.bif (fun e13 =>
   Owp.some (⟨[.res (.one (.ow T27 28)) y1, .dec true, .res (.more (.ow T27 28) (.one (.dp T2))) y4, .cutR 2 ⟨[], [(0, 5)], (tourlaw2_PolyHulls.c1p a0 y4), 1, .normal, (tourlaw2_PolyHulls.c1q a0 o11), 0⟩, .dec true], [], via (cutP (And.intro (And.intro (And.intro trivial e2) h3) e5) [(0, 5)] (tourlaw2_PolyHulls.c1p a0 y4) (((tourlaw2_PolyHulls.c1_ok k a0 y4).ap e12)) (retP (And.intro trivial e13) (.one (.dp T4)) (false : Bool))) (by kernel_rfl)⟩)) (fun e13 =>
   Owp.bnd fun y14 e15 =>
    Owp.bnd fun y16 e17 =>
    Owp.bif (fun e18 =>
    Owp.bnd fun y19 e20 =>
     Owp.some (⟨[.res (.one (.ow T27 28)) y1, .dec true, .res (.more (.ow T27 28) (.one (.dp T2))) y4, .cutR 2 ⟨[], [(0, 5)], (tourlaw2_PolyHulls.c1p a0 y4), 1, .normal, (tourlaw2_PolyHulls.c1q a0 o11), 0⟩, .dec false, .res (.more (.ow T27 28) (.one (.dp T2))) y14, .res (.more (.ow T27 28) (.one (.dp T2))) y16, .dec true, .dec true, .dec true, .res (.one (.dp T4)) y19, .dec true], [], via (cutP (And.intro (And.intro (And.intro trivial e2) h3) e5) [(0, 5)] (tourlaw2_PolyHulls.c1p a0 y4) (((tourlaw2_PolyHulls.c1_ok k a0 y4).ap e12)) (retP (And.intro (And.intro (And.intro (And.intro (And.intro (And.intro (And.intro trivial e13) e15) e17) e18) e18) (And.intro e18 e20)) e18) (.one (.dp T4)) (y19 : Bool))) (by kernel_rfl)⟩)) (fun e18 =>
    Owp.some (⟨[.res (.one (.ow T27 28)) y1, .dec true, .res (.more (.ow T27 28) (.one (.dp T2))) y4, .cutR 2 ⟨[], [(0, 5)], (tourlaw2_PolyHulls.c1p a0 y4), 1, .normal, (tourlaw2_PolyHulls.c1q a0 o11), 0⟩, .dec false, .res (.more (.ow T27 28) (.one (.dp T2))) y14, .res (.more (.ow T27 28) (.one (.dp T2))) y16, .dec false, .dec false, .dec false, .dec true, .dec false], [], via (cutP (And.intro (And.intro (And.intro trivial e2) h3) e5) [(0, 5)] (tourlaw2_PolyHulls.c1p a0 y4) (((tourlaw2_PolyHulls.c1_ok k a0 y4).ap e12)) (retP (And.intro (And.intro (And.intro (And.intro (And.intro (And.intro (And.intro trivial e13) e15) e17) e18) e18) e18) e18) (.one (.dp T4)) (false : Bool))) (by kernel_rfl)⟩)))
theorem tourlaw2_PolyHulls.ok (k : Nat) : FnOk PR 3 (tourlaw2_PolyHulls.sp k) :=
  fn_ok (tourlaw2_PolyHulls.cok k) hmix Try.func3 (code := tourlaw2_PolyHulls.code) (by kernel_rfl) (by kernel_rfl) (by kernel_rfl) rfl rfl (by kernel_rfl) (by kernel_rfl) (by kernel_rfl) (fun x => Nat.le_of_ble_eq_true (by kernel_rfl)) fun x y hy => (tourlaw2_PolyHulls.way k x.1).ap hy

end Go.Proofs.T1
