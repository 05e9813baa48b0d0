import Derived.Test.YtddbhngnhegndaaG0
import Derived.Test.YtddbhngnhegndaaG3
import Derived.Test.YtddbhngnhegndaaG4
namespace Go.Proofs.T1
open Go Go.Sx Go.Proofs
set_option maxRecDepth 100000
set_option linter.unusedVariables false
/-! tourney/tourkeep2.tests -/
noncomputable def tourkeep2_tests.code : Code := Func.cd Try.f9
def tourkeep2_tests (k : Nat) : Option Bool :=
  bnd (tourkeep2_square k 0 0 2) fun y1 =>
  bnd (tourkeep2_square k 3 1 2) fun y3 =>
  bnd (sat_Test k y1 y3) fun y5 =>
  bnd (tourkeep2_square k 0 0 1) fun y7 =>
  bnd (tourkeep2_square k 5 6 1) fun y9 =>
  bnd (near_Apart k y7 y9) fun y11 =>
  bif' y5.1
  (bif' (ieq y5.2.1 65536)
   (bif' (Ty.eqb T28 y5.2.2 ((65536 : Int), (0 : Int), ()))
    (bif' (ieq y11.2 0)
     (some (ieq y11.1 327680))
     (some false))
    (some false))
   (some false))
  (some false)
noncomputable def tourkeep2_tests.sp (k : Nat) : Go.Sx.Spec := ⟨.unit, (.one (.dp T4)), fun x => tourkeep2_tests k, false⟩
noncomputable def tourkeep2_tests.cx (k : Nat) : Go.Sx.Ctx := ⟨tys, [(8, tourkeep2_square.sp k), (7, sat_Test.sp k), (33, near_Apart.sp k)], eqs, 37, false⟩
theorem tourkeep2_tests.cok (k : Nat) : CtxOk PR (tourkeep2_tests.cx k) := ctx_ok tysOk eqsOk (FnsOk.cons (tourkeep2_square.ok k) (FnsOk.cons (sat_Test.ok k) (FnsOk.cons (near_Apart.ok k) FnsOk.nil)))
theorem tourkeep2_tests.way (k : Nat) : Owp (tourkeep2_tests k) fun y => ∃ answers cmds, exec PR (tourkeep2_tests.cx k) tourkeep2_tests.code 0 (entry .unit ()).st answers (Ret (tourkeep2_tests.cx k) Try.f9 cmds (.one (.dp T4)) y) := by
  unfold tourkeep2_tests; exact
   Owp.bnd fun y1 e2 =>
   Owp.bnd fun y3 e4 =>
   Owp.bnd fun y5 e6 =>
   Owp.bnd fun y7 e8 =>
   Owp.bnd fun y9 e10 =>
   Owp.bnd fun y11 e12 =>
   Owp.bif (fun e13 =>
   Owp.bif (fun e14 =>
    Owp.bif (fun e15 =>
     Owp.bif (fun e16 =>
      Owp.some (⟨[.res (.one (.ow T28 29)) y1, .res (.one (.ow T28 29)) y3, .res (.more (.dp T4) (.more (.dp T2) (.one (.dp T28)))) y5, .res (.one (.ow T28 29)) y7, .res (.one (.ow T28 29)) y9, .res (.more (.dp T2) (.one (.dp T2))) y11, .dec true, .dec true, .dec true, .dec true, .dec true, .dec true, .dec true, .dec true, .dec true, .dec true, .dec true, .dec true, .dec true], [], via (retP (And.intro (And.intro (And.intro (And.intro (And.intro (And.intro (And.intro (And.intro (And.intro (And.intro (And.intro (And.intro (And.intro (And.intro (And.intro (And.intro (And.intro (And.intro (And.intro trivial e2) e4) e6) e8) e10) e12) e13) e13) e13) e14) e14) e14) e14) e15) e15) e15) e16) e16) e16) (.one (.dp T4)) ((ieq y11.1 (327680 : Int)) : Bool)) (by kernel_rfl)⟩)) (fun e16 =>
      Owp.some (⟨[.res (.one (.ow T28 29)) y1, .res (.one (.ow T28 29)) y3, .res (.more (.dp T4) (.more (.dp T2) (.one (.dp T28)))) y5, .res (.one (.ow T28 29)) y7, .res (.one (.ow T28 29)) y9, .res (.more (.dp T2) (.one (.dp T2))) y11, .dec true, .dec true, .dec true, .dec true, .dec true, .dec true, .dec true, .dec true, .dec true, .dec true, .dec false, .dec false, .dec false], [], via (retP (And.intro (And.intro (And.intro (And.intro (And.intro (And.intro (And.intro (And.intro (And.intro (And.intro (And.intro (And.intro (And.intro (And.intro (And.intro (And.intro (And.intro (And.intro (And.intro trivial e2) e4) e6) e8) e10) e12) e13) e13) e13) e14) e14) e14) e14) e15) e15) e15) e16) e16) e16) (.one (.dp T4)) (false : Bool)) (by kernel_rfl)⟩))) (fun e15 =>
     Owp.some (⟨[.res (.one (.ow T28 29)) y1, .res (.one (.ow T28 29)) y3, .res (.more (.dp T4) (.more (.dp T2) (.one (.dp T28)))) y5, .res (.one (.ow T28 29)) y7, .res (.one (.ow T28 29)) y9, .res (.more (.dp T2) (.one (.dp T2))) y11, .dec true, .dec true, .dec true, .dec true, .dec true, .dec true, .dec true, .dec false, .dec false, .dec false, .dec false, .dec false, .dec false], [], via (retP (And.intro (And.intro (And.intro (And.intro (And.intro (And.intro (And.intro (And.intro (And.intro (And.intro (And.intro (And.intro (And.intro (And.intro (And.intro (And.intro (And.intro (And.intro (And.intro trivial e2) e4) e6) e8) e10) e12) e13) e13) e13) e14) e14) e14) e14) e15) e15) e15) ff) ff) ff) (.one (.dp T4)) (false : Bool)) (by kernel_rfl)⟩))) (fun e14 =>
    Owp.some (⟨[.res (.one (.ow T28 29)) y1, .res (.one (.ow T28 29)) y3, .res (.more (.dp T4) (.more (.dp T2) (.one (.dp T28)))) y5, .res (.one (.ow T28 29)) y7, .res (.one (.ow T28 29)) y9, .res (.more (.dp T2) (.one (.dp T2))) y11, .dec true, .dec true, .dec true, .dec false, .dec false, .dec false, .dec false, .dec false, .dec false, .dec false, .dec false, .dec false, .dec false], [], via (retP (And.intro (And.intro (And.intro (And.intro (And.intro (And.intro (And.intro (And.intro (And.intro (And.intro (And.intro (And.intro (And.intro (And.intro (And.intro (And.intro (And.intro (And.intro (And.intro trivial e2) e4) e6) e8) e10) e12) e13) e13) e13) e14) e14) e14) e14) ff) ff) ff) ff) ff) ff) (.one (.dp T4)) (false : Bool)) (by kernel_rfl)⟩))) (fun e13 =>
   Owp.some (⟨[.res (.one (.ow T28 29)) y1, .res (.one (.ow T28 29)) y3, .res (.more (.dp T4) (.more (.dp T2) (.one (.dp T28)))) y5, .res (.one (.ow T28 29)) y7, .res (.one (.ow T28 29)) y9, .res (.more (.dp T2) (.one (.dp T2))) y11, .dec false, .dec false, .dec false, .dec false, .dec false, .dec false, .dec false, .dec false, .dec false, .dec false, .dec false, .dec false, .dec false], [], via (retP (And.intro (And.intro (And.intro (And.intro (And.intro (And.intro (And.intro (And.intro (And.intro (And.intro (And.intro (And.intro (And.intro (And.intro (And.intro (And.intro (And.intro (And.intro (And.intro trivial e2) e4) e6) e8) e10) e12) e13) e13) e13) ff) ff) ff) ff) ff) ff) ff) ff) ff) ff) (.one (.dp T4)) (false : Bool)) (by kernel_rfl)⟩))
theorem tourkeep2_tests.ok (k : Nat) : FnOk PR 9 (tourkeep2_tests.sp k) :=
  fn_ok (tourkeep2_tests.cok k) hmix Try.func9 (code := tourkeep2_tests.code) (by kernel_rfl) (by kernel_rfl) (by kernel_rfl) rfl (by kernel_rfl) (by kernel_rfl) (by kernel_rfl) (fun x => Nat.le_of_ble_eq_true (by kernel_rfl)) fun x y hy => (tourkeep2_tests.way k).ap hy

end Go.Proofs.T1
