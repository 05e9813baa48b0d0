import Derived.Test.YtolkdkhdkfndfaaG0
namespace Go.Proofs.T1
open Go Go.Sx Go.Proofs
set_option maxRecDepth 100000
set_option linter.unusedVariables false
/-! tourney/tourmake.Below -/
noncomputable def tourmake_Below.code : Code := Func.cd Try.f82
def tourmake_Below (k : Nat) (a0 : Int) (a1 : Int) : Option Int :=
  req (nz a1) <|
  bif' (ilt (irem a0 a1) 0)
  (some (iadd .i64 (irem a0 a1) a1))
  (some (irem a0 a1))
noncomputable def tourmake_Below.sp (k : Nat) : Go.Sx.Spec := ⟨T27, (.one (.dp T2)), fun x => tourmake_Below k x.1 x.2.1, false⟩
noncomputable def tourmake_Below.cx (k : Nat) : Go.Sx.Ctx := ⟨tys, [], eqs, 14, 0, [], false⟩
theorem tourmake_Below.cok (k : Nat) : CtxOk PR (tourmake_Below.cx k) := ctx_ok tysOk eqsOk FnsOk.nil HsOk.nil
theorem tourmake_Below.way (k : Nat) (a0 : Int) (a1 : Int) : Owp (tourmake_Below k a0 a1) fun y => ∃ answers cmds, exec PR (tourmake_Below.cx k) tourmake_Below.code 0 (entry T27 (a0, a1, ())).st answers (Ret (tourmake_Below.cx k) Try.f82 cmds (.one (.dp T2)) y) := by
  unfold tourmake_Below; exact
   Owp.req fun h1 =>
   Owp.bif (fun e2 =>
   Owp.some (⟨[.dec true], [], via (retP (And.intro (And.intro trivial h1) e2) (.one (.dp T2)) ((iadd .i64 (irem a0 a1) a1) : Int)) (by kernel_rfl)⟩)) (fun e2 =>
   Owp.some (⟨[.dec false], [], via (retP (And.intro (And.intro trivial h1) e2) (.one (.dp T2)) ((irem a0 a1) : Int)) (by kernel_rfl)⟩))
theorem tourmake_Below.ok (k : Nat) : FnOk PR 82 (tourmake_Below.sp k) :=
  fn_ok (tourmake_Below.cok k) hmix Try.func82 (code := tourmake_Below.code) (by kernel_rfl) (by kernel_rfl) (by kernel_rfl) rfl rfl (by kernel_rfl) (by kernel_rfl) (by kernel_rfl) (fun x => Nat.le_of_ble_eq_true (by kernel_rfl)) fun x y hy => (tourmake_Below.way k x.1 x.2.1).ap hy

/-! tourney/tourkeep2.place -/
noncomputable def tourkeep2_place.code : Code := Func.cd Try.f18
def tourkeep2_place (k : Nat) (a0 : Int) (a1 : Int) : Option V27 :=
  bnd (tourmake_Below k a0 1572864) fun y1 =>
  bnd (tourmake_Below k a1 1572864) fun y3 =>
  some ((isub .i64 y1 786432), (isub .i64 y3 786432), ())
noncomputable def tourkeep2_place.sp (k : Nat) : Go.Sx.Spec := ⟨T27, (.one (.dp T27)), fun x => tourkeep2_place k x.1 x.2.1, false⟩
noncomputable def tourkeep2_place.cx (k : Nat) : Go.Sx.Ctx := ⟨tys, [(82, tourmake_Below.sp k)], eqs, 12, 0, [], false⟩
theorem tourkeep2_place.cok (k : Nat) : CtxOk PR (tourkeep2_place.cx k) := ctx_ok tysOk eqsOk (FnsOk.cons (tourmake_Below.ok k) FnsOk.nil) HsOk.nil
theorem tourkeep2_place.way (k : Nat) (a0 : Int) (a1 : Int) : Owp (tourkeep2_place k a0 a1) fun y => ∃ answers cmds, exec PR (tourkeep2_place.cx k) tourkeep2_place.code 0 (entry T27 (a0, a1, ())).st answers (Ret (tourkeep2_place.cx k) Try.f18 cmds (.one (.dp T27)) y) := by
  unfold tourkeep2_place; exact
   Owp.bnd fun y1 e2 =>
   Owp.bnd fun y3 e4 =>
   Owp.some (⟨[.res (.one (.dp T2)) y1, .res (.one (.dp T2)) y3], [], via (retP (And.intro (And.intro trivial e2) e4) (.one (.dp T27)) (((isub .i64 y1 (786432 : Int)), (isub .i64 y3 (786432 : Int)), ()) : V27)) (by kernel_rfl)⟩)
theorem tourkeep2_place.ok (k : Nat) : FnOk PR 18 (tourkeep2_place.sp k) :=
  fn_ok (tourkeep2_place.cok k) hmix Try.func18 (code := tourkeep2_place.code) (by kernel_rfl) (by kernel_rfl) (by kernel_rfl) rfl rfl (by kernel_rfl) (by kernel_rfl) (by kernel_rfl) (fun x => Nat.le_of_ble_eq_true (by kernel_rfl)) fun x y hy => (tourkeep2_place.way k x.1 x.2.1).ap hy

end Go.Proofs.T1
