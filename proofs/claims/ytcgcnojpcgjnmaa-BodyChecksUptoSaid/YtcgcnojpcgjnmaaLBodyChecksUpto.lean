/-
  The law BodyChecks: it returns true for every input of bulk at most 1048576.
-/
import Derived.Test.YtcgcnojpcgjnmaaPlChecks
import Derived.Test.YtcgcnojpcgjnmaaSxUpto
import Derived.Test.YtcgcnojpcgjnmaaRows
namespace Go.Proofs.Ytcgcnojpcgjnmaa
open Go Go.Sx Go.Proofs Go.Proofs.T1 Go.ChangeShapes Go.WideShapes Go.ChangeAt Go.RowKit
theorem tourlaw2_BodyChecks_own : ownKnob Try.prog.godebug = none := by kernel_rfl
theorem tourlaw2_BodyChecks_laidOut : laidOutB Try.prog = true := by kernel_rfl
set_option maxRecDepth 100000 in
theorem tourlaw2_BodyChecks_lifted (os : Os) (started : os.Started) (H : Type) (enc : TypeId × Value → H) (F : Stop.Interp) :
    ReturnsInHanded {} Try.checked os 6 .any ((Rows.OpenSpec.upto Rows.bodyChecksSpec).pre6 enc Try.prog Try.f6 Rows.bodyChecksUptoRow.domain false) (((Rows.OpenSpec.upto Rows.bodyChecksSpec).at F).post enc Try.prog Try.f6 false true false false) := by
  refine returnsInHanded_of_cond (C := Try.checked) (s := Rows.OpenSpec.upto Rows.bodyChecksSpec) (k := Rows.uptoSmall) rfl tourlaw2_BodyChecks_own started (by kernel_rfl) Try.func6
    (OpenSpec.witness (enc := enc) (C := Try.checked) (s := Rows.OpenSpec.upto Rows.bodyChecksSpec) (k := Rows.uptoSmall) rfl false ⟨#[], #[.agg #[.int .i64 0, .int .i64 0, .int .i64 0, .int .i64 0, .int .i64 0, .int .i64 0, .int .i64 0, .int .i64 0, .int .i64 0, .int .i64 0, .slice none 0 0, .bool false, .int .i64 0], .int .i64 0], []⟩ 8 (by kernel_rfl) (by kernel_rfl) (by kernel_rfl)
      (x := ([.agg [.agg [.lit (.int .i64 0), .lit (.int .i64 0)], .agg [.lit (.int .i64 0), .lit (.int .i64 0)], .lit (.int .i64 0), .lit (.int .i64 0), .lit (.int .i64 0), .lit (.int .i64 0), .lit (.int .i64 0), .lit (.int .i64 0), .nil, .lit (.bool false), .lit (.int .i64 0)], .lit (.int .i64 0)], [], [])) (by kernel_rfl) rfl (by kernel_rfl)) ?_
  intro W base args ds gs before hval0 hW hcnd hbulk _
  have C : Calls Try.prog 6 args W fun e W' => ∃ v, e = .returned v ∧ Rows.bodyChecksSpec.post enc Try.prog Try.f6 false true false false W args v W' := by
    have hval : ∀ (j : Nat) t v, Try.f6.params.toList[j]? = some t → args.toList[j]? = some v → Value.okWide Try.prog W .any base t v := fun j t v h1 h2 => hval0 j t v (by simpa using h1) (by simpa using h2)
    have hW' := hW
    obtain ⟨p, q, hA0, hV, rfl, hfz, hnd⟩ := hW
    have hA : DataW.TrodAll enc Try.prog W 0 (fun _ => true) true Try.f6.params.toList args.toList ds p := hA0
    obtain ⟨rfl, rfl⟩ := trodVars_none hV
    have hb : Rows.uptoBulkAll ds ≤ 1048576 := by
      have h := of_decide_eq_true hbulk
      rw [List.append_nil] at h
      exact h
    obtain ⟨x, hx, hwf, hsh⟩ := args_short (ps := (.pair T25 (.pair T2 .unit))) (by kernel_rfl) hA hval
    have hA1 := hA
    obtain ⟨v0, vs0, d0, ds0, p0, q0, -, rfl, rfl, h0, r0⟩ := trodAll_cons hA1
    obtain ⟨v1, vs1, d1, ds1, p1, q1, -, rfl, rfl, h1, r1⟩ := trodAll_cons r0
    obtain ⟨-, rfl, rfl⟩ := trodAll_nil r1
    clear hA0 hval0
    obtain ⟨k, hk⟩ := tourlaw2_BodyChecks_plain x (fun l h => h ▸ Nat.le_trans hsh.1.2.2.2.2.2.2.2.2.1.1 hb)
    refine (law_bool (code := tourlaw2_BodyChecks.code) Try.func6 (by kernel_rfl) (by kernel_rfl) (tourlaw2_BodyChecks.ok k) rfl rfl hx hk HEq.rfl).mono fun e W' ⟨he, bel⟩ => ?_
    subst he
    exact ⟨_, rfl, _, _, _, [], _, [], hW', trodAll_mk1 (shut_bool Try.underlying4 _), trodAll_below tourlaw2_BodyChecks_laidOut bel (of_decide_eq_true (by kernel_rfl)) hA, rfl, bel.frame _, fun h => by cases h⟩
  exact C
theorem tourlaw2_BodyChecks_over : Rows.bodyChecksUptoRow.holds Try.pinned (Rows.OpenSpec.upto Rows.bodyChecksSpec) :=
  OpenClaim.holds_of_cond 6 Try.f6 rfl rfl rfl rfl rfl rfl rfl ⟨rfl, rfl, rfl, rfl, rfl⟩ rfl rfl rfl rfl rfl (by kernel_rfl) Try.func6 (by kernel_rfl)
    (of_decide_eq_true (by kernel_rfl)) (by unfold Func.isWrapper; first | (rw [if_pos (by decide +kernel)]; kernel_rfl) | (rw [if_neg (by decide +kernel)]; exact ⟨rfl, rfl⟩))
    (fun os started H enc _ F => tourlaw2_BodyChecks_lifted os started H enc F)
theorem bodyChecksUpto_holds : Rows.BodyChecksUptoSaid := tourlaw2_BodyChecks_over
end Go.Proofs.Ytcgcnojpcgjnmaa
