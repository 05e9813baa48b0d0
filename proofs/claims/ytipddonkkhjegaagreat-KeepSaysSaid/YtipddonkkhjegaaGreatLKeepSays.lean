/-
  The law KeepSays: whatever the input, it returns true. No condition.
-/
import Derived.Test.YtipddonkkhjegaaGreatPlKeep
import Derived.Test.YtipddonkkhjegaaGreatSxLaw
import Derived.Test.YtipddonkkhjegaaGreatRows
namespace Go.Proofs.YtipddonkkhjegaaGreat
open Go Go.Sx Go.Proofs Go.Proofs.T1 Go.ChangeShapes Go.WideShapes Go.ChangeAt Go.RowKit
theorem tourlaw2_KeepSays_own : ownKnob Tryz.prog.godebug = none := by kernel_rfl
theorem tourlaw2_KeepSays_laidOut : laidOutB Tryz.prog = true := by kernel_rfl
set_option maxRecDepth 100000 in
theorem tourlaw2_KeepSays_lifted (os : Os) (started : os.Started) (H : Type) (enc : TypeId × Value → H) :
    ReturnsInHanded {} Tryz.checked os 4 .any (Rows.keepSaysSpec.pre6 enc Tryz.prog Tryz.f4 Rows.keepSaysRow.domain false) (Rows.keepSaysSpec.post enc Tryz.prog Tryz.f4 false true false false) := by
  refine returnsInHanded_of_change_sized (C := Tryz.checked) tourlaw2_KeepSays_own started (by kernel_rfl) Tryz.func4
    (ChangeSpec.witness6 (enc := enc) (C := Tryz.checked) false ⟨#[], #[.slice none 0 0, .slice none 0 0, .slice none 0 0], []⟩ 8 (by kernel_rfl) (by kernel_rfl) (by kernel_rfl) (by kernel_rfl)) ?_
  intro W base args ds gs before hval0 hW hcnd hsz0 _
  have hval : ∀ (j : Nat) t v, Tryz.f4.params.toList[j]? = some t → args.toList[j]? = some v → Value.okWide Tryz.prog W .any base t v := fun j t v h1 h2 => hval0 j t v (by simpa using h1) (by simpa using h2)
  have hW' := hW
  obtain ⟨p, q, hA0, hV, rfl, hfz, hnd⟩ := hW
  have hA : DataW.TrodAll enc Tryz.prog W 0 (fun _ => true) true Tryz.f4.params.toList args.toList ds p := hA0
  obtain ⟨rfl, rfl⟩ := trodVars_none hV
  obtain ⟨x, hx, hwf⟩ := Aq (ps := (.pair (.slice gH) (.pair (.slice dY) (.pair (.slice dY) .unit)))) (by kernel_rfl) hA hval
  have hA1 := hA
  obtain ⟨v0, vs0, d0, ds0, p0, q0, -, rfl, rfl, h0, r0⟩ := trodAll_cons hA1
  obtain ⟨v1, vs1, d1, ds1, p1, q1, -, rfl, rfl, h1, r1⟩ := trodAll_cons r0
  obtain ⟨v2, vs2, d2, ds2, p2, q2, -, rfl, rfl, h2, r2⟩ := trodAll_cons r1
  obtain ⟨-, rfl, rfl⟩ := trodAll_nil r2
  clear hA0 hval0 hsz0
  obtain ⟨k, hk⟩ := kC x hwf
  refine (AS (code := ae.code) Tryz.func4 (by kernel_rfl) (by kernel_rfl) (ae.ok k) rfl rfl hx hk HEq.rfl).mono fun e W' ⟨he, bel⟩ => ?_
  subst he
  exact ⟨_, rfl, _, _, _, [], _, [], hW', trodAll_mk1 (shut_bool Tryz.underlying4 _), rl tourlaw2_KeepSays_laidOut bel (of_decide_eq_true (by kernel_rfl)) hA, rfl, bel.frame _, fun h => by cases h⟩
theorem tourlaw2_KeepSays_over : Rows.keepSaysRow.holds Tryz.pinned (OpenSpec.ofChange Rows.keepSaysSpec) :=
  OpenClaim.holds_of_wide 4 Tryz.f4 rfl rfl rfl rfl rfl rfl rfl ⟨rfl, rfl, rfl, rfl, rfl⟩ rfl rfl rfl rfl rfl (by kernel_rfl) Tryz.func4 (by kernel_rfl)
    (of_decide_eq_true (by kernel_rfl)) (by unfold Func.isWrapper; first | (rw [if_pos (by decide +kernel)]; kernel_rfl) | (rw [if_neg (by decide +kernel)]; exact ⟨rfl, rfl⟩))
    (fun os started H enc _ => tourlaw2_KeepSays_lifted os started H enc)
theorem keepSays_holds : Rows.KeepSaysSaid := tourlaw2_KeepSays_over
end Go.Proofs.YtipddonkkhjegaaGreat
