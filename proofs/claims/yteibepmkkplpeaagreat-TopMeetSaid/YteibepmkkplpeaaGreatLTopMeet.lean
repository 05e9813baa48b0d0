/-
  The law TopMeet: whatever the input, it returns true. No condition.
-/
import Derived.Test.YteibepmkkplpeaaGreatPlTop
import Derived.Test.YteibepmkkplpeaaGreatSxLaw
import Derived.Test.YteibepmkkplpeaaGreatRows
namespace Go.Proofs.YteibepmkkplpeaaGreat
open Go Go.Sx Go.Proofs Go.Proofs.T1 Go.ChangeShapes Go.WideShapes Go.ChangeAt Go.RowKit
theorem tourtop_TopMeet_own : ownKnob Tryz.prog.godebug = none := by kernel_rfl
theorem tourtop_TopMeet_laidOut : laidOutB Tryz.prog = true := by kernel_rfl
set_option maxRecDepth 100000 in
theorem tourtop_TopMeet_lifted (os : Os) (started : os.Started) (H : Type) (enc : TypeId × Value → H) :
    ReturnsInHanded {} Tryz.checked os 6 .any (Rows.topMeetSpec.pre6 enc Tryz.prog Tryz.f6 Rows.topMeetRow.domain false) (Rows.topMeetSpec.post enc Tryz.prog Tryz.f6 false true false false) := by
  refine returnsInHanded_of_change_sized (C := Tryz.checked) tourtop_TopMeet_own started (by kernel_rfl) Tryz.func6
    (ChangeSpec.witness6 (enc := enc) (C := Tryz.checked) false ⟨#[], #[.slice none 0 0, .slice none 0 0], []⟩ 8 (by kernel_rfl) (by kernel_rfl) (by kernel_rfl) (by kernel_rfl)) ?_
  intro W base args ds gs before hval0 hW hcnd hsz0 _
  have hval : ∀ (j : Nat) t v, Tryz.f6.params.toList[j]? = some t → args.toList[j]? = some v → Value.okWide Tryz.prog W .any base t v := fun j t v h1 h2 => hval0 j t v (by simpa using h1) (by simpa using h2)
  have hW' := hW
  obtain ⟨p, q, hA0, hV, rfl, hfz, hnd⟩ := hW
  have hA : DataW.TrodAll enc Tryz.prog W 0 (fun _ => true) true Tryz.f6.params.toList args.toList ds p := hA0
  obtain ⟨rfl, rfl⟩ := trodVars_none hV
  obtain ⟨x, hx, hwf⟩ := Ai (ps := (.pair gV (.pair gV .unit))) (by kernel_rfl) hA hval
  have hA1 := hA
  obtain ⟨v0, vs0, d0, ds0, p0, q0, -, rfl, rfl, h0, r0⟩ := trodAll_cons hA1
  obtain ⟨v1, vs1, d1, ds1, p1, q1, -, rfl, rfl, h1, r1⟩ := trodAll_cons r0
  obtain ⟨-, rfl, rfl⟩ := trodAll_nil r1
  clear hA0 hval0 hsz0
  obtain ⟨k, hk⟩ := lH x hwf
  refine (A6 (code := aD.code) Tryz.func6 (by kernel_rfl) (by kernel_rfl) (aD.ok k) rfl rfl hx hk HEq.rfl).mono fun e W' ⟨he, bel⟩ => ?_
  subst he
  exact ⟨_, rfl, _, _, _, [], _, [], hW', trodAll_mk1 (shut_bool Tryz.underlying4 _), rB tourtop_TopMeet_laidOut bel (of_decide_eq_true (by kernel_rfl)) hA, rfl, bel.frame _, fun h => by cases h⟩
theorem tourtop_TopMeet_over : Rows.topMeetRow.holds Tryz.pinned (OpenSpec.ofChange Rows.topMeetSpec) :=
  OpenClaim.holds_of_wide 6 Tryz.f6 rfl rfl rfl rfl rfl rfl rfl ⟨rfl, rfl, rfl, rfl, rfl⟩ rfl rfl rfl rfl rfl (by kernel_rfl) Tryz.func6 (by kernel_rfl)
    (of_decide_eq_true (by kernel_rfl)) (by unfold Func.isWrapper; first | (rw [if_pos (by decide +kernel)]; kernel_rfl) | (rw [if_neg (by decide +kernel)]; exact ⟨rfl, rfl⟩))
    (fun os started H enc _ => tourtop_TopMeet_lifted os started H enc)
theorem topMeet_holds : Rows.TopMeetSaid := tourtop_TopMeet_over
end Go.Proofs.YteibepmkkplpeaaGreat
