/-
  The law PhysIslands: whatever the input, it returns true. No condition.
-/
import Derived.Test.YteibepmkkplpeaaGreatPlIsl
import Derived.Test.YteibepmkkplpeaaGreatSxLaw
import Derived.Test.YteibepmkkplpeaaGreatRows
namespace Go.Proofs.YteibepmkkplpeaaGreat
open Go Go.Sx Go.Proofs Go.Proofs.T1 Go.ChangeShapes Go.WideShapes Go.ChangeAt Go.RowKit
theorem tourkeep2_PhysIslands_own : ownKnob Tryz.prog.godebug = none := by kernel_rfl
theorem tourkeep2_PhysIslands_laidOut : laidOutB Tryz.prog = true := by kernel_rfl
set_option maxRecDepth 100000 in
theorem tourkeep2_PhysIslands_lifted (os : Os) (started : os.Started) (H : Type) (enc : TypeId × Value → H) :
    ReturnsInHanded {} Tryz.checked os 4 .any (Rows.physIslandsSpec.pre6 enc Tryz.prog Tryz.f4 Rows.physIslandsRow.domain false) (Rows.physIslandsSpec.post enc Tryz.prog Tryz.f4 false true false false) := by
  refine returnsInHanded_of_change_sized (C := Tryz.checked) tourkeep2_PhysIslands_own started (by kernel_rfl) Tryz.func4
    (ChangeSpec.witness6 (enc := enc) (C := Tryz.checked) false ⟨#[], #[.slice none 0 0], []⟩ 8 (by kernel_rfl) (by kernel_rfl) (by kernel_rfl) (by kernel_rfl)) ?_
  intro W base args ds gs before hval0 hW hcnd hsz0 _
  have hval : ∀ (j : Nat) t v, Tryz.f4.params.toList[j]? = some t → args.toList[j]? = some v → Value.okWide Tryz.prog W .any base t v := fun j t v h1 h2 => hval0 j t v (by simpa using h1) (by simpa using h2)
  have hW' := hW
  obtain ⟨p, q, hA0, hV, rfl, hfz, hnd⟩ := hW
  have hA : DataW.TrodAll enc Tryz.prog W 0 (fun _ => true) true Tryz.f4.params.toList args.toList ds p := hA0
  obtain ⟨rfl, rfl⟩ := trodVars_none hV
  obtain ⟨x, hx, hwf⟩ := xm (ps := (.pair fD .unit)) (by kernel_rfl) hA hval
  have hA1 := hA
  obtain ⟨v0, vs0, d0, ds0, p0, q0, -, rfl, rfl, h0, r0⟩ := trodAll_cons hA1
  obtain ⟨-, rfl, rfl⟩ := trodAll_nil r0
  clear hA0 hval0 hsz0
  obtain ⟨k, hk⟩ := jq x hwf
  refine (zF (code := aa.code) Tryz.func4 (by kernel_rfl) (by kernel_rfl) (aa.ok k) rfl rfl hx hk HEq.rfl).mono fun e W' ⟨he, bel⟩ => ?_
  subst he
  exact ⟨_, rfl, _, _, _, [], _, [], hW', trodAll_mk1 (shut_bool Tryz.underlying4 _), qp tourkeep2_PhysIslands_laidOut bel (of_decide_eq_true (by kernel_rfl)) hA, rfl, bel.frame _, fun h => by cases h⟩
theorem tourkeep2_PhysIslands_over : Rows.physIslandsRow.holds Tryz.pinned (OpenSpec.ofChange Rows.physIslandsSpec) :=
  OpenClaim.holds_of_wide 4 Tryz.f4 rfl rfl rfl rfl rfl rfl rfl ⟨rfl, rfl, rfl, rfl, rfl⟩ rfl rfl rfl rfl rfl (by kernel_rfl) Tryz.func4 (by kernel_rfl)
    (of_decide_eq_true (by kernel_rfl)) (by unfold Func.isWrapper; first | (rw [if_pos (by decide +kernel)]; kernel_rfl) | (rw [if_neg (by decide +kernel)]; exact ⟨rfl, rfl⟩))
    (fun os started H enc _ => tourkeep2_PhysIslands_lifted os started H enc)
theorem physIslands_holds : Rows.PhysIslandsSaid := tourkeep2_PhysIslands_over
end Go.Proofs.YteibepmkkplpeaaGreat
