/-
  The law TopCast: whatever the input, it returns true. No condition.
-/
import Derived.Test.YthpbadopmihmpaaGreatPlTop
import Derived.Test.YthpbadopmihmpaaGreatSxLaw
import Derived.Test.YthpbadopmihmpaaGreatRows
namespace Go.Proofs.YthpbadopmihmpaaGreat
open Go Go.Sx Go.Proofs Go.Proofs.T1 Go.ChangeShapes Go.WideShapes Go.ChangeAt Go.RowKit
theorem tourtop_TopCast_own : ownKnob Tryz.prog.godebug = none := by kernel_rfl
theorem tourtop_TopCast_laidOut : laidOutB Tryz.prog = true := by kernel_rfl
set_option maxRecDepth 100000 in
theorem tourtop_TopCast_lifted (os : Os) (started : os.Started) (H : Type) (enc : TypeId × Value → H) :
    ReturnsInHanded {} Tryz.checked os 3 .any (Rows.topCastSpec.pre6 enc Tryz.prog Tryz.f3 Rows.topCastRow.domain false) (Rows.topCastSpec.post enc Tryz.prog Tryz.f3 false true false false) := by
  refine returnsInHanded_of_change_sized (C := Tryz.checked) tourtop_TopCast_own started (by kernel_rfl) Tryz.func3
    (ChangeSpec.witness6 (enc := enc) (C := Tryz.checked) false ⟨#[], #[.slice none 0 0, .int .i64 0, .int .i64 0, .int .i64 0, .int .i64 0], []⟩ 8 (by kernel_rfl) (by kernel_rfl) (by kernel_rfl) (by kernel_rfl)) ?_
  intro W base args ds gs before hval0 hW hcnd hsz0 _
  have hval : ∀ (j : Nat) t v, Tryz.f3.params.toList[j]? = some t → args.toList[j]? = some v → Value.okWide Tryz.prog W .any base t v := fun j t v h1 h2 => hval0 j t v (by simpa using h1) (by simpa using h2)
  have hW' := hW
  obtain ⟨p, q, hA0, hV, rfl, hfz, hnd⟩ := hW
  have hA : DataW.TrodAll enc Tryz.prog W 0 (fun _ => true) true Tryz.f3.params.toList args.toList ds p := hA0
  obtain ⟨rfl, rfl⟩ := trodVars_none hV
  obtain ⟨x, hx, hwf⟩ := args_read (ps := (.pair T22 (.pair T2 (.pair T2 T26)))) (by kernel_rfl) hA hval
  have hA1 := hA
  obtain ⟨v0, vs0, d0, ds0, p0, q0, -, rfl, rfl, h0, r0⟩ := trodAll_cons hA1
  obtain ⟨v1, vs1, d1, ds1, p1, q1, -, rfl, rfl, h1, r1⟩ := trodAll_cons r0
  obtain ⟨v2, vs2, d2, ds2, p2, q2, -, rfl, rfl, h2, r2⟩ := trodAll_cons r1
  obtain ⟨v3, vs3, d3, ds3, p3, q3, -, rfl, rfl, h3, r3⟩ := trodAll_cons r2
  obtain ⟨v4, vs4, d4, ds4, p4, q4, -, rfl, rfl, h4, r4⟩ := trodAll_cons r3
  obtain ⟨-, rfl, rfl⟩ := trodAll_nil r4
  clear hA0 hval0 hsz0
  obtain ⟨k, hk⟩ := tourtop_TopCast_plain x hwf
  refine (law_bool (code := tourtop_TopCast.code) Tryz.func3 (by kernel_rfl) (by kernel_rfl) (tourtop_TopCast.ok k) rfl rfl hx hk HEq.rfl).mono fun e W' ⟨he, bel⟩ => ?_
  subst he
  exact ⟨_, rfl, _, _, _, [], _, [], hW', trodAll_mk1 (shut_bool Tryz.underlying4 _), trodAll_below tourtop_TopCast_laidOut bel (of_decide_eq_true (by kernel_rfl)) hA, rfl, bel.frame _, fun h => by cases h⟩
theorem tourtop_TopCast_over : Rows.topCastRow.holds Tryz.pinned (OpenSpec.ofChange Rows.topCastSpec) :=
  OpenClaim.holds_of_wide 3 Tryz.f3 rfl rfl rfl rfl rfl rfl rfl ⟨rfl, rfl, rfl, rfl, rfl⟩ rfl rfl rfl rfl rfl (by kernel_rfl) Tryz.func3 (by kernel_rfl)
    (of_decide_eq_true (by kernel_rfl)) (by unfold Func.isWrapper; first | (rw [if_pos (by decide +kernel)]; kernel_rfl) | (rw [if_neg (by decide +kernel)]; exact ⟨rfl, rfl⟩))
    (fun os started H enc _ => tourtop_TopCast_lifted os started H enc)
theorem topCast_holds : Rows.TopCastSaid := tourtop_TopCast_over
end Go.Proofs.YthpbadopmihmpaaGreat
