/-
  Plain laws: no program in sight.
-/
import Derived.Test.YtcgcnojpcgjnmaaPlBody
namespace Go.Proofs.T1
open Go Go.Sx

/-! BodyPushes -/
section
variable {p v : V22} {ang spin mass inertia bounce rub : Int} {l : List V22} {asleep : Bool} {calm : Int}
theorem own_room {k : Nat} (hl : l.length ≤ 2000000) : body_own k (p, v, ang, spin, mass, inertia, bounce, rub, l, asleep, calm, ()) = some (p, v, ang, spin, mass, inertia, bounce, rub, l, asleep, calm, ()) := by
  unfold body_own slices_Clone_129
  dsimp only
  rw [req_pos (show room0 16 l by show (0 + l.length) * 16 ≤ 140737488355328; omega), bnd_some]
end
section
variable {p v : V22} {ang spin mass inertia bounce rub : Int} {l : List V22} {asleep : Bool} {calm : Int}
theorem Push_out {K : Nat} (hl : l.length ≤ 2000000) {x : Int} (hc : body_Check K (p, v, ang, spin, mass, inertia, bounce, rub, l, asleep, calm, ()) = some x) (h : x ≠ 0 ∨ mass = 0 ∨ asleep = true) (j r : V22) :
    body_Push K (p, v, ang, spin, mass, inertia, bounce, rub, l, asleep, calm, ()) j r = some (p, v, ang, spin, mass, inertia, bounce, rub, l, asleep, calm, ()) := by
  unfold body_Push
  rw [own_room hl, bnd_some]
  have c1 : body_Push.c1 K (p, v, ang, spin, mass, inertia, bounce, rub, l, asleep, calm, ()) = some true := by
    unfold body_Push.c1
    rw [hc, bnd_some]
    dsimp only
    by_cases a : x = 0
    · rw [ine_neg a, bif_false]
      by_cases b : mass = 0
      · rw [ieq_pos b, bif_true]
      · rw [ieq_neg b, bif_false]
        rcases h with h | h | h
        · exact absurd a h
        · exact absurd h b
        · rw [h]
    · rw [ine_pos a, bif_true]
  rw [c1, bnd_some, bif_true]
theorem Ease_out {K : Nat} {x : Int} (hc : body_Check K (p, v, ang, spin, mass, inertia, bounce, rub, l, asleep, calm, ()) = some x) (h : x ≠ 0 ∨ mass = 0 ∨ asleep = true) (j r : V22) :
    body_Ease K (p, v, ang, spin, mass, inertia, bounce, rub, l, asleep, calm, ()) j r = some 0 := by
  unfold body_Ease
  have c1 : body_Ease.c1 K (p, v, ang, spin, mass, inertia, bounce, rub, l, asleep, calm, ()) = some true := by
    unfold body_Ease.c1
    rw [hc, bnd_some]
    dsimp only
    by_cases a : x = 0
    · rw [ine_neg a, bif_false]
      by_cases b : mass = 0
      · rw [ieq_pos b, bif_true]
      · rw [ieq_neg b, bif_false]
        rcases h with h | h | h
        · exact absurd a h
        · exact absurd h b
        · rw [h]
    · rw [ine_pos a, bif_true]
  rw [c1, bnd_some, bif_true]
end
end Go.Proofs.T1
