/-
  Plain laws: no program in sight.
-/
import Derived.Test.YtabllngnpponiaaPlTurn
namespace Go.Proofs.T1
open Go Go.Sx

/-! BodyPushes -/
theorem eqb24_s (a : V27) : Ty.eqb T27 a a = true := (eqb24 a a).trans (decide_eq_true rfl)
theorem eqb4_s (b : Bool) : Ty.eqb T4 b b = true := beq_self_eq_true b
theorem sEqual_self {k : Nat} {l : List V27} (hk : l.length < k) (hl : l.length ≤ 1000000000) : slices_Equal k l l = some true := by
  have H : ∀ (n : Nat) (i : Int), 0 ≤ i → len l - i < (n : Int) → 0 < n → slices_Equal.c1 k l l n i = some (.inr ()) := by
    intro n
    induction n with
    | zero => intro i _ _ h; omega
    | succ n ih =>
      intro i i0 i1 _
      rw [slices_Equal.c1]
      by_cases c : i < len l
      · have hlen : len l = (l.length : Int) := rfl
        rw [ilt_pos c, bif_true, req_pos (inL_of i0 c), req_pos (inL_of i0 c)]
        refine (congrArg (fun b => bif' b _ _) (eqb24_s (el Z27 l i))).trans ?_
        rw [bif_true, iadd_i64 (by omega) (by omega)]
        exact ih (i + 1) (by omega) (by omega) (by omega)
      · rw [ilt_neg (by omega), bif_false]
  have hlen : len l = (l.length : Int) := rfl
  unfold slices_Equal
  rw [ine_neg rfl, bif_false, H k 0 (by omega) (by omega) (by omega), bnd_some, two_inr]
section
variable {p v : V27} {ang spin mass inertia bounce rub : Int} {l : List V27} {asleep : Bool} {calm : Int}
theorem own_room {k : Nat} (hl : l.length ≤ 2000000) : body_own k (p, v, ang, spin, mass, inertia, bounce, rub, l, asleep, calm, ()) = some (p, v, ang, spin, mass, inertia, bounce, rub, l, asleep, calm, ()) := by
  unfold body_own slices_Clone
  dsimp only
  rw [req_pos (show room0 16 l by show (0 + l.length) * 16 ≤ 140737488355328; omega), bnd_some]
end
section
variable {p v : V27} {ang spin mass inertia bounce rub : Int} {l : List V27} {asleep : Bool} {calm : Int}
theorem Push_out {K : Nat} (hl : l.length ≤ 2000000) {x : Int} (hc : body_Check K (p, v, ang, spin, mass, inertia, bounce, rub, l, asleep, calm, ()) = some x) (h : x ≠ 0 ∨ mass = 0 ∨ asleep = true) (j r : V27) :
    body_Push K (p, v, ang, spin, mass, inertia, bounce, rub, l, asleep, calm, ()) j r = some (p, v, ang, spin, mass, inertia, bounce, rub, l, asleep, calm, ()) := by
  unfold body_Push
  rw [own_room hl, bnd_some]
  have c1 : body_Push.c1 K (p, v, ang, spin, mass, inertia, bounce, rub, l, asleep, calm, ()) = some true := by
    unfold body_Push.c1
    rw [hc, bnd_some]
    dsimp only
    by_cases a : x = 0
    · rw [ine_neg a, bif_false]
      by_cases b : mass = 0
      · rw [ieq_pos b, bif_true]
      · rw [ieq_neg b, bif_false]
        rcases h with h | h | h
        · exact absurd a h
        · exact absurd h b
        · rw [h]
    · rw [ine_pos a, bif_true]
  rw [c1, bnd_some, bif_true]
theorem Ease_out {K : Nat} {x : Int} (hc : body_Check K (p, v, ang, spin, mass, inertia, bounce, rub, l, asleep, calm, ()) = some x) (h : x ≠ 0 ∨ mass = 0 ∨ asleep = true) (j r : V27) :
    body_Ease K (p, v, ang, spin, mass, inertia, bounce, rub, l, asleep, calm, ()) j r = some 0 := by
  unfold body_Ease
  have c1 : body_Ease.c1 K (p, v, ang, spin, mass, inertia, bounce, rub, l, asleep, calm, ()) = some true := by
    unfold body_Ease.c1
    rw [hc, bnd_some]
    dsimp only
    by_cases a : x = 0
    · rw [ine_neg a, bif_false]
      by_cases b : mass = 0
      · rw [ieq_pos b, bif_true]
      · rw [ieq_neg b, bif_false]
        rcases h with h | h | h
        · exact absurd a h
        · exact absurd h b
        · rw [h]
    · rw [ine_pos a, bif_true]
  rw [c1, bnd_some, bif_true]
end
end Go.Proofs.T1
namespace Go.Proofs.T1
open Go Go.Sx

/-! Bodies that move, by the program and by the reference -/
section
variable {p v : V27} {ang spin mass inertia bounce rub : Int} {l : List V27} {asleep : Bool} {calm : Int}
theorem valid_parts {k : Nat} (hk : 9 ≤ k) (hc : body_Check k (p, v, ang, spin, mass, inertia, bounce, rub, l, asleep, calm, ()) = some 0) :
    Shp l 0 ∧ (Val l ∧ AllR l ∧ FatP l) ∧ R1 p v ang spin ∧ R2 mass inertia bounce rub calm ∧ R3 v spin mass inertia asleep calm := by
  obtain ⟨e, e1, h1⟩ := bodyCheck_gen hk (p := p) (v := v) (ang := ang) (spin := spin) (mass := mass) (inertia := inertia) (bounce := bounce) (rub := rub) (l := l) (asleep := asleep) (calm := calm)
  rw [hc] at e1
  cases e1
  rcases h1 with ⟨_, h⟩ | ⟨_, _, h⟩ | ⟨_, _, _, _, h⟩ | ⟨h, g, g2, g3, _⟩
  · exact absurd rfl h
  · cases h
  · cases h
  · refine ⟨h, ?_, g, g2, g3⟩
    rcases h with ⟨_, h⟩ | ⟨_, _, h⟩ | ⟨_, _, _, h⟩ | ⟨a, b, c, _, _⟩
    · exact absurd rfl h
    · cases h
    · cases h
    · exact ⟨a, b, c⟩
end
end Go.Proofs.T1
