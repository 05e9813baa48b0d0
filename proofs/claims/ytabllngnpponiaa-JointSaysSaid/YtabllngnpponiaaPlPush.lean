/-
  Plain laws: no program in sight.
-/
import Derived.Test.YtabllngnpponiaaPlTurn
namespace Go.Proofs.T1
open Go Go.Sx

/-! BodyPushes -/
theorem eqb24_s (a : V27) : Ty.eqb T27 a a = true := (eqb24 a a).trans (decide_eq_true rfl)
theorem eqb4_s (b : Bool) : Ty.eqb T4 b b = true := beq_self_eq_true b
theorem sEqual_self {k : Nat} {l : List V27} (hk : l.length < k) (hl : l.length ≤ 1000000000) : slices_Equal k l l = some true := by
  have H : ∀ (n : Nat) (i : Int), 0 ≤ i → len l - i < (n : Int) → 0 < n → slices_Equal.c1 k l l n i = some (.inr ()) := by
    intro n
    induction n with
    | zero => intro i _ _ h; omega
    | succ n ih =>
      intro i i0 i1 _
      rw [slices_Equal.c1]
      by_cases c : i < len l
      · have hlen : len l = (l.length : Int) := rfl
        rw [ilt_pos c, bif_true, req_pos (inL_of i0 c), req_pos (inL_of i0 c)]
        refine (congrArg (fun b => bif' b _ _) (eqb24_s (el Z27 l i))).trans ?_
        rw [bif_true, iadd_i64 (by omega) (by omega)]
        exact ih (i + 1) (by omega) (by omega) (by omega)
      · rw [ilt_neg (by omega), bif_false]
  have hlen : len l = (l.length : Int) := rfl
  unfold slices_Equal
  rw [ine_neg rfl, bif_false, H k 0 (by omega) (by omega) (by omega), bnd_some, two_inr]
theorem SameBody_self {k : Nat} (b : V49) (hk : b.2.2.2.2.2.2.2.2.1.length < k) (hl : b.2.2.2.2.2.2.2.2.1.length ≤ 1000000000) : tourref2_SameBody k b b = some true := by
  unfold tourref2_SameBody
  refine (congrArg (fun x => bif' x _ _) (eqb24_s b.1)).trans ?_
  rw [bif_true]
  refine (congrArg (fun x => bif' x _ _) (eqb24_s b.2.1)).trans ?_
  rw [bif_true, ieq_pos rfl, bif_true, ieq_pos rfl, bif_true, ieq_pos rfl, bif_true, ieq_pos rfl, bif_true, ieq_pos rfl, bif_true, ieq_pos rfl, bif_true]
  refine (congrArg (fun x => bif' x _ _) (eqb4_s b.2.2.2.2.2.2.2.2.2.1)).trans ?_
  rw [bif_true, ieq_pos rfl, bif_true, sEqual_self hk hl, bnd_some]
theorem near_clamp (k : Nat) (x : Int) {m : Int} (h0 : 0 ≤ m) (hm : m ≤ 1099511627776) : tourref2_nearest k x m = body_clamp k x m := by
  have n1 : ineg .i64 m = -m := by unfold ineg; rw [wrap_i64 (by omega) (by omega)]; omega
  rw [clamp_tot k x h0 hm]
  unfold tourref2_nearest
  rw [n1]
  by_cases c : x < -m
  · rw [ilt_pos c, bif_true, if_pos c]
  · rw [ilt_neg (by omega), bif_false, if_neg c]
    by_cases d : m < x
    · rw [igt_pos d, bif_true, if_pos d]
    · rw [igt_neg (by omega), bif_false, if_neg d]
section
variable {p v : V27} {ang spin mass inertia bounce rub : Int} {l : List V27} {asleep : Bool} {calm : Int}
theorem own_room {k : Nat} (hl : l.length ≤ 2000000) : body_own k (p, v, ang, spin, mass, inertia, bounce, rub, l, asleep, calm, ()) = some (p, v, ang, spin, mass, inertia, bounce, rub, l, asleep, calm, ()) := by
  unfold body_own slices_Clone
  dsimp only
  rw [req_pos (show room0 16 l by show (0 + l.length) * 16 ≤ 140737488355328; omega), bnd_some]
end
section
variable {p v : V27} {ang spin mass inertia bounce rub : Int} {l : List V27} {asleep : Bool} {calm : Int}
theorem Push_out {K : Nat} (hl : l.length ≤ 2000000) {x : Int} (hc : body_Check K (p, v, ang, spin, mass, inertia, bounce, rub, l, asleep, calm, ()) = some x) (h : x ≠ 0 ∨ mass = 0 ∨ asleep = true) (j r : V27) :
    body_Push K (p, v, ang, spin, mass, inertia, bounce, rub, l, asleep, calm, ()) j r = some (p, v, ang, spin, mass, inertia, bounce, rub, l, asleep, calm, ()) := by
  unfold body_Push
  rw [own_room hl, bnd_some]
  have c1 : body_Push.c1 K (p, v, ang, spin, mass, inertia, bounce, rub, l, asleep, calm, ()) = some true := by
    unfold body_Push.c1
    rw [hc, bnd_some]
    dsimp only
    by_cases a : x = 0
    · rw [ine_neg a, bif_false]
      by_cases b : mass = 0
      · rw [ieq_pos b, bif_true]
      · rw [ieq_neg b, bif_false]
        rcases h with h | h | h
        · exact absurd a h
        · exact absurd h b
        · rw [h]
    · rw [ine_pos a, bif_true]
  rw [c1, bnd_some, bif_true]
theorem Ease_out {K : Nat} {x : Int} (hc : body_Check K (p, v, ang, spin, mass, inertia, bounce, rub, l, asleep, calm, ()) = some x) (h : x ≠ 0 ∨ mass = 0 ∨ asleep = true) (j r : V27) :
    body_Ease K (p, v, ang, spin, mass, inertia, bounce, rub, l, asleep, calm, ()) j r = some 0 := by
  unfold body_Ease
  have c1 : body_Ease.c1 K (p, v, ang, spin, mass, inertia, bounce, rub, l, asleep, calm, ()) = some true := by
    unfold body_Ease.c1
    rw [hc, bnd_some]
    dsimp only
    by_cases a : x = 0
    · rw [ine_neg a, bif_false]
      by_cases b : mass = 0
      · rw [ieq_pos b, bif_true]
      · rw [ieq_neg b, bif_false]
        rcases h with h | h | h
        · exact absurd a h
        · exact absurd h b
        · rw [h]
    · rw [ine_pos a, bif_true]
  rw [c1, bnd_some, bif_true]
theorem Free_eq (k : Nat) : tourref2_Free k (p, v, ang, spin, mass, inertia, bounce, rub, l, asleep, calm, ()) = some (decide (mass ≠ 0) && !asleep) := by
  unfold tourref2_Free
  dsimp only
  by_cases b : mass = 0
  · rw [ine_neg b, bif_false, decide_eq_false (fun h => h b)]; rfl
  · rw [ine_pos b, bif_true, decide_eq_true b]; rfl
theorem At_eq {K : Nat} (hk : 2 ≤ K) (hc : body_Check K (p, v, ang, spin, mass, inertia, bounce, rub, l, asleep, calm, ()) = some 0) (r : V27) :
    ∃ s, body_At K (p, v, ang, spin, mass, inertia, bounce, rub, l, asleep, calm, ()) r = some s ∧ tourref2_Speed K (p, v, ang, spin, mass, inertia, bounce, rub, l, asleep, calm, ()) r = some s := by
  unfold body_At tourref2_Speed
  rw [hc, bnd_some, ine_neg rfl, bif_false]
  unfold vec_Sub
  dsimp only
  simp only [FSub_tot, FMul_tot hk, FAdd_tot, bnd_some]
  exact ⟨_, rfl, rfl⟩
end
end Go.Proofs.T1
