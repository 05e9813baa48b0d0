/-
  Plain laws: no program in sight.
-/
import Derived.Test.YtddbhngnhegndaaPlSwap
namespace Go.Proofs.T1
open Go Go.Sx

/-! The reference's meeting of two polygons -/
instance (x y : Int) : Decidable (Opp x y) := by unfold Opp; infer_instance
instance (a b p : V28) : Decidable (Box a b p) := by unfold Box; infer_instance
instance (a b p : V28) : Decidable (On a b p) := by unfold On; infer_instance
instance (a b c d : V28) : Decidable (CrP a b c d) := by unfold CrP; infer_instance
theorem opp_dec (x y : Int) : ilt (imul .i64 (cmpI x 0) (cmpI y 0)) 0 = decide (Opp x y) := by
  rcases Int.lt_trichotomy x 0 with a | a | a <;> rcases Int.lt_trichotomy y 0 with b | b | b <;>
    first
    | (rw [cmpI_lt a, cmpI_lt b, decide_eq_false (by unfold Opp; omega)]; decide)
    | (rw [cmpI_lt a, cmpI_eq b, decide_eq_false (by unfold Opp; omega)]; decide)
    | (rw [cmpI_lt a, cmpI_gt b, decide_eq_true (by unfold Opp; omega)]; decide)
    | (rw [cmpI_eq a, cmpI_lt b, decide_eq_false (by unfold Opp; omega)]; decide)
    | (rw [cmpI_eq a, cmpI_eq b, decide_eq_false (by unfold Opp; omega)]; decide)
    | (rw [cmpI_eq a, cmpI_gt b, decide_eq_false (by unfold Opp; omega)]; decide)
    | (rw [cmpI_gt a, cmpI_lt b, decide_eq_true (by unfold Opp; omega)]; decide)
    | (rw [cmpI_gt a, cmpI_eq b, decide_eq_false (by unfold Opp; omega)]; decide)
    | (rw [cmpI_gt a, cmpI_gt b, decide_eq_false (by unfold Opp; omega)]; decide)
theorem cmpI_zero (x : Int) : cmpI x 0 = 0 ↔ x = 0 := by
  rcases Int.lt_trichotomy x 0 with a | a | a
  · rw [cmpI_lt a]; omega
  · rw [cmpI_eq a]; omega
  · rw [cmpI_gt a]; omega
theorem cmpI_nn (x : Int) : ige (cmpI x 0) 0 = decide (0 ≤ x) := by
  rcases Int.lt_trichotomy x 0 with a | a | a
  · rw [cmpI_lt a, decide_eq_false (by omega)]; rfl
  · rw [cmpI_eq a, decide_eq_true (by omega)]; rfl
  · rw [cmpI_gt a, decide_eq_true (by omega)]; rfl
/-! The reference's axis -/
theorem rnd_mono {x y n : Int} (hn : 0 < n) (h : x ≤ y) : rnd x n ≤ rnd y n := Int.ediv_le_ediv (by omega) (by omega)
theorem rnd_nn {x n : Int} (hn : 0 < n) (h : 0 ≤ x) : 0 ≤ rnd x n := Int.ediv_nonneg (by omega) (by omega)
theorem wt_nn {a b : List V28} (ha : Val a) {i : Int} (i0 : 0 ≤ i) (i1 : i < len a) (h : 0 ≤ dp a b i) : 0 ≤ wt a b i := by
  obtain ⟨_, l0, _, _⟩ := Length_eq (k := 40) (by decide) ha i0 i1
  exact rnd_nn l0 h
/-! The law -/
theorem eqbP_self (s : Bool) (v : V28) : Ty.eqb (.pair T4 T28) (s, v) (s, v) = true := by
  show (Ty.eqb T4 s s && Ty.eqb T28 v v) = true
  rw [eqb24_self]
  cases s <;> rfl
end Go.Proofs.T1
