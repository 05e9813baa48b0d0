/-
  Plain laws: no program in sight.
-/
import Derived.Test.YtabllngnpponiaaPlBody
namespace Go.Proofs.T1
open Go Go.Sx

/-! Roots, rounded down -/
def Rt (n r : Int) : Prop := 0 ≤ r ∧ r * r ≤ n ∧ n < (r + 1) * (r + 1)
theorem sq_lt {a b : Int} (ha : 0 ≤ a) (hb : 0 ≤ b) (h : a * a < b * b) : a < b := by
  rcases Int.lt_or_le a b with c | c
  · exact c
  · have := Int.mul_le_mul c c hb ha
    omega
theorem sq_le {a b : Int} (ha : 0 ≤ a) (h : a ≤ b) : a * a ≤ b * b := Int.mul_le_mul h h ha (by omega)
theorem Rt_uniq {n r s : Int} (h : Rt n r) (g : Rt n s) : r = s := by
  have a := sq_lt (a := r) (b := s + 1) h.1 (by have := g.1; omega) (by have := h.2.1; have := g.2.2; omega)
  have b := sq_lt (a := s) (b := r + 1) g.1 (by have := h.1; omega) (by have := g.2.1; have := h.2.2; omega)
  omega
theorem iquo_i64 {x y : Int} (hx : 0 ≤ x) (hx' : x ≤ 9223372036854775807) (hy : 0 < y) : iquo .i64 x y = x / y := by
  unfold iquo
  rw [Int.tdiv_eq_ediv_of_nonneg hx]
  have h1 : 0 ≤ x / y := Int.ediv_nonneg hx (by omega)
  have h2 : x / y ≤ x := by
    have := Int.ediv_le_self (b := y) hx
    omega
  exact wrap_i64 (by omega) (by omega)
/-! The root of a number of 128 bits -/
theorem Root_c1 (k : Nat) {hi lo N : Int} (hN : N = hi * 18446744073709551616 + lo) (h0 : 0 ≤ hi) (l0 : 0 ≤ lo) (l1 : lo ≤ 18446744073709551615) : ∀ (j f : Nat) (a : Int), j + 1 < f → j ≤ 63 → 0 ≤ a → a * 2 ^ (j + 1) + 2 ^ (j + 1) ≤ 18446744073709551616 →
    (a * 2 ^ (j + 1)) * (a * 2 ^ (j + 1)) ≤ N → N < (a * 2 ^ (j + 1) + 2 ^ (j + 1)) * (a * 2 ^ (j + 1) + 2 ^ (j + 1)) →
    ∃ r, fix_Root.c1 k hi lo f (a * 2 ^ (j + 1)) (2 ^ j) = some r ∧ Rt N r ∧ r ≤ 18446744073709551615 := by
  have cmp : ∀ x : Int, 0 ≤ x → x ≤ 18446744073709551615 → bits_Mul64 k x x = some (x * x / 18446744073709551616, x * x % 18446744073709551616) ∧
      fix_Root.c2 k hi lo (x * x / 18446744073709551616, x * x % 18446744073709551616) = some (decide (x * x ≤ N)) := by
    intro x x0 x1
    refine ⟨Mul64_eq k x0 x1 x0 x1, ?_⟩
    unfold fix_Root.c2
    dsimp only
    generalize x * x = y
    by_cases c : y / 18446744073709551616 < hi
    · rw [ilt_pos c, bif_true, decide_eq_true (by omega)]
    · rw [ilt_neg (by omega), bif_false]
      by_cases d : y / 18446744073709551616 = hi
      · rw [ieq_pos d, bif_true]
        unfold ile
        congr 1
        rw [decide_eq_decide]
        omega
      · rw [ieq_neg d, bif_false, decide_eq_false (by omega)]
  intro j
  induction j with
  | zero =>
    intro f a hf hj a0 b c d
    obtain ⟨f, rfl⟩ : ∃ i, f = i + 2 := ⟨f - 2, by omega⟩
    have o : ibits .or .u64 (a * 2 ^ (0 + 1)) (2 ^ 0) = a * 2 ^ (0 + 1) + 2 ^ 0 := or_low (by decide) a0 (by omega) (by decide) (by decide)
    simp only [Int.pow_succ, Int.pow_zero, Int.one_mul, Nat.zero_add] at b c d o ⊢
    rw [fix_Root.c1, igt_pos (by decide), bif_true, o, (cmp _ (by omega) (by omega)).1, bnd_some, (cmp _ (by omega) (by omega)).2, bnd_some]
    unfold fix_Root.c3
    have q : ishr .u64 1 1 = 0 := by decide
    rw [q]
    by_cases g : (a * 2 + 1) * (a * 2 + 1) ≤ N
    · rw [decide_eq_true g, bif_true, bnd_some, o, fix_Root.c1, igt_neg (by decide), bif_false]
      exact ⟨_, rfl, ⟨by omega, g, by rw [show a * 2 + 1 + 1 = a * 2 + 2 by omega]; exact d⟩, by omega⟩
    · rw [decide_eq_false g, bif_false, bnd_some, fix_Root.c1, igt_neg (by decide), bif_false]
      exact ⟨_, rfl, ⟨by omega, c, by omega⟩, by omega⟩
  | succ j ih =>
    intro f a hf hj a0 b c d
    obtain ⟨f, rfl⟩ : ∃ i, f = i + 1 := ⟨f - 1, by omega⟩
    have e2 : (2 : Int) ^ (j + 1 + 1) = 2 * 2 ^ (j + 1) := by rw [Int.pow_succ]; omega
    have p0 : (0 : Int) < 2 ^ (j + 1) := Int.pow_pos (by decide)
    have an : 0 ≤ a * 2 ^ (j + 1 + 1) := Int.mul_nonneg a0 (Int.le_of_lt (Int.pow_pos (by decide)))
    have o : ibits .or .u64 (a * 2 ^ (j + 1 + 1)) (2 ^ (j + 1)) = a * 2 ^ (j + 1 + 1) + 2 ^ (j + 1) := or_low (by omega) a0 (by omega) (by omega) (by omega)
    rw [fix_Root.c1, igt_pos (by omega), bif_true, o, (cmp _ (by omega) (by omega)).1, bnd_some, (cmp _ (by omega) (by omega)).2, bnd_some]
    unfold fix_Root.c3
    have q : ishr .u64 (2 ^ (j + 1)) 1 = 2 ^ j := by
      have := ishr_u64 (2 ^ (j + 1)) (n := 1) (by decide)
      rw [show ((1 : Nat) : Int) = 1 from rfl] at this
      rw [this, Int.pow_succ]
      omega
    rw [q]
    rw [e2] at b d
    by_cases g : (a * 2 ^ (j + 1 + 1) + 2 ^ (j + 1)) * (a * 2 ^ (j + 1 + 1) + 2 ^ (j + 1)) ≤ N
    · rw [decide_eq_true g, bif_true, bnd_some, o]
      have e3 : a * 2 ^ (j + 1 + 1) + 2 ^ (j + 1) = (2 * a + 1) * 2 ^ (j + 1) := by rw [e2]; grind
      rw [e2] at c g e3
      have e4 : a * (2 * 2 ^ (j + 1)) + 2 * 2 ^ (j + 1) = (2 * a + 1) * 2 ^ (j + 1) + 2 ^ (j + 1) := by grind
      rw [e4] at b d
      rw [e3] at g
      rw [e2, e3]
      exact ih f (2 * a + 1) (by omega) (by omega) (by omega) b g d
    · rw [decide_eq_false g, bif_false, bnd_some]
      have e3 : a * 2 ^ (j + 1 + 1) = (2 * a) * 2 ^ (j + 1) := by rw [e2]; grind
      rw [e3] at c g ⊢
      rw [e2] at e3
      rw [e3] at b d
      exact ih f (2 * a) (by omega) (by omega) (by omega) (by omega) c (by omega)
theorem FRoot_eq {k : Nat} (hk : 70 ≤ k) {hi lo : Int} (h0 : 0 ≤ hi) (h1 : hi ≤ 18446744073709551615) (l0 : 0 ≤ lo) (l1 : lo ≤ 18446744073709551615) : ∃ r, fix_Root k hi lo = some r ∧ Rt (hi * 18446744073709551616 + lo) r ∧ r ≤ 18446744073709551615 := by
  obtain ⟨r, e, h⟩ := Root_c1 k rfl h0 l0 l1 63 k 0 (by omega) (by decide) (by decide) (by decide) (by simp; omega) (by simp; omega)
  refine ⟨r, ?_, h⟩
  unfold fix_Root
  have e' : fix_Root.c1 k hi lo k 0 9223372036854775808 = some r := e
  rw [e', bnd_some]

/-! Lengths and unit vectors -/
theorem sq_mag (x : Int) : mag x * mag x = x * x := by unfold mag; split <;> grind
theorem vmag_eq (k : Nat) {x : Int} (h0 : -4611686018427387904 ≤ x) (h1 : x ≤ 4611686018427387904) : vec_mag k x = some (mag x) := by
  have n1 : ineg .i64 x = -x := by unfold ineg; rw [wrap_i64 (by omega) (by omega)]; omega
  unfold vec_mag
  rw [n1, icv_u64]
  unfold imax mag
  congr 1
  split <;> split <;> omega
theorem vlength_eq {k : Nat} (hk : 70 ≤ k) {x y : Int} (x0 : -1099511627776 ≤ x) (x1 : x ≤ 1099511627776) (y0 : -1099511627776 ≤ y) (y1 : y ≤ 1099511627776) : ∃ r, vec_length k x y = some r ∧ Rt (x * x + y * y) r := by
  have mx : 0 ≤ mag x ∧ mag x ≤ 1099511627776 := by unfold mag; split <;> omega
  have my : 0 ≤ mag y ∧ mag y ≤ 1099511627776 := by unfold mag; split <;> omega
  have bx := mul_bd (x := mag x) (y := mag x) (M := 1099511627776) (N := 1099511627776) (by omega) (by omega) (by omega) (by omega)
  have by_ := mul_bd (x := mag y) (y := mag y) (M := 1099511627776) (N := 1099511627776) (by omega) (by omega) (by omega) (by omega)
  have nx0 := Int.mul_nonneg mx.1 mx.1
  have ny0 := Int.mul_nonneg my.1 my.1
  unfold vec_length
  rw [vmag_eq k (by omega) (by omega), bnd_some, bnd_some, Mul64_eq k (by omega) (by omega) (by omega) (by omega), bnd_some, vmag_eq k (by omega) (by omega), bnd_some, bnd_some, Mul64_eq k (by omega) (by omega) (by omega) (by omega), bnd_some]
  dsimp only
  rw [sq_mag] at bx nx0 ⊢
  rw [sq_mag] at by_ ny0 ⊢
  generalize hX : x * x = X at *
  generalize hY : y * y = Y at *
  rw [Add64_eq k (by omega) (by omega), bnd_some]
  dsimp only
  unfold bits_Add64
  rw [req_pos (by omega), req_pos (by omega), req_pos (by omega), req_pos (by omega), bnd_some]
  dsimp only
  obtain ⟨r, e, h, hr⟩ := FRoot_eq hk (hi := (X / 18446744073709551616 + Y / 18446744073709551616 + (X % 18446744073709551616 + Y % 18446744073709551616) / 18446744073709551616) % 18446744073709551616) (lo := (X % 18446744073709551616 + Y % 18446744073709551616) % 18446744073709551616) (by omega) (by omega) (by omega) (by omega)
  rw [e, bnd_some]
  have e1 : (X / 18446744073709551616 + Y / 18446744073709551616 + (X % 18446744073709551616 + Y % 18446744073709551616) / 18446744073709551616) % 18446744073709551616 * 18446744073709551616 + (X % 18446744073709551616 + Y % 18446744073709551616) % 18446744073709551616 = X + Y := by omega
  rw [e1] at h
  have : r < 2199023255553 := sq_lt h.1 (by decide) (by have := h.2.1; omega)
  rw [icv_i64 (by have := h.1; omega) (by omega)]
  exact ⟨r, rfl, h⟩
theorem vLen_eq {k : Nat} (hk : 70 ≤ k) {v : V27} (h : -1099511627776 ≤ v.1 ∧ v.1 ≤ 1099511627776 ∧ -1099511627776 ≤ v.2.1 ∧ v.2.1 ≤ 1099511627776) : ∃ r, vec_Len k v = some (CM r) ∧ Rt (v.1 * v.1 + v.2.1 * v.2.1) r := by
  obtain ⟨r, e, g⟩ := vlength_eq hk h.1 h.2.1 h.2.2.1 h.2.2.2
  refine ⟨r, ?_, g⟩
  unfold vec_Len
  rw [Clamp_eq, bnd_some, Clamp_eq, bnd_some, CM_in h.1 h.2.1, CM_in h.2.2.1 h.2.2.2, e, bnd_some, Clamp_eq, bnd_some]
theorem through_eq (k : Nat) {x l : Int} (x0 : -1099511627776 ≤ x) (x1 : x ≤ 1099511627776) (l0 : 0 < l) (l1 : l ≤ 4398046511104) : vec_through k x l = some (rnd (65536 * x) l) := by
  have e : iadd .i64 (imul .i64 (imul .i64 2 x) 65536) l = 2 * (65536 * x) + l := by
    rw [imul_i64 (x := 2) (by omega) (by omega), imul_i64 (by omega) (by omega), iadd_i64 (by omega) (by omega)]; omega
  have e2 : imul .i64 2 l = 2 * l := imul_i64 (by omega) (by omega)
  unfold vec_through vec_through.c1
  rw [e, e2, req_pos (show nz (2 * l) by unfold nz; omega)]
  generalize hn : 2 * (65536 * x) + l = n
  have r : rnd (65536 * x) l = n / (2 * l) := by unfold rnd; rw [hn]
  rw [r]
  have hm := Int.mul_ediv_add_emod n (2 * l)
  have em0 := Int.emod_nonneg n (show 2 * l ≠ 0 by omega)
  have em1 := Int.emod_lt_of_pos n (show 0 < 2 * l by omega)
  have qb : -9000000000000000000 ≤ n / (2 * l) ∧ n / (2 * l) ≤ 9000000000000000000 := by
    constructor
    · rw [Int.le_ediv_iff_mul_le (by omega)]; omega
    · have : n / (2 * l) < 9000000000000000001 := by rw [Int.ediv_lt_iff_lt_mul (by omega)]; omega
      omega
  by_cases c : n < 0
  · rw [ilt_pos c, bif_true, req_pos (show nz (2 * l) by unfold nz; omega)]
    have e3 : irem n (2 * l) = -((-n) % (2 * l)) := by
      unfold irem
      rw [← Int.tmod_eq_emod_of_nonneg (by omega), Int.neg_tmod]; omega
    have e4 : iquo .i64 n (2 * l) = -((-n) / (2 * l)) := by
      unfold iquo
      have : Int.tdiv n (2 * l) = -((-n) / (2 * l)) := by rw [← Int.tdiv_eq_ediv_of_nonneg (by omega), Int.neg_tdiv]; omega
      rw [this]
      have h1 : 0 ≤ (-n) / (2 * l) := Int.ediv_nonneg (by omega) (by omega)
      have h2 := Int.ediv_le_self (b := 2 * l) (show 0 ≤ -n by omega)
      exact wrap_i64 (by omega) (by omega)
    have hm2 := Int.mul_ediv_add_emod (-n) (2 * l)
    have b0 := Int.emod_nonneg (-n) (show 2 * l ≠ 0 by omega)
    have b1 := Int.emod_lt_of_pos (-n) (show 0 < 2 * l by omega)
    rw [e3, e4]
    by_cases d : (-n) % (2 * l) = 0
    · rw [ine_neg (by omega), bnd_some, bif_false]
      congr 1
      refine (Int.ediv_eq_of_eq_mul_right (show (2 * l) ≠ 0 by omega) ?_).symm
      rw [d] at hm2
      rw [Int.mul_neg]; omega
    · rw [ine_pos (by omega), bnd_some, bif_true]
      have q2 : n / (2 * l) = -((-n) / (2 * l)) - 1 := by
        have : n = (2 * l - (-n) % (2 * l)) + (2 * l) * (-((-n) / (2 * l)) - 1) := by
          rw [Int.mul_sub, Int.mul_neg]; omega
        have h3 : (2 * l - (-n) % (2 * l) + (2 * l) * (-((-n) / (2 * l)) - 1)) / (2 * l) = -((-n) / (2 * l)) - 1 := by
          rw [Int.add_mul_ediv_left _ _ (by omega), Int.ediv_eq_zero_of_lt (by omega) (by omega)]; omega
        rw [← this] at h3
        exact h3
      rw [q2, isub_i64 (by omega) (by omega)]
  · rw [ilt_neg (by omega), bif_false, bnd_some, bif_false, iquo_i64 (by omega) (by omega) (by omega)]
theorem double (k : Nat) : ∀ (m f : Nat) (x y : Int), m < f → -1099511627776 ≤ x → x ≤ 1099511627776 → -1099511627776 ≤ y → y ≤ 1099511627776 → 1073741824 ≤ imax (mag x) (mag y) * 2 ^ m →
    ∃ x' y' c, vec_Unit.c2 k f x y = some (x', y') ∧ x' = c * x ∧ y' = c * y ∧ 0 < c ∧ 1073741824 ≤ imax (mag x') (mag y') ∧ -1099511627776 ≤ x' ∧ x' ≤ 1099511627776 ∧ -1099511627776 ≤ y' ∧ y' ≤ 1099511627776 := by
  intro m
  induction m with
  | zero =>
    intro f x y hf a b c d h
    obtain ⟨f, rfl⟩ : ∃ j, f = j + 1 := ⟨f - 1, by omega⟩
    rw [vec_Unit.c2, vmag_eq k (by omega) (by omega), bnd_some, vmag_eq k (by omega) (by omega), bnd_some, ilt_neg (by simp at h; omega), bif_false]
    exact ⟨x, y, 1, rfl, by omega, by omega, by decide, by simp at h; omega, a, b, c, d⟩
  | succ m ih =>
    intro f x y hf a b c d h
    obtain ⟨f, rfl⟩ : ∃ j, f = j + 1 := ⟨f - 1, by omega⟩
    rw [vec_Unit.c2, vmag_eq k (by omega) (by omega), bnd_some, vmag_eq k (by omega) (by omega), bnd_some]
    by_cases g : imax (mag x) (mag y) < 1073741824
    · have bx : -1073741824 < x ∧ x < 1073741824 ∧ -1073741824 < y ∧ y < 1073741824 := by
        unfold imax mag at g
        split at g <;> (try split at g) <;> (try split at g) <;> omega
      rw [ilt_pos g, bif_true, imul_i64 (by omega) (by omega), imul_i64 (by omega) (by omega)]
      have e : imax (mag (2 * x)) (mag (2 * y)) = 2 * imax (mag x) (mag y) := by
        unfold imax mag
        split <;> split <;> (try split) <;> (try split) <;> (try split) <;> omega
      obtain ⟨x', y', c', e1, e2, e3, r⟩ := ih f (2 * x) (2 * y) (by omega) (by omega) (by omega) (by omega) (by omega) (by
        rw [e]
        have : imax (mag x) (mag y) * 2 ^ (m + 1) = 2 * imax (mag x) (mag y) * 2 ^ m := by rw [Int.pow_succ]; grind
        omega)
      exact ⟨x', y', c' * 2, e1, by rw [e2]; grind, by rw [e3]; grind, by omega, r.2⟩
    · rw [ilt_neg (by omega), bif_false]
      exact ⟨x, y, 1, rfl, by omega, by omega, by decide, by omega, a, b, c, d⟩
/-- The unit vector of a vector that is not zero. -/
theorem Unit_eq {k : Nat} (hk : 70 ≤ k) {v : V27} (h : -1099511627776 ≤ v.1 ∧ v.1 ≤ 1099511627776 ∧ -1099511627776 ≤ v.2.1 ∧ v.2.1 ≤ 1099511627776) (hv : ¬ (v.1 = 0 ∧ v.2.1 = 0)) :
    ∃ x y l, vec_Unit k v = some (rnd (65536 * x) l, rnd (65536 * y) l, ()) ∧ Rt (x * x + y * y) l ∧ 1073741824 ≤ l := by
  unfold vec_Unit
  rw [Clamp_eq, bnd_some, Clamp_eq, bnd_some, CM_in h.1 h.2.1, CM_in h.2.2.1 h.2.2.2]
  have c1 : vec_Unit.c1 k v.1 v.2.1 = some false := by
    unfold vec_Unit.c1
    by_cases a : v.1 = 0
    · rw [ieq_pos a, bif_true, ieq_neg (fun b => hv ⟨a, b⟩)]
    · rw [ieq_neg a, bif_false]
  rw [c1, bnd_some, bif_false]
  have hp : 1 ≤ imax (mag v.1) (mag v.2.1) := by
    unfold imax mag
    split <;> (try split) <;> (try split) <;> omega
  obtain ⟨x, y, c, e1, e2, e3, c0, hm, b1, b2, b3, b4⟩ := double k 30 k v.1 v.2.1 (by omega) h.1 h.2.1 h.2.2.1 h.2.2.2 (by
    have : (2 : Int) ^ 30 = 1073741824 := by decide
    rw [this]
    have := Int.mul_le_mul_of_nonneg_right hp (show (0 : Int) ≤ 1073741824 by decide)
    omega)
  rw [e1, bnd_some]
  dsimp only
  obtain ⟨l, f1, f2⟩ := vlength_eq hk b1 b2 b3 b4
  have sqn : ∀ z : Int, 0 ≤ z * z := fun z => by rw [← sq_mag]; exact Int.mul_nonneg (by unfold mag; split <;> omega) (by unfold mag; split <;> omega)
  have hl : 1073741824 ≤ l := by
    have key : 1073741824 * 1073741824 ≤ x * x + y * y := by
      have sx := sqn x
      have sy := sqn y
      unfold imax at hm
      split at hm
      · have := sq_le (a := 1073741824) (by decide) hm
        rw [sq_mag] at this; omega
      · have := sq_le (a := 1073741824) (by decide) hm
        rw [sq_mag] at this; omega
    have := sq_lt (a := 1073741824) (b := l + 1) (by decide) (by have := f2.1; omega) (by have := f2.2.2; omega)
    omega
  have lb : l ≤ 4398046511104 := by
    have p1 := mul_bd (x := x) (y := x) (M := 1099511627776) (N := 1099511627776) b1 b2 b1 b2
    have p2 := mul_bd (x := y) (y := y) (M := 1099511627776) (N := 1099511627776) b3 b4 b3 b4
    have := sq_lt (a := l) (b := 4398046511104) f2.1 (by decide) (by have := f2.2.1; omega)
    omega
  rw [f1, bnd_some, through_eq k b1 b2 (by omega) lb, bnd_some, through_eq k b3 b4 (by omega) lb, bnd_some]
  exact ⟨x, y, l, rfl, f2, hl⟩
end Go.Proofs.T1
namespace Go.Proofs.T1
open Go Go.Sx

/-! Sines and cosines -/
def tb (i : Nat) : Int := [0, 1608, 3216, 4821, 6424, 8022, 9616, 11204, 12785, 14359, 15924, 17479, 19024, 20557, 22078, 23586, 25080, 26558, 28020, 29466, 30893, 32303, 33692, 35062, 36410, 37736, 39040, 40320, 41576, 42806, 44011, 45190, 46341, 47464, 48559, 49624, 50660, 51665, 52639, 53581, 54491, 55368, 56212, 57022, 57798, 58538, 59244, 59914, 60547, 61145, 61705, 62228, 62714, 63162, 63572, 63944, 64277, 64571, 64827, 65043, 65220, 65358, 65457, 65516, 65536].getD i 0
def tbOk (i : Nat) : Bool := decide (tb i ≤ tb (i + 1)) && (decide (tb (i + 1) ≤ tb i + 2000) && (decide (0 ≤ tb i) && (decide (tb (i + 1) ≤ 65536) && decide (4100000000 ≤ tb i * tb i + tb (63 - i) * tb (63 - i)))))
theorem tb_all : (List.range 64).all tbOk = true := by decide +kernel
theorem tb_ok {i : Nat} (h : i < 64) : tb i ≤ tb (i + 1) ∧ tb (i + 1) ≤ tb i + 2000 ∧ 0 ≤ tb i ∧ tb (i + 1) ≤ 65536 ∧ 4100000000 ≤ tb i * tb i + tb (63 - i) * tb (63 - i) := by
  have := List.all_eq_true.1 tb_all i (List.mem_range.2 h)
  unfold tbOk at this
  simp only [Bool.and_eq_true, decide_eq_true_eq] at this
  exact ⟨this.1, this.2.1, this.2.2.1, this.2.2.2.1, this.2.2.2.2⟩
/-- Between two numbers of the table. -/
theorem first_eq (k : Nat) {a : Int} (a0 : 0 ≤ a) (a1 : a ≤ 16384) : ∃ v, trig_first k a = some v ∧ (∀ i : Nat, i < 64 → (i : Int) * 256 ≤ a → a ≤ ((i : Int) + 1) * 256 → tb i ≤ v ∧ v ≤ tb (i + 1)) := by
  have hq : iquo .i64 a 256 = a / 256 := iquo_i64 a0 (by omega) (by decide)
  have hr : irem a 256 = a % 256 := irem_nonneg a0
  have et : ∀ n : Int, 0 ≤ n → n ≤ 64 → el 0 ([0, 1608, 3216, 4821, 6424, 8022, 9616, 11204, 12785, 14359, 15924, 17479, 19024, 20557, 22078, 23586, 25080, 26558, 28020, 29466, 30893, 32303, 33692, 35062, 36410, 37736, 39040, 40320, 41576, 42806, 44011, 45190, 46341, 47464, 48559, 49624, 50660, 51665, 52639, 53581, 54491, 55368, 56212, 57022, 57798, 58538, 59244, 59914, 60547, 61145, 61705, 62228, 62714, 63162, 63572, 63944, 64277, 64571, 64827, 65043, 65220, 65358, 65457, 65516, 65536] : List Int) n = tb n.toNat := fun n _ _ => rfl
  unfold trig_first trig_table
  rw [bnd_some, hq, hr]
  by_cases c : a % 256 = 0
  · rw [ieq_pos c, bif_true, req_pos (show inR (a / 256) 65 from ⟨by omega, by omega⟩), et _ (by omega) (by omega)]
    refine ⟨_, rfl, fun i hi h0 h1 => ?_⟩
    have t := tb_ok hi
    have : (a / 256).toNat = i ∨ (a / 256).toNat = i + 1 := by omega
    rcases this with e | e <;> rw [e]
    · exact ⟨Int.le_refl _, t.1⟩
    · exact ⟨t.1, Int.le_refl _⟩
  · have hk : (a / 256).toNat < 64 := by omega
    have t := tb_ok hk
    rw [ieq_neg c, bif_false, iadd_i64 (x := a / 256) (by omega) (by omega), req_pos (show inR (a / 256) 65 from ⟨by omega, by omega⟩), req_pos (show inR (a / 256 + 1) 65 from ⟨by omega, by omega⟩), et _ (by omega) (by omega), et _ (by omega) (by omega)]
    have e1 : (a / 256 + 1).toNat = (a / 256).toNat + 1 := by omega
    rw [e1]
    have r0 := Int.emod_nonneg a (show (256 : Int) ≠ 0 by decide)
    have r1 := Int.emod_lt_of_pos a (show (0 : Int) < 256 by decide)
    generalize hlo : tb (a / 256).toNat = lo at *
    generalize hhi : tb ((a / 256).toNat + 1) = hi at *
    have mb := mul_bd (x := hi - lo) (y := a % 256) (M := 2000) (N := 256) (by omega) (by omega) (by omega) (by omega)
    have m0 := Int.mul_nonneg (show 0 ≤ hi - lo by omega) r0
    have m1 := Int.mul_le_mul_of_nonneg_left (show a % 256 ≤ 255 by omega) (show 0 ≤ hi - lo by omega)
    rw [isub_i64 (by omega) (by omega), imul_i64 (by omega) (by omega), iadd_i64 (x := (hi - lo) * (a % 256)) (by omega) (by omega), iquo_i64 (by omega) (by omega) (by decide), iadd_i64 (by omega) (by omega)]
    refine ⟨_, rfl, fun i hi' h0 h1 => ?_⟩
    have : (a / 256).toNat = i := by omega
    rw [← this, hlo, hhi]
    omega
theorem first_bd (k : Nat) {a : Int} (a0 : 0 ≤ a) (a1 : a ≤ 16384) : ∃ v, trig_first k a = some v ∧ 0 ≤ v ∧ v ≤ 65536 := by
  obtain ⟨v, e, h⟩ := first_eq k a0 a1
  have hi : ((a / 256).toNat - (if a = 16384 then 1 else 0)) < 64 := by split <;> omega
  have := h _ hi (by split <;> omega) (by split <;> omega)
  have t := tb_ok hi
  exact ⟨v, e, by omega, by omega⟩
/-- A sine and the cosine of one angle of the first quarter. -/
theorem first_sq (k : Nat) {a : Int} (a0 : 0 ≤ a) (a1 : a ≤ 16384) : ∃ v w, trig_first k a = some v ∧ trig_first k (16384 - a) = some w ∧ (0 ≤ v ∧ v ≤ 65536) ∧ (0 ≤ w ∧ w ≤ 65536) ∧ 4100000000 ≤ v * v + w * w := by
  obtain ⟨v, e, h⟩ := first_eq k a0 a1
  obtain ⟨w, f, g⟩ := first_eq k (a := 16384 - a) (by omega) (by omega)
  have hi : ((a / 256).toNat - (if a = 16384 then 1 else 0)) < 64 := by split <;> omega
  have h1 := h _ hi (by split <;> omega) (by split <;> omega)
  have g1 := g (63 - ((a / 256).toNat - (if a = 16384 then 1 else 0))) (by omega) (by split <;> omega) (by split <;> omega)
  have t := tb_ok hi
  have t2 := tb_ok (i := 63 - ((a / 256).toNat - (if a = 16384 then 1 else 0))) (by omega)
  have s1 : ∀ {x y : Int}, 0 ≤ x → x ≤ y → x * x ≤ y * y := fun hx hy => Int.mul_le_mul hy hy hx (by omega)
  have q1 := s1 t.2.2.1 h1.1
  have q2 := s1 t2.2.2.1 g1.1
  exact ⟨v, w, e, f, by omega, by omega, by omega⟩
theorem and_turn {x : Int} (h0 : 0 ≤ x) (h1 : x ≤ 1000000) : ibits .and .i64 x 65535 = x % 65536 := by
  obtain ⟨n, rfl⟩ := Int.eq_ofNat_of_zero_le h0
  simp only [ibits]
  have e : ((BitVec.ofInt IntKind.i64.bits (n : Int)) &&& (BitVec.ofInt IntKind.i64.bits (65535 : Int))).toNat = n % 2 ^ 16 := by
    show ((BitVec.ofInt 64 (n : Int)) &&& (BitVec.ofInt 64 ((65535 : Nat) : Int))).toNat = _
    rw [BitVec.toNat_and]
    have e1 : (BitVec.ofInt 64 (n : Int)).toNat = n := by simp; omega
    have e2 : (BitVec.ofInt 64 ((65535 : Nat) : Int)).toNat = 2 ^ 16 - 1 := by decide
    rw [e1, e2, Nat.and_two_pow_sub_one_eq_mod]
  rw [e]
  rw [wrap_i64 (by omega) (by omega)]
  omega
theorem Sin_eq (k : Nat) {x : Int} (h0 : 0 ≤ x) (h1 : x ≤ 100000) : ∃ v w : Int, trig_Sin k x = some v ∧ trig_first k (if x % 65536 / 16384 = 0 ∨ x % 65536 / 16384 = 2 then x % 16384 else 16384 - x % 16384) = some w ∧ (v = w ∨ v = -w) := by
  have ha := and_turn h0 (by omega)
  have hq : iquo .i64 (x % 65536) 16384 = x % 65536 / 16384 := iquo_i64 (by omega) (by omega) (by decide)
  have hr : irem (x % 65536) 16384 = x % 16384 := by rw [irem_nonneg (by omega)]; omega
  unfold trig_Sin
  rw [ha, hq, hr]
  have i1 : isub .i64 16384 (x % 16384) = 16384 - x % 16384 := isub_i64 (by omega) (by omega)
  rw [i1]
  obtain ⟨v, e, v0, v1⟩ := first_bd k (a := x % 16384) (by omega) (by omega)
  obtain ⟨w, f, w0, w1⟩ := first_bd k (a := 16384 - x % 16384) (by omega) (by omega)
  have nv : ineg .i64 v = -v := by unfold ineg; rw [wrap_i64 (by omega) (by omega)]; omega
  have nw : ineg .i64 w = -w := by unfold ineg; rw [wrap_i64 (by omega) (by omega)]; omega
  by_cases c0 : x % 65536 / 16384 = 0
  · rw [ieq_pos c0, bif_true, e, bnd_some, if_pos (Or.inl c0)]
    exact ⟨v, v, rfl, e, Or.inl rfl⟩
  · rw [ieq_neg c0, bif_false]
    by_cases c1 : x % 65536 / 16384 = 1
    · rw [ieq_pos c1, bif_true, f, bnd_some, if_neg (by omega)]
      exact ⟨w, w, rfl, f, Or.inl rfl⟩
    · rw [ieq_neg c1, bif_false]
      by_cases c2 : x % 65536 / 16384 = 2
      · rw [ieq_pos c2, bif_true, e, bnd_some, if_pos (Or.inr c2), nv]
        exact ⟨_, v, rfl, e, Or.inr rfl⟩
      · rw [ieq_neg c2, bif_false, f, bnd_some, if_neg (by omega), nw]
        exact ⟨_, w, rfl, f, Or.inr rfl⟩
/-- The cosine and the sine of an angle. -/
theorem trig_eq (k : Nat) {x : Int} (h0 : 0 ≤ x) (h1 : x ≤ 65535) : ∃ c s : Int, trig_Cos k x = some c ∧ trig_Sin k x = some s ∧ (-65536 ≤ c ∧ c ≤ 65536) ∧ (-65536 ≤ s ∧ s ≤ 65536) ∧ 4100000000 ≤ c * c + s * s := by
  obtain ⟨s, w, e1, f1, g1⟩ := Sin_eq k (x := x) h0 (by omega)
  have ha := and_turn h0 (by omega)
  have hx : x % 65536 = x := Int.emod_eq_of_lt h0 (by omega)
  obtain ⟨c, z, e2, f2, g2⟩ := Sin_eq k (x := x + 16384) (by omega) (by omega)
  have hc : trig_Cos k x = some c := by
    unfold trig_Cos
    rw [ha, hx, iadd_i64 (by omega) (by omega), e2, bnd_some]
  obtain ⟨v1, v2, a1, a2, b1, b2, b3⟩ := first_sq k (a := x % 16384) (by omega) (by omega)
  refine ⟨c, s, hc, e1, ?_⟩
  have neg : ∀ {p r : Int}, p = r ∨ p = -r → p * p = r * r := by
    intro p r h
    rcases h with h | h <;> rw [h]
    rw [Int.neg_mul_neg]
  have q1 := neg g1
  have q2 := neg g2
  by_cases c0 : x % 65536 / 16384 = 0 ∨ x % 65536 / 16384 = 2
  · rw [if_pos c0, a1] at f1
    rw [if_neg (by omega), show 16384 - (x + 16384) % 16384 = 16384 - x % 16384 by omega, a2] at f2
    cases f1
    cases f2
    refine ⟨by rcases g2 with h | h <;> omega, by rcases g1 with h | h <;> omega, by omega⟩
  · rw [if_neg c0, a2] at f1
    rw [if_pos (by omega), show (x + 16384) % 16384 = x % 16384 by omega, a1] at f2
    cases f1
    cases f2
    refine ⟨by rcases g2 with h | h <;> omega, by rcases g1 with h | h <;> omega, by omega⟩
end Go.Proofs.T1
