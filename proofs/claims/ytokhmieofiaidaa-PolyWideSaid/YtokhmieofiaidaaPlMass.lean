/-
  Plain laws: no program in sight.
-/
import Derived.Test.YtokhmieofiaidaaPlCut
import Derived.Test.YtokhmieofiaidaaG6
namespace Go.Proofs.T1
open Go Go.Sx

/-- A quotient of magnitudes, rounded: from a half on up, of negative ones above a half down. -/
def rndM (ng : Bool) (X D : Int) : Int := if ng then -((2 * X + D - 1) / (2 * D)) else (2 * X + D) / (2 * D)
/-- What fits is returned, else an error. -/
def fit (R : Int) : Int × Int := if -9223372036854775808 ≤ R ∧ R ≤ 9223372036854775807 then (R, 0) else (0, 2)

theorem div_lo {q r D c : Int} (hD : 0 < D) (h0 : 0 ≤ c) (h1 : c < 2 * D) : (2 * (D * q + r) + (c - 2 * r)) / (2 * D) = q := by
  have e : 2 * (D * q + r) + (c - 2 * r) = c + (2 * D) * q := by grind
  rw [e, Int.add_mul_ediv_left _ _ (by omega), Int.ediv_eq_zero_of_lt h0 h1]
  omega

theorem rnd_up {q r D : Int} (hr : 0 ≤ r) (hr' : r < D) : (2 * (D * q + r) + D) / (2 * D) = if D ≤ 2 * r then q + 1 else q := by
  split
  · have h := div_lo (q := q + 1) (r := r - D) (c := 2 * r - D) (D := D) (by omega) (by omega) (by omega)
    rw [show 2 * (D * q + r) + D = 2 * (D * (q + 1) + (r - D)) + (2 * r - D - 2 * (r - D)) by grind]
    exact h
  · have h := div_lo (q := q) (r := r) (c := 2 * r + D) (D := D) (by omega) (by omega) (by omega)
    rw [show 2 * (D * q + r) + D = 2 * (D * q + r) + (2 * r + D - 2 * r) by omega]
    exact h
theorem rnd_dn {q r D : Int} (hr : 0 ≤ r) (hr' : r < D) : (2 * (D * q + r) + D - 1) / (2 * D) = if D + 1 ≤ 2 * r then q + 1 else q := by
  split
  · have h := div_lo (q := q + 1) (r := r - D) (c := 2 * r - D - 1) (D := D) (by omega) (by omega) (by omega)
    rw [show 2 * (D * q + r) + D - 1 = 2 * (D * (q + 1) + (r - D)) + (2 * r - D - 1 - 2 * (r - D)) by grind]
    exact h
  · have h := div_lo (q := q) (r := r) (c := 2 * r + D - 1) (D := D) (by omega) (by omega) (by omega)
    rw [show 2 * (D * q + r) + D - 1 = 2 * (D * q + r) + (2 * r + D - 1 - 2 * r) by omega]
    exact h

theorem Over_tail2 {k : Nat} (hk : 2 ≤ k) {m : V40} (hm : WOk m) {X D : Int} {ng : Bool} (hX : X = m.1 % 18446744073709551616 * 18446744073709551616 + m.2.1) (hD : 0 < D) (hD' : D ≤ 9223372036854775808) :
    (bif' (ige (icv .u64 m.1) D) (some ((0 : Int), (2 : Int)))
     (bnd (bits_Div64 k (icv .u64 m.1) m.2.1 D) fun y11 =>
      bnd (poly_Wide_Over.c3 k (ng, D) y11) fun o15 =>
      bnd (poly_Wide_Over.c4 k o15 y11) fun o19 =>
      two o19 (fun _ => some ((0 : Int), (2 : Int))) (fun y23 =>
      bnd (poly_Wide_Over.c5 k (ng, D) y23) fun o26 =>
       bif' o26 (some ((icv .i64 (ineg .u64 y23)), 0))
       (bnd (poly_Wide_Over.c6 k (ng, D) y23) fun o30 => bif' o30 (some ((icv .i64 y23), 0)) (some (0, 2)))))) = some (fit (rndM ng X D)) := by
  have hm3 := hm.2.2.1
  have hm4 := hm.2.2.2
  have e1 : icv .u64 m.1 = m.1 % 18446744073709551616 := icv_u64 _
  rw [e1]
  have hh0 : 0 ≤ m.1 % 18446744073709551616 := Int.emod_nonneg _ (by decide)
  generalize m.1 % 18446744073709551616 = hi at *
  -- the quotient
  have hq := Int.mul_ediv_add_emod X D
  have hr0 := Int.emod_nonneg X (show D ≠ 0 by omega)
  have hr1 := Int.emod_lt_of_pos X hD
  have hX0 : 0 ≤ X := by omega
  have hq0 : 0 ≤ X / D := Int.ediv_nonneg hX0 (by omega)
  have hR : rndM ng X D = if ng then -(if D + 1 ≤ 2 * (X % D) then X / D + 1 else X / D) else (if D ≤ 2 * (X % D) then X / D + 1 else X / D) := by
    unfold rndM
    conv => lhs; rw [← hq]
    rw [rnd_up hr0 hr1, rnd_dn hr0 hr1]
  by_cases hc : D ≤ hi
  · have c1 : ige hi D = true := ige_pos hc
    rw [c1, bif_true]
    have hge : 18446744073709551616 ≤ X / D := by
      rw [Int.le_ediv_iff_mul_le hD]
      omega
    have : fit (rndM ng X D) = (0, 2) := by
      rw [hR]
      unfold fit
      rw [if_neg]
      cases ng <;> simp only [Bool.false_eq_true, if_false, if_true] <;> split <;> omega
    rw [this]
  · have c1 : ige hi D = false := ige_neg (by omega)
    rw [c1, bif_false, Div64_eq hk hh0 (by omega) (by omega) hm3 hm4, ← hX, bnd_some]
    have hlt : X / D < 18446744073709551616 := by
      rw [Int.ediv_lt_iff_lt_mul hD]
      have : hi * 18446744073709551616 ≤ (D - 1) * 18446744073709551616 := Int.mul_le_mul_of_nonneg_right (by omega) (by decide)
      omega
    generalize X / D = q at *
    generalize X % D = r at *
    have e2 : isub .u64 D r = D - r := by rw [isub_u64]; omega
    have c3 : poly_Wide_Over.c3 k (ng, D) (q, r) = some (if ng then decide (D + 1 ≤ 2 * r) else decide (D ≤ 2 * r)) := by
      unfold poly_Wide_Over.c3
      dsimp only
      rw [e2]
      by_cases h1 : r > D - r
      · rw [igt_pos h1, bif_true]
        have a1 : D + 1 ≤ 2 * r := by omega
        have a2 : D ≤ 2 * r := by omega
        simp [a1, a2]
      · rw [igt_neg (by omega), bif_false]
        have a1 : ¬ D + 1 ≤ 2 * r := by omega
        by_cases h2 : r = D - r
        · rw [ieq_pos h2, bif_true]
          have a2 : D ≤ 2 * r := by omega
          cases ng <;> simp [a1, a2]
        · rw [ieq_neg h2, bif_false]
          have a2 : ¬ D ≤ 2 * r := by omega
          simp [a1, a2]
    rw [c3, bnd_some]
    -- the rounded quotient
    have hu : ∃ up : Bool, (if ng then decide (D + 1 ≤ 2 * r) else decide (D ≤ 2 * r)) = up ∧ rndM ng X D = if ng then -(if up then q + 1 else q) else (if up then q + 1 else q) := by
      refine ⟨_, rfl, ?_⟩
      rw [hR]
      cases ng <;> simp
    obtain ⟨up, u1, u2⟩ := hu
    rw [u1, u2]
    unfold poly_Wide_Over.c4
    have fin : ∀ Q : Int, 0 ≤ Q → Q < 18446744073709551616 → (bnd (poly_Wide_Over.c5 k (ng, D) Q) fun o26 =>
       bif' o26 (some ((icv .i64 (ineg .u64 Q)), (0 : Int)))
       (bnd (poly_Wide_Over.c6 k (ng, D) Q) fun o30 => bif' o30 (some ((icv .i64 Q), 0)) (some (0, 2)))) = some (fit (if ng then -Q else Q)) := by
      intro Q q0 q1
      unfold poly_Wide_Over.c5 poly_Wide_Over.c6
      cases ng with
      | true =>
        simp only [bif_true, bnd_some, if_true]
        by_cases h : Q ≤ 9223372036854775808
        · rw [ile_pos h, bif_true]
          have : icv .i64 (ineg .u64 Q) = -Q := by
            rw [ineg_u64]
            unfold icv
            rw [wrap_i64_eq]
            split <;> omega
          rw [this]
          unfold fit
          rw [if_pos (by omega)]
        · rw [ile_neg (by omega), bif_false, bif_false]
          unfold fit
          rw [if_neg (by omega)]
      | false =>
        simp only [bif_false, bnd_some, Bool.false_eq_true, if_false]
        by_cases h : Q < 9223372036854775808
        · rw [ilt_pos h, bif_true, icv_i64 (by omega) (by omega)]
          unfold fit
          rw [if_pos (by omega)]
        · rw [ilt_neg (by omega), bif_false]
          unfold fit
          rw [if_neg (by omega)]
    cases up with
    | false =>
      rw [bif_false, bnd_some, two_inr]
      exact fin q (by omega) hlt
    | true =>
      rw [bif_true, iadd_u64]
      dsimp only
      by_cases h : q = 18446744073709551615
      · subst h
        have : ieq (((18446744073709551615 : Int) + 1) % 18446744073709551616) 0 = true := rfl
        rw [this, bif_true, bnd_some, two_inl]
        unfold fit
        rw [if_neg]
        cases ng <;> simp <;> omega
      · have e4 : (q + 1) % 18446744073709551616 = q + 1 := by omega
        rw [e4, ieq_neg (by omega), bif_false, bnd_some, two_inr]
        exact fin (q + 1) (by omega) (by omega)

def mag (x : Int) : Int := if x < 0 then -x else x

/-- Over, of any number. -/
theorem Over_gen {k : Nat} (hk : 2 ≤ k) {w : V40} (hw : WOk w) {n : Int} (hn : I64 n) (h0 : n ≠ 0) :
    poly_Wide_Over k w n = some (fit (rndM (decide (wv w < 0) != decide (n < 0)) (mag (wv w)) (mag n))) := by
  have hwv : wv w = w.1 * 18446744073709551616 + w.2.1 := rfl
  unfold I64 at hn
  have c1 : ∃ m, poly_Wide_Over.c1 k w = some m ∧ WOk m ∧ mag (wv w) = m.1 % 18446744073709551616 * 18446744073709551616 + m.2.1 := by
    unfold poly_Wide_Over.c1
    unfold WOk at hw
    by_cases hneg : w.1 < 0
    · have hlt : wv w < 0 := by omega
      obtain ⟨m, h1, h2, h3⟩ := Minus_eq k (a := ((0 : Int), (0 : Int), ())) (b := w) ⟨by decide, by decide, by decide, by decide⟩ hw
      refine ⟨m, ?_, h2, ?_⟩
      · rw [ilt_pos hneg, bif_true, h1, bnd_some]
      · have e0 : wv ((0 : Int), (0 : Int), ()) = 0 := rfl
        rw [e0] at h3
        unfold WOk at h2
        have h8 : wv m = m.1 * 18446744073709551616 + m.2.1 := rfl
        unfold mag
        rw [if_pos hlt]
        omega
    · have hge : ¬ wv w < 0 := by omega
      refine ⟨w, by rw [ilt_neg (by omega), bif_false], hw, ?_⟩
      unfold mag
      rw [if_neg hge]
      omega
  obtain ⟨m, e1, hm, hmv⟩ := c1
  have hneg : ilt w.1 0 = decide (wv w < 0) := by
    unfold ilt
    unfold WOk at hw
    rw [decide_eq_decide]
    omega
  unfold poly_Wide_Over
  rw [ieq_neg h0, bif_false, e1, bnd_some]
  have c2 : poly_Wide_Over.c2 k w n = some ((decide (wv w < 0) != decide (n < 0)), mag n) := by
    unfold poly_Wide_Over.c2 mag
    rw [hneg]
    by_cases h : n < 0
    · rw [ilt_pos h, bif_true, if_pos h, icv_u64, ineg_u64]
      congr 2
      · simp [h]
      · omega
    · rw [ilt_neg (by omega), bif_false, if_neg h, icv_u64]
      congr 2
      · simp [h]
      · omega
  rw [c2, bnd_some]
  refine Over_tail2 hk hm hmv ?_ ?_
  · unfold mag
    split <;> omega
  · unfold mag
    split <;> omega

/-- The nearest whole number, halves upwards. -/
def rnd (x n : Int) : Int := (2 * x + n) / (2 * n)
theorem rnd_pos {x n : Int} (hn : 0 < n) : rndM (decide (x < 0) != decide (n < 0)) (mag x) (mag n) = rnd x n := by
  have hnn : ¬ n < 0 := by omega
  unfold mag rndM rnd
  rw [if_neg hnn]
  by_cases hx : x < 0
  · simp only [hx, hnn, decide_true, decide_false, if_true]
    have e : (true != false) = true := rfl
    rw [e, if_pos rfl]
    have hq := Int.mul_ediv_add_emod (-x) n
    have hr0 := Int.emod_nonneg (-x) (show n ≠ 0 by omega)
    have hr1 := Int.emod_lt_of_pos (-x) hn
    generalize (-x) / n = q at *
    generalize (-x) % n = r at *
    rw [← hq, rnd_dn hr0 hr1]
    have hx2 : 2 * x + n = -2 * (n * q + r) + n := by omega
    rw [hx2]
    split
    · have h := div_lo (q := -(q + 1)) (r := 0) (c := 3 * n - 2 * r) (D := n) hn (by omega) (by omega)
      rw [show -2 * (n * q + r) + n = 2 * (n * -(q + 1) + 0) + (3 * n - 2 * r - 2 * 0) by grind]
      exact h.symm
    · have h := div_lo (q := -q) (r := 0) (c := n - 2 * r) (D := n) hn (by omega) (by omega)
      rw [show -2 * (n * q + r) + n = 2 * (n * -q + 0) + (n - 2 * r - 2 * 0) by grind]
      exact h.symm
  · simp only [hx, hnn, decide_false, if_false]
    rfl
theorem Over_pos {k : Nat} (hk : 2 ≤ k) {w : V40} (hw : WOk w) {n : Int} (hn : 0 < n) (hn' : n ≤ 9223372036854775807) : poly_Wide_Over k w n = some (fit (rnd (wv w) n)) := by
  rw [Over_gen hk hw ⟨by omega, hn'⟩ (by omega), rnd_pos hn]

theorem rnd_add {x n c : Int} (hn : 0 < n) : rnd (x + n * c) n = rnd x n + c := by
  unfold rnd
  have e : 2 * (x + n * c) + n = 2 * x + n + 2 * n * c := by grind
  rw [e, Int.add_mul_ediv_left _ _ (by omega)]
theorem rnd_bd {x n c : Int} (hn : 0 < n) (h0 : -(n * c) ≤ x) (h1 : x ≤ n * c) : -c ≤ rnd x n ∧ rnd x n ≤ c := by
  unfold rnd
  constructor
  · rw [Int.le_ediv_iff_mul_le (by omega)]
    have e : -c * (2 * n) = 2 * -(n * c) := by grind
    omega
  · have : (2 * x + n) / (2 * n) < c + 1 := by
      rw [Int.ediv_lt_iff_lt_mul (by omega)]
      have e : (c + 1) * (2 * n) = 2 * (n * c) + 2 * n := by grind
      omega
    omega
theorem fit_in {R : Int} (h : -9223372036854775808 ≤ R ∧ R ≤ 9223372036854775807) : fit R = (R, 0) := if_pos h
end Go.Proofs.T1
namespace Go.Proofs.T1
open Go Go.Sx

/-! Sums along a polygon, and the same by triangles -/
def csn (l : List V24) (f : V24 → Int) : Nat → Int
  | 0 => 0
  | n + 1 => csn l f n + (f (q l n) + f (q l ((n : Int) + 1))) * cr (q l n) (q l ((n : Int) + 1))
def csv (l : List V24) (f : V24 → Int) (v : Int) : Int := csn l f v.toNat
theorem csv_zero (l : List V24) (f : V24 → Int) : csv l f 0 = 0 := rfl
theorem csv_succ (l : List V24) (f : V24 → Int) {v : Int} (h : 0 ≤ v) : csv l f (v + 1) = csv l f v + (f (q l v) + f (q l (v + 1))) * cr (q l v) (q l (v + 1)) := by
  obtain ⟨n, rfl⟩ := Int.eq_ofNat_of_zero_le h
  rfl
def cs (l : List V24) (f : V24 → Int) : Int := csv l f (len l - 1) + (f (q l (len l - 1)) + f (q l 0)) * cr (q l (len l - 1)) (q l 0)
def fanF (l : List V24) (f : V24 → Int) : Nat → Int
  | 0 => 0
  | m + 1 => fanF l f m + (f (q l 0) + f (q l ((m : Int) + 1)) + f (q l ((m : Int) + 2))) * tri (q l 0) (q l ((m : Int) + 1)) (q l ((m : Int) + 2))
def Lin (f : V24 → Int) : Prop := ∀ a b c, f a * cr b c + f b * cr c a + f c * cr a b = 0
def px (a : V24) : Int := a.1
def py (a : V24) : Int := a.2.1
theorem lin_px : Lin px := by intro a b c; unfold px cr; grind
theorem lin_py : Lin py := by intro a b c; unfold py cr; grind
theorem tri_cr (a b c : V24) : tri a b c = cr a b + cr b c + cr c a := by unfold tri cr; grind
theorem cr_swap (a b : V24) : cr b a = - cr a b := by unfold cr; grind

theorem fanF_cs (l : List V24) {f : V24 → Int} (hf : Lin f) (m : Nat) : csn l f (m + 1) + (f (q l ((m : Int) + 1)) + f (q l 0)) * cr (q l ((m : Int) + 1)) (q l 0) = fanF l f m := by
  induction m with
  | zero =>
    show 0 + (f (q l 0) + f (q l (0 + 1))) * cr (q l 0) (q l (0 + 1)) + (f (q l (0 + 1)) + f (q l 0)) * cr (q l (0 + 1)) (q l 0) = 0
    rw [cr_swap (q l 0) (q l (0 + 1))]
    grind
  | succ m ih =>
    show csn l f (m + 1) + (f (q l ((m + 1 : Nat) : Int)) + f (q l (((m + 1 : Nat) : Int) + 1))) * cr (q l ((m + 1 : Nat) : Int)) (q l (((m + 1 : Nat) : Int) + 1)) + (f (q l (((m + 1 : Nat) : Int) + 1)) + f (q l 0)) * cr (q l (((m + 1 : Nat) : Int) + 1)) (q l 0) = fanF l f m + (f (q l 0) + f (q l ((m : Int) + 1)) + f (q l ((m : Int) + 2))) * tri (q l 0) (q l ((m : Int) + 1)) (q l ((m : Int) + 2))
    rw [← ih, show ((m + 1 : Nat) : Int) = (m : Int) + 1 by omega, show (m : Int) + 1 + 1 = (m : Int) + 2 by omega, tri_cr]
    have h := hf (q l 0) (q l ((m : Int) + 1)) (q l ((m : Int) + 2))
    rw [cr_swap (q l ((m : Int) + 1)) (q l 0)] at *
    generalize csn l f (m + 1) = S at *
    generalize f (q l 0) = f0 at *
    generalize f (q l ((m : Int) + 1)) = f1 at *
    generalize f (q l ((m : Int) + 2)) = f2 at *
    generalize cr (q l ((m : Int) + 1)) (q l ((m : Int) + 2)) = c12 at *
    generalize cr (q l ((m : Int) + 2)) (q l 0) = c20 at *
    generalize cr (q l ((m : Int) + 1)) (q l 0) = c10 at *
    grind
theorem cs_fan {l : List V24} (h : 3 ≤ len l) {f : V24 → Int} (hf : Lin f) : cs l f = fanF l f (l.length - 2) := by
  have e : len l - 1 = ((l.length - 2 : Nat) : Int) + 1 := by unfold len at *; omega
  rw [← fanF_cs l hf]
  unfold cs csv
  rw [e, show (((l.length - 2 : Nat) : Int) + 1).toNat = l.length - 2 + 1 by omega]

theorem fanF_shift {l m : List V24} {f : V24 → Int} {c : Int} (hl : ∀ i, 0 ≤ i → i < len l → f (q m i) = f (q l i) + c) (ht : ∀ i j k, 0 ≤ i → i < len l → 0 ≤ j → j < len l → 0 ≤ k → k < len l → tri (q m i) (q m j) (q m k) = tri (q l i) (q l j) (q l k)) :
    ∀ n : Nat, (n : Int) + 1 < len l → fanF m f n = fanF l f n + 3 * fanN l n * c := by
  intro n
  induction n with
  | zero => intro _; simp [fanF, fanN]
  | succ n ih =>
    intro h
    simp only [fanF, fanN]
    rw [ih (by omega), ht 0 ((n : Int) + 1) ((n : Int) + 2) (by omega) (by omega) (by omega) (by omega) (by omega) (by omega), hl 0 (by omega) (by omega), hl ((n : Int) + 1) (by omega) (by omega), hl ((n : Int) + 2) (by omega) (by omega)]
    grind

theorem fanF_bd {l : List V24} (ht : TripP l) {f : V24 → Int} {R : Int} (hf : ∀ i, 0 ≤ i → i < len l → -R ≤ f (q l i) ∧ f (q l i) ≤ R) : ∀ n : Nat, (n : Int) + 1 < len l → -(3 * fanN l n * R) ≤ fanF l f n ∧ fanF l f n ≤ 3 * fanN l n * R := by
  intro n
  induction n with
  | zero => intro _; simp [fanF, fanN]
  | succ n ih =>
    intro h
    have h1 := ih (by omega)
    have t := ht 0 ((n : Int) + 1) ((n : Int) + 2) (by omega) (by omega) (by omega) (by omega)
    have f0 := hf 0 (by omega) (by omega)
    have f1 := hf ((n : Int) + 1) (by omega) (by omega)
    have f2 := hf ((n : Int) + 2) (by omega) (by omega)
    simp only [fanF, fanN]
    generalize tri (q l 0) (q l ((n : Int) + 1)) (q l ((n : Int) + 2)) = T at *
    generalize f (q l 0) = a at *
    generalize f (q l ((n : Int) + 1)) = b at *
    generalize f (q l ((n : Int) + 2)) = c at *
    have p1 : 0 ≤ (3 * R - (a + b + c)) * T := Int.mul_nonneg (by omega) (by omega)
    have p2 : 0 ≤ (3 * R + (a + b + c)) * T := Int.mul_nonneg (by omega) (by omega)
    have e1 : (3 * R - (a + b + c)) * T = 3 * T * R - (a + b + c) * T := by grind
    have e2 : (3 * R + (a + b + c)) * T = 3 * T * R + (a + b + c) * T := by grind
    have e3 : 3 * (fanN l n + T) * R = 3 * fanN l n * R + 3 * T * R := by grind
    rw [e3]
    omega

/-- The centre. -/
def ctr (l : List V24) : V24 := (rnd (cs l px) (3 * area l), rnd (cs l py) (3 * area l), ())
theorem cs_bd {l : List V24} (hv : Val l) {f : V24 → Int} (hl : Lin f) {R : Int} (hf : ∀ i, 0 ≤ i → i < len l → -R ≤ f (q l i) ∧ f (q l i) ≤ R) : -(3 * area l * R) ≤ cs l f ∧ cs l f ≤ 3 * area l * R := by
  rw [cs_fan hv.1 hl, area_fan hv.1]
  have := hv.1
  unfold len at this
  exact fanF_bd (Edge_Trip hv.2.2.2) hf _ (by unfold len; omega)
theorem ctr_bd {l : List V24} (hv : Val l) {R : Int} (hf : ∀ i, 0 ≤ i → i < len l → -R ≤ (q l i).1 ∧ (q l i).1 ≤ R ∧ -R ≤ (q l i).2.1 ∧ (q l i).2.1 ≤ R) :
    -R ≤ (ctr l).1 ∧ (ctr l).1 ≤ R ∧ -R ≤ (ctr l).2.1 ∧ (ctr l).2.1 ≤ R := by
  have ha := area_pos hv
  have h1 := cs_bd hv lin_px (R := R) (fun i a b => ⟨(hf i a b).1, (hf i a b).2.1⟩)
  have h2 := cs_bd hv lin_py (R := R) (fun i a b => ⟨(hf i a b).2.2.1, (hf i a b).2.2.2⟩)
  have r1 := rnd_bd (x := cs l px) (n := 3 * area l) (c := R) (by omega) h1.1 h1.2
  have r2 := rnd_bd (x := cs l py) (n := 3 * area l) (c := R) (by omega) h2.1 h2.2
  exact ⟨r1.1, r1.2, r2.1, r2.2⟩
theorem ctr_shift {l : List V24} {p : V24} (hv : Val l) : ctr (shift l p) = ((ctr l).1 + p.1, (ctr l).2.1 + p.2.1, ()) := by
  have ha := area_pos hv
  have h3 := hv.1
  have key : ∀ (f : V24 → Int), Lin f → ∀ c, (∀ i, 0 ≤ i → i < len l → f (q (shift l p) i) = f (q l i) + c) → rnd (cs (shift l p) f) (3 * area (shift l p)) = rnd (cs l f) (3 * area l) + c := by
    intro f hf c hc
    rw [cs_fan (by rw [len_shift]; exact h3) hf, cs_fan h3 hf, area_shift h3, ← rnd_add (by omega)]
    have hl : (shift l p).length = l.length := by unfold shift; simp
    have hlen : len l = (l.length : Int) := rfl
    rw [hl, fanF_shift hc (fun i j k a b c d e g => by rw [q_shift a b, q_shift c d, q_shift e g, tri_shift]) _ (by omega), ← area_fan h3]
  unfold ctr
  rw [key px lin_px p.1 (fun i a b => by rw [q_shift a b]; rfl), key py lin_py p.2.1 (fun i a b => by rw [q_shift a b]; rfl)]

/-! What the program computes -/
theorem Plus_exact (k : Nat) {a b : V40} (ha : WOk a) (hb : WOk b) (h0 : -170141183460469231731687303715884105728 ≤ wv a + wv b) (h1 : wv a + wv b < 170141183460469231731687303715884105728) : ∃ c, poly_Wide_Plus k a b = some c ∧ WOk c ∧ wv c = wv a + wv b := by
  obtain ⟨c, e, o, v⟩ := Plus_eq k ha hb
  refine ⟨c, e, o, ?_⟩
  unfold WOk at o
  have hc : wv c = c.1 * 18446744073709551616 + c.2.1 := rfl
  omega

theorem mcross_eq (k : Nat) {a b : V24} {M : Int} (hM : M ≤ 131072000) (ha : -M ≤ a.1 ∧ a.1 ≤ M ∧ -M ≤ a.2.1 ∧ a.2.1 ≤ M) (hb : -M ≤ b.1 ∧ b.1 ≤ M ∧ -M ≤ b.2.1 ∧ b.2.1 ≤ M) : mass_cross k a b = some (cr a b) ∧ -(2 * (M * M)) ≤ cr a b ∧ cr a b ≤ 2 * (M * M) := by
  have h1 := mul_bd (x := a.1) (y := b.2.1) (M := M) (N := M) (by omega) (by omega) (by omega) (by omega)
  have h2 := mul_bd (x := a.2.1) (y := b.1) (M := M) (N := M) (by omega) (by omega) (by omega) (by omega)
  have h3 : M * M ≤ 131072000 * 131072000 := Int.mul_le_mul hM hM (by omega) (by decide)
  unfold mass_cross cr
  rw [imul_i64 (by omega) (by omega), imul_i64 (by omega) (by omega), isub_i64 (by omega) (by omega)]
  exact ⟨rfl, by omega, by omega⟩

theorem area_le {l : List V24} (hv : Val l) : area l ≤ 300000000000000000 := by
  rw [area_fan hv.1]
  have h8 := hv.2.1
  have : ∀ j : Nat, (j : Int) + 2 ≤ len l → fanN l j ≤ j * 34359738368000000 := by
    intro j
    induction j with
    | zero => intro _; simp [fanN]
    | succ j ih =>
      intro h
      have h1 := ih (by omega)
      have h2 := tri_range (hv.2.2.1 0 (by omega) (by omega)) (hv.2.2.1 ((j : Int) + 1) (by omega) (by omega)) (hv.2.2.1 ((j : Int) + 2) (by omega) (by omega))
      simp only [fanN]
      omega
  have h3 := this (l.length - 2) (by have := hv.1; unfold len at *; omega)
  unfold len at h8
  omega

theorem centre_eq {k : Nat} (hk : 9 ≤ k) {l : List V24} (hv : Val l) : mass_centre k l (area l) = some (ctr l) := by
  have h8 := hv.2.1
  have h3 := hv.1
  have H := inv_loop (fun n (s : V40 × V40) v => mass_centre.c1 k l n v s.1 s.2) 0 (len l) (fun s v =>
      WOk s.1 ∧ WOk s.2 ∧ (v < len l → wv s.1 = csv l px v ∧ wv s.2 = csv l py v) ∧ (v = len l → wv s.1 = cs l px ∧ wv s.2 = cs l py) ∧
      -(v * 10000000000000000000000000) ≤ wv s.1 ∧ wv s.1 ≤ v * 10000000000000000000000000 ∧ -(v * 10000000000000000000000000) ≤ wv s.2 ∧ wv s.2 ≤ v * 10000000000000000000000000)
    (by
      intro n s v a b ⟨w1, w2, c, _, d1, d2, d3, d4⟩
      have hn := nx_range a b
      have ha := hv.2.2.1 v a b
      have hb := hv.2.2.1 _ hn.1 hn.2
      have c := c b
      obtain ⟨e1, e2, e3⟩ := mcross_eq k (a := q l v) (b := q l (nx (len l) v)) (M := 65536000) (by decide) ha hb
      have hx := mul_bd (x := (q l v).1 + (q l (nx (len l) v)).1) (y := cr (q l v) (q l (nx (len l) v))) (M := 131072000) (N := 2 * (65536000 * 65536000)) (by unfold Wn at *; omega) (by unfold Wn at *; omega) e2 e3
      have hy := mul_bd (x := (q l v).2.1 + (q l (nx (len l) v)).2.1) (y := cr (q l v) (q l (nx (len l) v))) (M := 131072000) (N := 2 * (65536000 * 65536000)) (by unfold Wn at *; omega) (by unfold Wn at *; omega) e2 e3
      have tx : iadd .i64 (q l v).1 (q l (nx (len l) v)).1 = (q l v).1 + (q l (nx (len l) v)).1 := iadd_i64 (by unfold Wn at *; omega) (by unfold Wn at *; omega)
      have ty : iadd .i64 (q l v).2.1 (q l (nx (len l) v)).2.1 = (q l v).2.1 + (q l (nx (len l) v)).2.1 := iadd_i64 (by unfold Wn at *; omega) (by unfold Wn at *; omega)
      obtain ⟨t1, f1, o1, v1⟩ := Times_eq k (a := (q l v).1 + (q l (nx (len l) v)).1) (b := cr (q l v) (q l (nx (len l) v))) (by unfold Wn at *; omega) (by unfold Wn at *; omega) (by omega) (by omega)
      obtain ⟨t2, f2, o2, v2⟩ := Times_eq k (a := (q l v).2.1 + (q l (nx (len l) v)).2.1) (b := cr (q l v) (q l (nx (len l) v))) (by unfold Wn at *; omega) (by unfold Wn at *; omega) (by omega) (by omega)
      obtain ⟨s1, g1, p1, u1⟩ := Plus_exact k w1 o1 (by rw [v1]; omega) (by rw [v1]; omega)
      obtain ⟨s2, g2, p2, u2⟩ := Plus_exact k w2 o2 (by rw [v2]; omega) (by rw [v2]; omega)
      rw [v1] at u1
      rw [v2] at u2
      refine ⟨(s1, s2), ⟨p1, p2, ?_, ?_, by dsimp only; omega, by dsimp only; omega, by dsimp only; omega, by dsimp only; omega⟩, ?_⟩
      · intro h
        have hnx : nx (len l) v = v + 1 := by unfold nx; split <;> omega
        rw [csv_succ l px a, csv_succ l py a, ← c.1, ← c.2]
        rw [hnx] at u1 u2
        exact ⟨u1, u2⟩
      · intro h
        have hnx : nx (len l) v = 0 := by unfold nx; split <;> omega
        have hvv : len l - 1 = v := by omega
        unfold cs
        rw [hvv, ← c.1, ← c.2]
        rw [hnx] at u1 u2
        exact ⟨u1, u2⟩
      · show mass_centre.c1 k l (n + 1) v s.1 s.2 = mass_centre.c1 k l n (v + 1) s1 s2
        have e1 : mass_cross k (el Z24 l v) (el Z24 l (nx (len l) v)) = some (cr (q l v) (q l (nx (len l) v))) := e1
        have hq : el Z24 l v = q l v := rfl
        have hq2 : el Z24 l (nx (len l) v) = q l (nx (len l) v) := rfl
        rw [mass_centre.c1, ilt_pos b, bif_true, req_pos (inL_of a b), req_pos (show nz (len l) by unfold nz; omega), irem_nx a b (by omega), req_pos (inL_of hn.1 hn.2), e1, bnd_some, hq, hq2, tx, f1, bnd_some, g1, bnd_some, ty, f2, bnd_some, g2, bnd_some, iadd_i64 (by omega) (by omega)])
    (by
      intro n s v a b
      show mass_centre.c1 k l (n + 1) v s.1 s.2 = some s
      rw [mass_centre.c1, ilt_neg b, bif_false])
    k ((0, 0, ()), (0, 0, ())) 0 (by omega) (by omega) (by omega) ⟨⟨by decide, by decide, by decide, by decide⟩, ⟨by decide, by decide, by decide, by decide⟩, fun _ => ⟨rfl, rfl⟩, fun h => by omega, by decide, by decide, by decide, by decide⟩
  obtain ⟨⟨s1, s2⟩, ⟨w1, w2, _, h, _⟩, e⟩ := H
  have e : mass_centre.c1 k l k 0 (0, 0, ()) (0, 0, ()) = some (s1, s2) := e
  have h := h rfl
  have ha := area_pos hv
  have ha2 := area_le hv
  have hb := ctr_bd hv (R := 65536000) (fun i a b => hv.2.2.1 i a b)
  unfold mass_centre
  rw [e, bnd_some, imul_i64 (by omega) (by omega), Over_pos (by omega) w1 (by omega) (by omega), bnd_some, Over_pos (by omega) w2 (by omega) (by omega), bnd_some]
  dsimp only at h ⊢
  rw [h.1, h.2]
  unfold ctr at hb ⊢
  dsimp only at hb
  rw [fit_in (by omega), fit_in (by omega)]
end Go.Proofs.T1
namespace Go.Proofs.T1
open Go Go.Sx

def vsub (a c : V24) : V24 := (a.1 - c.1, a.2.1 - c.2.1, ())
def sq6 (u v : V24) : Int := u.1 * u.1 + u.1 * v.1 + v.1 * v.1 + u.2.1 * u.2.1 + u.2.1 * v.2.1 + v.2.1 * v.2.1
def t2 (a b c : V24) : Int := cr (vsub a c) (vsub b c) * sq6 (vsub a c) (vsub b c)
def m2n (l : List V24) (c : V24) : Nat → Int
  | 0 => 0
  | n + 1 => m2n l c n + t2 (q l n) (q l (nx (len l) n)) c
def m2 (l : List V24) (c : V24) : Int := m2n l c l.length
/-- Mass and inertia. -/
def mm (l : List V24) (d : Int) : Int := rnd (area l * d) 8589934592
def ss (l : List V24) : Int := rnd (m2 l (ctr l)) 51539607552
def ii (l : List V24) (d : Int) : Int := rnd (ss l * d) 4294967296
def massE (m i : Int) (c : V24) : Int × (Int × (V24 × Int)) := if m = 0 ∨ i = 0 then (0, 0, (0, 0, ()), 17) else if m > 1099511627776 ∨ i > 1099511627776 then (0, 0, (0, 0, ()), 2) else (m, i, c, 0)

def AllR (l : List V24) : Prop := ∀ i, 0 ≤ i → i < len l → -2097152 ≤ (q l i).1 ∧ (q l i).1 ≤ 2097152 ∧ -2097152 ≤ (q l i).2.1 ∧ (q l i).2.1 ≤ 2097152
instance (p : V24) : Decidable (-2097152 ≤ p.1 ∧ p.1 ≤ 2097152 ∧ -2097152 ≤ p.2.1 ∧ p.2.1 ≤ 2097152) := inferInstance

theorem m2_shift {l : List V24} {p c c' : V24} (h : c' = (c.1 + p.1, c.2.1 + p.2.1, ())) : m2 (shift l p) c' = m2 l c := by
  subst h
  have hl : (shift l p).length = l.length := by unfold shift; simp
  unfold m2
  rw [hl]
  have : ∀ n : Nat, n ≤ l.length → m2n (shift l p) (c.1 + p.1, c.2.1 + p.2.1, ()) n = m2n l c n := by
    intro n
    induction n with
    | zero => intro _; rfl
    | succ n ih =>
      intro hn
      have h0 : (n : Int) < len l := by unfold len; omega
      have hx := nx_range (n := len l) (i := n) (by omega) h0
      simp only [m2n]
      rw [ih (by omega), len_shift, q_shift (by omega) h0, q_shift hx.1 hx.2]
      unfold t2 vsub
      dsimp only
      have e : ∀ x y z : Int, x + z - (y + z) = x - y := by intro x y z; omega
      simp only [e]
  exact this _ (Nat.le_refl _)

theorem t2_bd {a b c : V24} (ha : -2097152 ≤ a.1 ∧ a.1 ≤ 2097152 ∧ -2097152 ≤ a.2.1 ∧ a.2.1 ≤ 2097152) (hb : -2097152 ≤ b.1 ∧ b.1 ≤ 2097152 ∧ -2097152 ≤ b.2.1 ∧ b.2.1 ≤ 2097152) (hc : -2097152 ≤ c.1 ∧ c.1 ≤ 2097152 ∧ -2097152 ≤ c.2.1 ∧ c.2.1 ≤ 2097152) :
    (-4194304 ≤ (vsub a c).1 ∧ (vsub a c).1 ≤ 4194304 ∧ -4194304 ≤ (vsub a c).2.1 ∧ (vsub a c).2.1 ≤ 4194304) ∧ (-105553116266496 ≤ sq6 (vsub a c) (vsub b c) ∧ sq6 (vsub a c) (vsub b c) ≤ 105553116266496) ∧
    (-35184372088832 ≤ cr (vsub a c) (vsub b c) ∧ cr (vsub a c) (vsub b c) ≤ 35184372088832) ∧ -(3713820117856140824697372672) ≤ t2 a b c ∧ t2 a b c ≤ 3713820117856140824697372672 := by
  have h1 : -4194304 ≤ (vsub a c).1 ∧ (vsub a c).1 ≤ 4194304 ∧ -4194304 ≤ (vsub a c).2.1 ∧ (vsub a c).2.1 ≤ 4194304 := by unfold vsub; dsimp only; omega
  have h2 : -4194304 ≤ (vsub b c).1 ∧ (vsub b c).1 ≤ 4194304 ∧ -4194304 ≤ (vsub b c).2.1 ∧ (vsub b c).2.1 ≤ 4194304 := by unfold vsub; dsimp only; omega
  have p1 := mul_bd (x := (vsub a c).1) (y := (vsub a c).1) (M := 4194304) (N := 4194304) (by omega) (by omega) (by omega) (by omega)
  have p2 := mul_bd (x := (vsub a c).1) (y := (vsub b c).1) (M := 4194304) (N := 4194304) (by omega) (by omega) (by omega) (by omega)
  have p3 := mul_bd (x := (vsub b c).1) (y := (vsub b c).1) (M := 4194304) (N := 4194304) (by omega) (by omega) (by omega) (by omega)
  have p4 := mul_bd (x := (vsub a c).2.1) (y := (vsub a c).2.1) (M := 4194304) (N := 4194304) (by omega) (by omega) (by omega) (by omega)
  have p5 := mul_bd (x := (vsub a c).2.1) (y := (vsub b c).2.1) (M := 4194304) (N := 4194304) (by omega) (by omega) (by omega) (by omega)
  have p6 := mul_bd (x := (vsub b c).2.1) (y := (vsub b c).2.1) (M := 4194304) (N := 4194304) (by omega) (by omega) (by omega) (by omega)
  have p7 := mul_bd (x := (vsub a c).1) (y := (vsub b c).2.1) (M := 4194304) (N := 4194304) (by omega) (by omega) (by omega) (by omega)
  have p8 := mul_bd (x := (vsub a c).2.1) (y := (vsub b c).1) (M := 4194304) (N := 4194304) (by omega) (by omega) (by omega) (by omega)
  have hs : -105553116266496 ≤ sq6 (vsub a c) (vsub b c) ∧ sq6 (vsub a c) (vsub b c) ≤ 105553116266496 := by unfold sq6; omega
  have hc : -35184372088832 ≤ cr (vsub a c) (vsub b c) ∧ cr (vsub a c) (vsub b c) ≤ 35184372088832 := by unfold cr; omega
  have ht := mul_bd (x := cr (vsub a c) (vsub b c)) (y := sq6 (vsub a c) (vsub b c)) (M := 35184372088832) (N := 105553116266496) hc.1 hc.2 hs.1 hs.2
  refine ⟨h1, hs, hc, ?_⟩
  unfold t2
  omega

theorem m2n_bd {l : List V24} {c : V24} (hl : AllR l) (hc : -2097152 ≤ c.1 ∧ c.1 ≤ 2097152 ∧ -2097152 ≤ c.2.1 ∧ c.2.1 ≤ 2097152) : ∀ n : Nat, (n : Int) ≤ len l → -(n * 3713820117856140824697372672) ≤ m2n l c n ∧ m2n l c n ≤ n * 3713820117856140824697372672 := by
  intro n
  induction n with
  | zero => intro _; simp [m2n]
  | succ n ih =>
    intro h
    have h1 := ih (by omega)
    have hx := nx_range (n := len l) (i := n) (by omega) (by omega)
    have h2 := (t2_bd (hl n (by omega) (by omega)) (hl _ hx.1 hx.2) hc).2.2.2
    simp only [m2n]
    omega

theorem Of_c1_ok {k : Nat} (hk : 9 ≤ k) {l : List V24} (hl : len l ≤ 8) : (mass_Of.c1 k l k 0 = some (.inl ()) ∧ ¬ AllR l) ∨ (mass_Of.c1 k l k 0 = some (.inr ()) ∧ (AllW l → AllR l)) := by
  have hi : ∀ v, 0 ≤ v → v < len l → (Wn (q l v) → ((imax (imax (imax (q l v).1 (ineg .i64 (q l v).1)) (q l v).2.1) (ineg .i64 (q l v).2.1) > 2097152) ↔ ¬ (-2097152 ≤ (q l v).1 ∧ (q l v).1 ≤ 2097152 ∧ -2097152 ≤ (q l v).2.1 ∧ (q l v).2.1 ≤ 2097152))) := by
    intro v a b hw
    unfold Wn at hw
    have n1 : ineg .i64 (q l v).1 = -(q l v).1 := by unfold ineg; rw [wrap_i64 (by omega) (by omega)]; omega
    have n2 : ineg .i64 (q l v).2.1 = -(q l v).2.1 := by unfold ineg; rw [wrap_i64 (by omega) (by omega)]; omega
    rw [n1, n2]
    unfold imax
    split <;> split <;> split <;> omega
  have H := find_loop (fun n v => mass_Of.c1 k l n v) 0 (len l) (fun v => imax (imax (imax (q l v).1 (ineg .i64 (q l v).1)) (q l v).2.1) (ineg .i64 (q l v).2.1) > 2097152) (fun _ => ())
    (by
      intro n v a b c
      show mass_Of.c1 k l (n + 1) v = _
      have hq : el Z24 l v = q l v := rfl
      rw [mass_Of.c1, ilt_pos b, bif_true, req_pos (inL_of a b), hq, igt_pos c, bif_true])
    (by
      intro n v a b c
      show mass_Of.c1 k l (n + 1) v = mass_Of.c1 k l n (v + 1)
      have hq : el Z24 l v = q l v := rfl
      rw [mass_Of.c1, ilt_pos b, bif_true, req_pos (inL_of a b), hq, igt_neg (by omega), bif_false, iadd_i64 (by omega) (by omega)])
    (by
      intro n v a b
      show mass_Of.c1 k l (n + 1) v = _
      rw [mass_Of.c1, ilt_neg b, bif_false])
    k 0 (by omega) (by omega)
  rcases H with ⟨v, a, b, c, _, e⟩ | ⟨a, e⟩
  · refine Or.inl ⟨e, fun hr => ?_⟩
    have h1 := hr v a b
    exact ((hi v a b (by unfold Wn; omega)).1 c) h1
  · refine Or.inr ⟨e (by omega), fun hw v x y => ?_⟩
    have := a v x y
    exact Decidable.not_not.mp (fun h => this ((hi v x y (hw v x y)).2 h))

theorem Of_c3 {k : Nat} (hk : 9 ≤ k) {l : List V24} {c : V24} (h3 : 3 ≤ len l) (h8 : len l ≤ 8) (hl : AllR l) (hc : -2097152 ≤ c.1 ∧ c.1 ≤ 2097152 ∧ -2097152 ≤ c.2.1 ∧ c.2.1 ≤ 2097152) :
    ∃ w, mass_Of.c3 k l c k 0 (0, 0, ()) = some w ∧ WOk w ∧ wv w = m2 l c := by
  have H := inv_loop (fun n (s : V40) v => mass_Of.c3 k l c n v s) 0 (len l) (fun s v => WOk s ∧ wv s = m2n l c v.toNat)
    (by
      intro n s v a b ⟨w1, u⟩
      have hn := nx_range a b
      have ha := hl v a b
      have hb := hl _ hn.1 hn.2
      obtain ⟨b1, b2, b3, b4⟩ := t2_bd ha hb hc
      obtain ⟨b5, _⟩ := t2_bd hb ha hc
      obtain ⟨i, rfl⟩ := Int.eq_ofNat_of_zero_le a
      have hm := m2n_bd hl hc i (by omega)
      have p1 := mul_bd (x := (vsub (q l i) c).1) (y := (vsub (q l i) c).1) (M := 4194304) (N := 4194304) (by omega) (by omega) (by omega) (by omega)
      have p2 := mul_bd (x := (vsub (q l i) c).1) (y := (vsub (q l (nx (len l) i)) c).1) (M := 4194304) (N := 4194304) (by omega) (by omega) (by omega) (by omega)
      have p3 := mul_bd (x := (vsub (q l (nx (len l) i)) c).1) (y := (vsub (q l (nx (len l) i)) c).1) (M := 4194304) (N := 4194304) (by omega) (by omega) (by omega) (by omega)
      have p4 := mul_bd (x := (vsub (q l i) c).2.1) (y := (vsub (q l i) c).2.1) (M := 4194304) (N := 4194304) (by omega) (by omega) (by omega) (by omega)
      have p5 := mul_bd (x := (vsub (q l i) c).2.1) (y := (vsub (q l (nx (len l) i)) c).2.1) (M := 4194304) (N := 4194304) (by omega) (by omega) (by omega) (by omega)
      have p6 := mul_bd (x := (vsub (q l (nx (len l) i)) c).2.1) (y := (vsub (q l (nx (len l) i)) c).2.1) (M := 4194304) (N := 4194304) (by omega) (by omega) (by omega) (by omega)
      obtain ⟨e1, _, _⟩ := mcross_eq k (a := vsub (q l i) c) (b := vsub (q l (nx (len l) i)) c) (M := 4194304) (by decide) (by omega) (by omega)
      obtain ⟨t1, f1, o1, v1⟩ := Times_eq k (a := cr (vsub (q l i) c) (vsub (q l (nx (len l) i)) c)) (b := sq6 (vsub (q l i) c) (vsub (q l (nx (len l) i)) c)) (by omega) (by omega) (by omega) (by omega)
      have hv1 : wv t1 = t2 (q l i) (q l (nx (len l) i)) c := v1
      rw [show ((i : Int)).toNat = i by omega] at u
      obtain ⟨s1, g1, p1', u1⟩ := Plus_exact k w1 o1 (by rw [hv1, u]; omega) (by rw [hv1, u]; omega)
      refine ⟨s1, ⟨p1', ?_⟩, ?_⟩
      · rw [u1, hv1, u, show ((i : Int) + 1).toNat = i + 1 by omega]
        rfl
      · show mass_Of.c3 k l c (n + 1) (i : Int) s = mass_Of.c3 k l c n ((i : Int) + 1) s1
        have hq : el Z24 l (i : Int) = q l i := rfl
        have hq2 : el Z24 l (nx (len l) i) = q l (nx (len l) i) := rfl
        rw [mass_Of.c3, ilt_pos b, bif_true, req_pos (inL_of a b), req_pos (show nz (len l) by unfold nz; omega), irem_nx a b (by omega), req_pos (inL_of hn.1 hn.2), hq, hq2]
        have s1 : isub .i64 (q l i).1 c.1 = (vsub (q l i) c).1 := isub_i64 (by unfold vsub at b1; dsimp only at b1; omega) (by unfold vsub at b1; dsimp only at b1; omega)
        have s2 : isub .i64 (q l i).2.1 c.2.1 = (vsub (q l i) c).2.1 := isub_i64 (by unfold vsub at b1; dsimp only at b1; omega) (by unfold vsub at b1; dsimp only at b1; omega)
        have s3 : isub .i64 (q l (nx (len l) i)).1 c.1 = (vsub (q l (nx (len l) i)) c).1 := isub_i64 (by unfold vsub at b5; dsimp only at b5; omega) (by unfold vsub at b5; dsimp only at b5; omega)
        have s4 : isub .i64 (q l (nx (len l) i)).2.1 c.2.1 = (vsub (q l (nx (len l) i)) c).2.1 := isub_i64 (by unfold vsub at b5; dsimp only at b5; omega) (by unfold vsub at b5; dsimp only at b5; omega)
        rw [s1, s2, s3, s4]
        have e1' : mass_cross k ((vsub (q l i) c).1, (vsub (q l i) c).2.1, ()) ((vsub (q l (nx (len l) i)) c).1, (vsub (q l (nx (len l) i)) c).2.1, ()) = some (cr (vsub (q l i) c) (vsub (q l (nx (len l) i)) c)) := e1
        rw [e1', bnd_some]
        rw [imul_i64 (x := (vsub (q l i) c).1) (y := (vsub (q l i) c).1) (by omega) (by omega), imul_i64 (x := (vsub (q l i) c).1) (by omega) (by omega), imul_i64 (x := (vsub (q l (nx (len l) i)) c).1) (by omega) (by omega)]
        rw [imul_i64 (x := (vsub (q l i) c).2.1) (y := (vsub (q l i) c).2.1) (by omega) (by omega), imul_i64 (x := (vsub (q l i) c).2.1) (by omega) (by omega), imul_i64 (x := (vsub (q l (nx (len l) i)) c).2.1) (by omega) (by omega)]
        rw [iadd_i64 (x := (vsub (q l i) c).1 * (vsub (q l i) c).1) (by omega) (by omega), iadd_i64 (y := (vsub (q l (nx (len l) i)) c).1 * (vsub (q l (nx (len l) i)) c).1) (by omega) (by omega)]
        rw [iadd_i64 (y := (vsub (q l i) c).2.1 * (vsub (q l i) c).2.1) (by omega) (by omega), iadd_i64 (y := (vsub (q l i) c).2.1 * (vsub (q l (nx (len l) i)) c).2.1) (by omega) (by omega), iadd_i64 (y := (vsub (q l (nx (len l) i)) c).2.1 * (vsub (q l (nx (len l) i)) c).2.1) (by omega) (by omega)]
        have f1' : poly_Times k (cr (vsub (q l i) c) (vsub (q l (nx (len l) i)) c)) ((vsub (q l i) c).1 * (vsub (q l i) c).1 + (vsub (q l i) c).1 * (vsub (q l (nx (len l) i)) c).1 + (vsub (q l (nx (len l) i)) c).1 * (vsub (q l (nx (len l) i)) c).1 + (vsub (q l i) c).2.1 * (vsub (q l i) c).2.1 + (vsub (q l i) c).2.1 * (vsub (q l (nx (len l) i)) c).2.1 + (vsub (q l (nx (len l) i)) c).2.1 * (vsub (q l (nx (len l) i)) c).2.1) = some t1 := f1
        rw [f1', bnd_some, g1, bnd_some, iadd_i64 (by omega) (by omega)])
    (by
      intro n s v a b
      show mass_Of.c3 k l c (n + 1) v s = some s
      rw [mass_Of.c3, ilt_neg b, bif_false])
    k (0, 0, ()) 0 (by omega) (by omega) (by omega) ⟨⟨by decide, by decide, by decide, by decide⟩, rfl⟩
  obtain ⟨s, ⟨w, u⟩, e⟩ := H
  refine ⟨s, e, w, ?_⟩
  rw [u]
  unfold m2 len
  rw [show (l.length : Int).toNat = l.length by omega]

theorem AllR_ctr {l : List V24} (hv : Val l) (hl : AllR l) : -2097152 ≤ (ctr l).1 ∧ (ctr l).1 ≤ 2097152 ∧ -2097152 ≤ (ctr l).2.1 ∧ (ctr l).2.1 ≤ 2097152 := ctr_bd hv hl

theorem ss_bd {l : List V24} (hv : Val l) (hl : AllR l) : -1000000000000000000 ≤ ss l ∧ ss l ≤ 1000000000000000000 := by
  have h8 := hv.2.1
  have h := m2n_bd hl (AllR_ctr hv hl) l.length (by unfold len; omega)
  have hlen : (l.length : Int) ≤ 8 := h8
  unfold ss m2
  exact rnd_bd (by decide) (by omega) (by omega)

theorem mass_times_eq {k : Nat} (hk : 2 ≤ k) {a b n : Int} (ha : I64 a) (hb : I64 b) (hn : 0 < n) (hn' : n ≤ 9223372036854775807) : mass_times k a b n = some (fit (rnd (a * b) n)).1 := by
  obtain ⟨t, e, o, v⟩ := Times_eq k ha.1 ha.2 hb.1 hb.2
  unfold mass_times
  rw [e, bnd_some, Over_pos hk o hn hn', bnd_some, v]

theorem mm_bd {l : List V24} (hv : Val l) {d : Int} (h0 : 1 ≤ d) (h1 : d ≤ 1048576) : -1000000000000000000 ≤ mm l d ∧ mm l d ≤ 1000000000000000000 := by
  have ha := area_pos hv
  have ha2 := area_le hv
  have h := mul_bd (x := area l) (y := d) (M := 300000000000000000) (N := 1048576) (by omega) (by omega) (by omega) (by omega)
  exact rnd_bd (by decide) (by omega) (by omega)
theorem ii_bd {l : List V24} (hv : Val l) (hl : AllR l) {d : Int} (h0 : 1 ≤ d) (h1 : d ≤ 1048576) : -1000000000000000000 ≤ ii l d ∧ ii l d ≤ 1000000000000000000 := by
  have hs := ss_bd hv hl
  have h := mul_bd (x := ss l) (y := d) (M := 1000000000000000000) (N := 1048576) (by omega) (by omega) (by omega) (by omega)
  exact rnd_bd (by decide) (by omega) (by omega)

theorem mass_Of_val {k : Nat} (hk : 9 ≤ k) {l : List V24} (hv : Val l) (hl : AllR l) {d : Int} (h0 : 1 ≤ d) (h1 : d ≤ 1048576) : mass_Of k l d = some (massE (mm l d) (ii l d) (ctr l)) := by
  have hc1 : mass_Of.c1 k l k 0 = some (.inr ()) := by
    rcases Of_c1_ok hk hv.2.1 with ⟨_, h⟩ | ⟨h, _⟩
    · exact absurd hl h
    · exact h
  have hc2 : mass_Of.c2 k d = some false := by
    unfold mass_Of.c2
    rw [ilt_neg h0, bif_false, igt_neg h1]
  obtain ⟨w, e3, o3, v3⟩ := Of_c3 hk hv.1 hv.2.1 hl (AllR_ctr hv hl)
  have hss := ss_bd hv hl
  have hm := mm_bd hv h0 h1
  have hi := ii_bd hv hl h0 h1
  have ha := area_pos hv
  have ha2 := area_le hv
  unfold mass_Of
  rw [Area_val hk hv, bnd_some, ine_neg rfl, bif_false, hc1, bnd_some, two_inr, hc2, bnd_some, bif_false]
  dsimp only
  rw [centre_eq hk hv, bnd_some, e3, bnd_some, Over_pos (by omega) o3 (by decide) (by decide), bnd_some, v3]
  have hs : rnd (m2 l (ctr l)) 51539607552 = ss l := rfl
  rw [hs, fit_in (by omega), mass_times_eq (by omega) ⟨by omega, by omega⟩ ⟨by omega, by omega⟩ (by decide) (by decide), bnd_some]
  dsimp only
  rw [mass_times_eq (by omega) ⟨by omega, by omega⟩ ⟨by omega, by omega⟩ (by decide) (by decide), bnd_some]
  have em : rnd (area l * d) 8589934592 = mm l d := rfl
  have ei : rnd (ss l * d) 4294967296 = ii l d := rfl
  rw [em, ei, fit_in (by omega), fit_in (by omega)]
  dsimp only
  unfold mass_Of.c4 mass_Of.c5 massE
  by_cases a1 : mm l d = 0
  · rw [ieq_pos a1, bif_true, bnd_some, bif_true, if_pos (Or.inl a1)]
  rw [ieq_neg a1, bif_false, bnd_some]
  by_cases a2 : ii l d = 0
  · rw [ieq_pos a2, bif_true, if_pos (Or.inr a2)]
  rw [ieq_neg a2, bif_false, if_neg (by omega)]
  by_cases a3 : mm l d > 1099511627776
  · rw [igt_pos a3, bif_true, bnd_some, bif_true, if_pos (Or.inl a3)]
  rw [igt_neg (by omega), bif_false, bnd_some]
  by_cases a4 : ii l d > 1099511627776
  · rw [igt_pos a4, bif_true, if_pos (Or.inr a4)]
  rw [igt_neg (by omega), bif_false, if_neg (by omega)]
end Go.Proofs.T1
namespace Go.Proofs.T1
open Go Go.Sx

theorem Centred_c1 {k : Nat} {l : List V24} {c : V24} (hk : 9 ≤ k) (hl : len l ≤ 8) (hw : AllW l) (h : Wn c) : mass_Centred.c1 k l c k 0 [] = some (shift l (-c.1, -c.2.1, ())) := by
  have H := inv_loop (fun n (s : List V24) v => mass_Centred.c1 k l c n v s) 0 (len l) (fun s v => s = shift (l.take v.toNat) (-c.1, -c.2.1, ()))
    (by
      intro n s v a b e
      have hwv := hw v a b
      refine ⟨s ++ [((q l v).1 + -c.1, (q l v).2.1 + -c.2.1, ())], ?_, ?_⟩
      · obtain ⟨v, rfl⟩ := Int.eq_ofNat_of_zero_le a
        have hi : v < l.length := by unfold len at b; omega
        rw [q_get hi, e, show ((v : Int) + 1).toNat = v + 1 by omega, show ((v : Int)).toNat = v by omega]
        unfold shift
        rw [List.take_succ_eq_append_getElem hi, List.map_append]
        rfl
      · show mass_Centred.c1 k l c (n + 1) v s = mass_Centred.c1 k l c n (v + 1) _
        unfold Wn at hwv h
        have hel : el Z24 l v = q l v := rfl
        rw [mass_Centred.c1, ilt_pos b, bif_true, req_pos (inL_of a b), hel, isub_i64 (x := (q l v).1) (by omega) (by omega), isub_i64 (x := (q l v).2.1) (by omega) (by omega), iadd_i64 (x := v) (by omega) (by omega)]
        rw [req_pos]
        · rfl
        have hs : s.length ≤ 8 := by
          rw [e]
          unfold shift len at *
          simp
          omega
        show (s.length + 1) * 16 ≤ 140737488355328
        omega)
    (by
      intro n s v a b
      show mass_Centred.c1 k l c (n + 1) v s = some s
      rw [mass_Centred.c1, ilt_neg b, bif_false])
    k [] 0 (by omega) (by unfold len; omega) (by omega) (by rfl)
  obtain ⟨s, a, b⟩ := H
  have b : mass_Centred.c1 k l c k 0 [] = some s := b
  rw [b, a]
  unfold len
  rw [show (l.length : Int).toNat = l.length by omega, List.take_length]

/-- The polygon, moved by its negated centre. -/
def cen (l : List V24) : List V24 := shift l (-(ctr l).1, -(ctr l).2.1, ())

theorem Centred_val {k : Nat} (hk : 9 ≤ k) {l : List V24} (hv : Val l) : ∃ e, Chk (cen l) e ∧ mass_Centred k l = some (if e = 0 then (cen l, 0) else ([], e)) := by
  have hb := ctr_bd hv (R := 65536000) (fun i a b => hv.2.2.1 i a b)
  obtain ⟨e, e1, e2⟩ := Check_eq hk (cen l)
  refine ⟨e, e2, ?_⟩
  unfold mass_Centred
  rw [Area_val hk hv, bnd_some, ine_neg rfl, bif_false]
  dsimp only
  rw [centre_eq hk hv, bnd_some, Centred_c1 hk hv.2.1 hv.2.2.1 hb, bnd_some]
  have e1 : poly_Check k (shift l (-(ctr l).1, -(ctr l).2.1, ())) = some e := e1
  rw [e1, bnd_some]
  by_cases he : e = 0
  · rw [ine_neg he, bif_false, if_pos he]
    rfl
  · rw [ine_pos he, bif_true, if_neg he]

theorem mm_shift {l : List V24} {p : V24} (hv : Val l) (d : Int) : mm (shift l p) d = mm l d := by
  unfold mm
  rw [area_shift hv.1]
theorem ss_shift {l : List V24} {p : V24} (hv : Val l) : ss (shift l p) = ss l := by
  unfold ss
  rw [m2_shift (ctr_shift hv)]
theorem ii_shift {l : List V24} {p : V24} (hv : Val l) (d : Int) : ii (shift l p) d = ii l d := by
  unfold ii
  rw [ss_shift hv]

theorem weighs_eq : tourkeep2_weighs 16 = some true := by kernel_rfl

theorem eqb24 (a b : V24) : Ty.eqb T24 a b = decide (a = b) := by
  obtain ⟨a1, a2, u⟩ := a
  obtain ⟨b1, b2, u'⟩ := b
  show (ieq a1 b1 && (ieq a2 b2 && true)) = _
  simp only [ieq, Bool.and_true]
  rw [Bool.eq_iff_iff]
  simp

theorem Made_R {l : List V24} (h : Made l) : AllR l := fun i a b => by have := h.2.2.1 i a b; omega

theorem MassMoved_true (raw : List Int) (dd x y : Int) : tourkeep2_MassMoved 16 raw dd x y = some true := by
  have hk : 9 ≤ 16 := by decide
  obtain ⟨l, e1, hm⟩ := Poly_made 16 raw
  have hv := Made_val hm
  obtain ⟨p, e2, p1, p2, p3, p4⟩ := place_eq 16 x y
  obtain ⟨d0, e3, d1, d2⟩ := Below_eq 16 dd (n := 1048576) (by decide) (by decide)
  have ed : iadd .i64 1 d0 = 1 + d0 := iadd_i64 (by omega) (by omega)
  have e4 := moved_eq (p := p) hk hv.2.1 hv.2.2.1 (by unfold Wn; omega)
  have hsh : ∀ i, 0 ≤ i → i < len (shift l p) → -1048576 ≤ (q (shift l p) i).1 ∧ (q (shift l p) i).1 ≤ 1048576 ∧ -1048576 ≤ (q (shift l p) i).2.1 ∧ (q (shift l p) i).2.1 ≤ 1048576 := by
    intro i h0 h1
    rw [len_shift] at h1
    have := hm.2.2.1 i h0 h1
    rw [q_shift h0 h1]
    dsimp only
    omega
  have hvs : Val (shift l p) := Val_shift hv (fun i a b => by have := hsh i a b; unfold Wn; omega)
  have m1 := mass_Of_val hk hv (Made_R hm) (d := 1 + d0) (by omega) (by omega)
  have m2 := mass_Of_val hk hvs (fun i a b => by have := hsh i a b; omega) (d := 1 + d0) (by omega) (by omega)
  rw [mm_shift hv, ii_shift hv, ctr_shift hv] at m2
  unfold tourkeep2_MassMoved
  rw [e1, bnd_some, e2, bnd_some, e3, bnd_some, ed, m1, bnd_some, e4, bnd_some, m2, bnd_some]
  generalize hM : mm l (1 + d0) = M at *
  generalize hI : ii l (1 + d0) = I at *
  have hc1 : tourkeep2_MassMoved.c1 16 (massE M I (ctr l)) (massE M I ((ctr l).1 + p.1, (ctr l).2.1 + p.2.1, ())) = some false := by
    unfold tourkeep2_MassMoved.c1
    rw [weighs_eq, bnd_some, bif_true]
    have : (massE M I (ctr l)).2.2.2 = (massE M I ((ctr l).1 + p.1, (ctr l).2.1 + p.2.1, ())).2.2.2 := by
      unfold massE
      split
      · rfl
      · split <;> rfl
    rw [ine_neg this]
  rw [hc1, bnd_some, bif_false]
  by_cases a1 : M = 0 ∨ I = 0
  · have : massE M I (ctr l) = (0, 0, (0, 0, ()), 17) := by unfold massE; rw [if_pos a1]
    rw [this]
    rfl
  by_cases a2 : M > 1099511627776 ∨ I > 1099511627776
  · have : massE M I (ctr l) = (0, 0, (0, 0, ()), 2) := by unfold massE; rw [if_neg a1, if_pos a2]
    rw [this]
    rfl
  have hE : ∀ c, massE M I c = (M, I, c, 0) := by intro c; unfold massE; rw [if_neg a1, if_neg a2]
  rw [hE, hE]
  dsimp only
  rw [ine_neg rfl, bif_false]
  have hb := ctr_bd hv (R := 262144) (fun i a b => hm.2.2.1 i a b)
  have hcs : ∀ i, 0 ≤ i → i < len (cen l) → -524288 ≤ (q (cen l) i).1 ∧ (q (cen l) i).1 ≤ 524288 ∧ -524288 ≤ (q (cen l) i).2.1 ∧ (q (cen l) i).2.1 ≤ 524288 := by
    intro i h0 h1
    unfold cen at *
    rw [len_shift] at h1
    have := hm.2.2.1 i h0 h1
    rw [q_shift h0 h1]
    dsimp only
    omega
  have hvc : Val (cen l) := Val_shift hv (fun i a b => by have := hcs i a b; unfold Wn; unfold cen at this; omega)
  obtain ⟨e, c1, c2⟩ := Centred_val hk hv
  have := Chk_uniq c1 (Val_chk hvc)
  subst this
  rw [if_pos rfl] at c2
  have m3 := mass_Of_val hk hvc (fun i a b => by have := hcs i a b; omega) (d := 1 + d0) (by omega) (by omega)
  have z1 : mm (cen l) (1 + d0) = M := by unfold cen; rw [mm_shift hv]; exact hM
  have z2 : ii (cen l) (1 + d0) = I := by unfold cen; rw [ii_shift hv]; exact hI
  have z3 : ctr (cen l) = (0, 0, ()) := by
    unfold cen
    rw [ctr_shift hv]
    dsimp only
    rw [show (ctr l).1 + -(ctr l).1 = 0 by omega, show (ctr l).2.1 + -(ctr l).2.1 = 0 by omega]
  rw [z1, z2, z3, hE] at m3
  rw [c2, bnd_some]
  dsimp only
  rw [m3, bnd_some]
  dsimp only
  have x1 : iadd .i64 (ctr l).1 p.1 = (ctr l).1 + p.1 := iadd_i64 (by omega) (by omega)
  have x2 : iadd .i64 (ctr l).2.1 p.2.1 = (ctr l).2.1 + p.2.1 := iadd_i64 (by omega) (by omega)
  have hqq : Ty.eqb T24 ((ctr l).1 + p.1, (ctr l).2.1 + p.2.1, ()) ((ctr l).1 + p.1, (ctr l).2.1 + p.2.1, ()) = true := by
    have := eqb24 ((ctr l).1 + p.1, (ctr l).2.1 + p.2.1, ()) ((ctr l).1 + p.1, (ctr l).2.1 + p.2.1, ())
    exact this.trans (decide_eq_true rfl)
  rw [x1, x2, ieq_pos rfl, bif_true, ieq_pos rfl, bif_true]
  exact (congrArg (fun b => bif' b _ _) hqq).trans rfl

theorem tourkeep2_MassMoved_plain (x : ((.pair T34 (.pair T3 (.pair T3 (.pair T3 .unit)))) : Ty).den) (_ : Ty.wf (.pair T34 (.pair T3 (.pair T3 (.pair T3 .unit)))) x) : ∃ k, (tourkeep2_MassMoved.sp k).f x = some true := ⟨16, MassMoved_true _ _ _ _⟩
end Go.Proofs.T1
