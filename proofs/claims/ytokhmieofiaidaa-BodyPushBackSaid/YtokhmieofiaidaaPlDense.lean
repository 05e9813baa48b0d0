/-
  Plain laws: no program in sight.
-/
import Derived.Test.YtokhmieofiaidaaPlSays
namespace Go.Proofs.T1
open Go Go.Sx

/-- The polygons that are made, one by one. -/
theorem Poly_kind (k : Nat) (raw : List Int) : ∃ (l : List V24) (a b : Nat), tourmake_Poly k raw = some l ∧ a < 4 ∧ b < 4 ∧
    (l = made0 ((a + 1) * 65536) ((b + 1) * 65536) ∨ l = made2 ((a + 1) * 65536) ((b + 1) * 65536) ∨ l = made3 ((a + 1) * 65536) ((b + 1) * 65536) ∨
      ∃ x : Int, -(((a : Int) + 1) * 65536) ≤ x ∧ x < ((a : Int) + 1) * 65536 ∧ l = [(-(((a : Int) + 1) * 65536), -(((b : Int) + 1) * 65536), ()), (((a : Int) + 1) * 65536, -(((b : Int) + 1) * 65536), ()), (x, ((b : Int) + 1) * 65536, ())]) := by
  unfold tourmake_Poly tourmake_poly
  obtain ⟨s1, a, e1, a0, a1⟩ := Next_eq k (raw, ()) (n := 4) (by decide) (by decide)
  obtain ⟨s2, b, e2, b0, b1⟩ := Next_eq k s1 (n := 4) (by decide) (by decide)
  obtain ⟨s3, c, e3, c0, c1⟩ := Next_eq k s2 (n := 4) (by decide) (by decide)
  rw [e1, bnd_some, e2, bnd_some, e3, bnd_some]
  dsimp only
  have hw : imul .i64 (iadd .i64 1 a) 65536 = (a + 1) * 65536 := by rw [iadd_i64 (by omega) (by omega), imul_i64 (by omega) (by omega)]; omega
  have hh : imul .i64 (iadd .i64 1 b) 65536 = (b + 1) * 65536 := by rw [iadd_i64 (by omega) (by omega), imul_i64 (by omega) (by omega)]; omega
  rw [hw, hh]
  obtain ⟨a, rfl⟩ := Int.eq_ofNat_of_zero_le a0
  obtain ⟨b, rfl⟩ := Int.eq_ofNat_of_zero_le b0
  by_cases h0 : c = 0
  · rw [ieq_pos h0, bif_true, bnd_some]
    exact ⟨_, a, b, rfl, by omega, by omega, Or.inl rfl⟩
  rw [ieq_neg h0, bif_false]
  by_cases h1 : c = 1
  · rw [ieq_pos h1, bif_true]
    have hW : (65536 : Int) ≤ ((a : Int) + 1) * 65536 ∧ ((a : Int) + 1) * 65536 ≤ 262144 := by omega
    have hH : (65536 : Int) ≤ ((b : Int) + 1) * 65536 ∧ ((b : Int) + 1) * 65536 ≤ 262144 := by omega
    rw [imul_i64 (x := 2) (by omega) (by omega)]
    obtain ⟨s4, x, e4, x0, x1⟩ := Next_eq k s3 (n := 2 * (((a : Int) + 1) * 65536)) (by omega) (by omega)
    rw [e4, bnd_some, bnd_some]
    dsimp only
    have en : ineg .i64 (((a : Int) + 1) * 65536) = -(((a : Int) + 1) * 65536) := by unfold ineg; rw [wrap_i64 (by omega) (by omega)]; omega
    have en2 : ineg .i64 (((b : Int) + 1) * 65536) = -(((b : Int) + 1) * 65536) := by unfold ineg; rw [wrap_i64 (by omega) (by omega)]; omega
    rw [en, en2, isub_i64 (by omega) (by omega)]
    exact ⟨_, a, b, rfl, by omega, by omega, Or.inr (Or.inr (Or.inr ⟨x - (((a : Int) + 1) * 65536), by omega, by omega, rfl⟩))⟩
  rw [ieq_neg h1, bif_false]
  by_cases h2 : c = 2
  · rw [ieq_pos h2, bif_true, bnd_some]
    exact ⟨_, a, b, rfl, by omega, by omega, Or.inr (Or.inl rfl)⟩
  · rw [ieq_neg h2, bif_false, bnd_some]
    exact ⟨_, a, b, rfl, by omega, by omega, Or.inr (Or.inr (Or.inl rfl))⟩

/-- What is known of the weight of a polygon that is made. -/
def Heavy (l : List V24) : Prop := Made l ∧ 17179869184 ≤ area l ∧ 2147484 ≤ ss l
def heavyB (l : List V24) : Bool := madeB l && (decide (17179869184 ≤ area l) && decide (2147484 ≤ ss l))
theorem heavyB_ok {l : List V24} (h : heavyB l = true) : Heavy l := by
  simp only [heavyB, Bool.and_eq_true, decide_eq_true_eq] at h
  exact ⟨madeB_ok h.1, h.2.1, h.2.2⟩
theorem heavy_table : (List.range 4).all (fun a => (List.range 4).all fun b => heavyB (made0 ((a + 1) * 65536) ((b + 1) * 65536)) && (heavyB (made2 ((a + 1) * 65536) ((b + 1) * 65536)) && heavyB (made3 ((a + 1) * 65536) ((b + 1) * 65536)))) = true := by decide +kernel

theorem sq6_nn (u v : V24) : 0 ≤ sq6 u v := by
  have h1 : 0 ≤ u.1 * u.1 := by rcases Int.le_total 0 u.1 with h | h; exact Int.mul_nonneg h h; exact Int.mul_nonneg_of_nonpos_of_nonpos h h
  have h2 : 0 ≤ v.1 * v.1 := by rcases Int.le_total 0 v.1 with h | h; exact Int.mul_nonneg h h; exact Int.mul_nonneg_of_nonpos_of_nonpos h h
  have h3 : 0 ≤ (u.1 + v.1) * (u.1 + v.1) := by rcases Int.le_total 0 (u.1 + v.1) with h | h; exact Int.mul_nonneg h h; exact Int.mul_nonneg_of_nonpos_of_nonpos h h
  have h4 : 0 ≤ u.2.1 * u.2.1 := by rcases Int.le_total 0 u.2.1 with h | h; exact Int.mul_nonneg h h; exact Int.mul_nonneg_of_nonpos_of_nonpos h h
  have h5 : 0 ≤ v.2.1 * v.2.1 := by rcases Int.le_total 0 v.2.1 with h | h; exact Int.mul_nonneg h h; exact Int.mul_nonneg_of_nonpos_of_nonpos h h
  have h6 : 0 ≤ (u.2.1 + v.2.1) * (u.2.1 + v.2.1) := by rcases Int.le_total 0 (u.2.1 + v.2.1) with h | h; exact Int.mul_nonneg h h; exact Int.mul_nonneg_of_nonpos_of_nonpos h h
  have e1 : (u.1 + v.1) * (u.1 + v.1) = u.1 * u.1 + 2 * (u.1 * v.1) + v.1 * v.1 := by grind
  have e2 : (u.2.1 + v.2.1) * (u.2.1 + v.2.1) = u.2.1 * u.2.1 + 2 * (u.2.1 * v.2.1) + v.2.1 * v.2.1 := by grind
  unfold sq6
  omega

theorem rnd_scale {X A : Int} (hA : 0 < A) : rnd (X * A) (3 * A) = (2 * X + 3) / 6 := by
  unfold rnd
  have e : 2 * (X * A) + 3 * A = A * (2 * X + 3) := by grind
  have e2 : 2 * (3 * A) = A * 6 := by omega
  rw [e, e2, Int.mul_ediv_mul_of_pos _ _ hA]

theorem tri_T {W H x cx cy : Int} (hW : W = 65536 ∨ W = 131072 ∨ W = 196608 ∨ W = 262144) (hH : H = 65536 ∨ H = 131072 ∨ H = 196608 ∨ H = 262144) (h0 : -W ≤ x) (h1 : x < W)
    (hx0 : 6 * cx ≤ 2 * x + 3) (hx1 : 2 * x + 3 < 6 * cx + 6) (hy0 : 6 * cy ≤ 2 * -H + 3) (hy1 : 2 * -H + 3 < 6 * cy + 6) :
    4000000000 ≤ (-W - cx) * (-H - cy) - (-H - cy) * (W - cx) ∧ 0 ≤ (W - cx) * (H - cy) - (-H - cy) * (x - cx) ∧ 0 ≤ (x - cx) * (-H - cy) - (H - cy) * (-W - cx) ∧ 5000000000 ≤ 3 * ((-H - cy) * (-H - cy)) := by
  rcases hH with h | h | h | h <;> subst h
  · have : cy = -21845 := by omega
    subst this
    rcases hW with h | h | h | h <;> subst h <;> omega
  · have : cy = -43691 := by omega
    subst this
    rcases hW with h | h | h | h <;> subst h <;> omega
  · have : cy = -65536 := by omega
    subst this
    rcases hW with h | h | h | h <;> subst h <;> omega
  · have : cy = -87381 := by omega
    subst this
    rcases hW with h | h | h | h <;> subst h <;> omega

theorem heavy_tri {a b : Nat} (ha : a < 4) (hb : b < 4) {x : Int} (h0 : -(((a : Int) + 1) * 65536) ≤ x) (h1 : x < ((a : Int) + 1) * 65536) :
    Heavy [(-(((a : Int) + 1) * 65536), -(((b : Int) + 1) * 65536), ()), (((a : Int) + 1) * 65536, -(((b : Int) + 1) * 65536), ()), (x, ((b : Int) + 1) * 65536, ())] := by
  have hWH : (0 : Int) < ((a : Int) + 1) * 65536 * (((b : Int) + 1) * 65536) := Int.mul_pos (by omega) (by omega)
  generalize hl : [(-(((a : Int) + 1) * 65536), -(((b : Int) + 1) * 65536), ()), (((a : Int) + 1) * 65536, -(((b : Int) + 1) * 65536), ()), (x, ((b : Int) + 1) * 65536, ())] = l
  have hlen : len l = 3 := by rw [← hl]; rfl
  have q0 : q l 0 = (-(((a : Int) + 1) * 65536), -(((b : Int) + 1) * 65536), ()) := by rw [← hl]; rfl
  have q1 : q l 1 = (((a : Int) + 1) * 65536, -(((b : Int) + 1) * 65536), ()) := by rw [← hl]; rfl
  have q2 : q l 2 = (x, ((b : Int) + 1) * 65536, ()) := by rw [← hl]; rfl
  have htri : tri (q l 0) (q l 1) (q l 2) = 4 * (((a : Int) + 1) * 65536 * (((b : Int) + 1) * 65536)) := by
    rw [q0, q1, q2]
    unfold tri
    dsimp only
    grind
  have hed : EdgeP l := by
    rw [← hl]
    apply EdgeP_three
    have := htri
    rw [q0, q1, q2] at this
    omega
  have hall : All4 l := by
    rw [← hl]
    apply allB_ok
    simp only [allB, List.all_cons, List.all_nil, Bool.and_true, Bool.and_eq_true, decide_eq_true_eq]
    omega
  have hm : Made l := ⟨by omega, by omega, hall, hed⟩
  have hv := Made_val hm
  have hn : l.length = 3 := by rw [← hl]; rfl
  have harea : area l = 4 * (((a : Int) + 1) * 65536 * (((b : Int) + 1) * 65536)) := by
    rw [area_fan (by omega), hn, ← htri]
    show 0 + tri (q l 0) (q l (0 + 1)) (q l (0 + 2)) = _
    simp
  have hcx : (ctr l).1 = (2 * x + 3) / 6 := by
    have hA := area_pos hv
    unfold ctr
    dsimp only
    rw [← rnd_scale (X := x) hA, cs_fan (by omega) lin_px, hn, harea, ← htri]
    congr 1
    show 0 + (px (q l 0) + px (q l (0 + 1)) + px (q l (0 + 2))) * tri (q l 0) (q l (0 + 1)) (q l (0 + 2)) = x * tri (q l 0) (q l 1) (q l 2)
    have : px (q l 0) + px (q l (0 + 1)) + px (q l (0 + 2)) = x := by
      show px (q l 0) + px (q l 1) + px (q l 2) = x
      rw [q0, q1, q2]
      unfold px
      dsimp only
      omega
    rw [this]
    simp
  have hcy : (ctr l).2.1 = (2 * -(((b : Int) + 1) * 65536) + 3) / 6 := by
    have hA := area_pos hv
    unfold ctr
    dsimp only
    rw [← rnd_scale (X := -(((b : Int) + 1) * 65536)) hA, cs_fan (by omega) lin_py, hn, harea, ← htri]
    congr 1
    show 0 + (py (q l 0) + py (q l (0 + 1)) + py (q l (0 + 2))) * tri (q l 0) (q l (0 + 1)) (q l (0 + 2)) = -(((b : Int) + 1) * 65536) * tri (q l 0) (q l 1) (q l 2)
    have : py (q l 0) + py (q l (0 + 1)) + py (q l (0 + 2)) = -(((b : Int) + 1) * 65536) := by
      show py (q l 0) + py (q l 1) + py (q l 2) = _
      rw [q0, q1, q2]
      unfold py
      dsimp only
      omega
    rw [this]
    simp
  refine ⟨hm, ?_, ?_⟩
  · rw [harea]
    have : (65536 : Int) * 65536 ≤ ((a : Int) + 1) * 65536 * (((b : Int) + 1) * 65536) := Int.mul_le_mul (by omega) (by omega) (by decide) (by omega)
    omega
  · -- the three terms
    have hm2 : m2 l (ctr l) = t2 (q l 0) (q l 1) (ctr l) + t2 (q l 1) (q l 2) (ctr l) + t2 (q l 2) (q l 0) (ctr l) := by
      unfold m2
      rw [hn]
      show 0 + t2 (q l 0) (q l (nx (len l) 0)) (ctr l) + t2 (q l 1) (q l (nx (len l) 1)) (ctr l) + t2 (q l 2) (q l (nx (len l) 2)) (ctr l) = _
      rw [hlen]
      rw [show nx 3 0 = 1 from rfl, show nx 3 1 = 2 from rfl, show nx 3 2 = 0 from rfl]
      omega
    have s0 := sq6_nn (vsub (q l 0) (ctr l)) (vsub (q l 1) (ctr l))
    have s1 := sq6_nn (vsub (q l 1) (ctr l)) (vsub (q l 2) (ctr l))
    have s2 := sq6_nn (vsub (q l 2) (ctr l)) (vsub (q l 0) (ctr l))
    -- the heights of the centre
    have hx6 := Int.mul_ediv_add_emod (2 * x + 3) 6
    have hx60 := Int.emod_nonneg (2 * x + 3) (show (6 : Int) ≠ 0 by decide)
    have hx61 := Int.emod_lt_of_pos (2 * x + 3) (show (0 : Int) < 6 by decide)
    rw [← hcx] at hx6
    have hy6 := Int.mul_ediv_add_emod (2 * -(((b : Int) + 1) * 65536) + 3) 6
    have hy60 := Int.emod_nonneg (2 * -(((b : Int) + 1) * 65536) + 3) (show (6 : Int) ≠ 0 by decide)
    have hy61 := Int.emod_lt_of_pos (2 * -(((b : Int) + 1) * 65536) + 3) (show (0 : Int) < 6 by decide)
    rw [← hcy] at hy6
    have TT := tri_T (W := ((a : Int) + 1) * 65536) (H := ((b : Int) + 1) * 65536) (x := x) (cx := (ctr l).1) (cy := (ctr l).2.1) (by omega) (by omega) h0 h1 (by omega) (by omega) (by omega) (by omega)
    have T : 4000000000 ≤ cr (vsub (q l 0) (ctr l)) (vsub (q l 1) (ctr l)) ∧ 0 ≤ cr (vsub (q l 1) (ctr l)) (vsub (q l 2) (ctr l)) ∧ 0 ≤ cr (vsub (q l 2) (ctr l)) (vsub (q l 0) (ctr l)) := by
      rw [q0, q1, q2]
      exact ⟨TT.1, TT.2.1, TT.2.2.1⟩
    have S0 : 5000000000 ≤ sq6 (vsub (q l 0) (ctr l)) (vsub (q l 1) (ctr l)) := by
      have hx := sq6_nn ((vsub (q l 0) (ctr l)).1, 0, ()) ((vsub (q l 1) (ctr l)).1, 0, ())
      have hy := TT.2.2.2
      have e : (vsub (q l 1) (ctr l)).2.1 = (vsub (q l 0) (ctr l)).2.1 := by rw [q0, q1]; rfl
      have e0 : (vsub (q l 0) (ctr l)).2.1 = -(((b : Int) + 1) * 65536) - (ctr l).2.1 := by rw [q0]; rfl
      rw [← e0] at hy
      unfold sq6 at hx ⊢
      dsimp only at hx
      rw [e]
      omega
    have p0 : (4000000000 : Int) * 5000000000 ≤ t2 (q l 0) (q l 1) (ctr l) := Int.mul_le_mul T.1 S0 (by decide) (by omega)
    have p1 : 0 ≤ t2 (q l 1) (q l 2) (ctr l) := Int.mul_nonneg T.2.1 s1
    have p2 : 0 ≤ t2 (q l 2) (q l 0) (ctr l) := Int.mul_nonneg T.2.2 s2
    unfold ss rnd
    rw [Int.le_ediv_iff_mul_le (by decide), hm2]
    omega
end Go.Proofs.T1
namespace Go.Proofs.T1
open Go Go.Sx

theorem t2_bd4 {a b c : V24} (ha : -262144 ≤ a.1 ∧ a.1 ≤ 262144 ∧ -262144 ≤ a.2.1 ∧ a.2.1 ≤ 262144) (hb : -262144 ≤ b.1 ∧ b.1 ≤ 262144 ∧ -262144 ≤ b.2.1 ∧ b.2.1 ≤ 262144) (hc : -262144 ≤ c.1 ∧ c.1 ≤ 262144 ∧ -262144 ≤ c.2.1 ∧ c.2.1 ≤ 262144) : t2 a b c ≤ 906694364710971881029632 := by
  have h1 : -524288 ≤ (vsub a c).1 ∧ (vsub a c).1 ≤ 524288 ∧ -524288 ≤ (vsub a c).2.1 ∧ (vsub a c).2.1 ≤ 524288 := by unfold vsub; dsimp only; omega
  have h2 : -524288 ≤ (vsub b c).1 ∧ (vsub b c).1 ≤ 524288 ∧ -524288 ≤ (vsub b c).2.1 ∧ (vsub b c).2.1 ≤ 524288 := by unfold vsub; dsimp only; omega
  have p1 := mul_bd (x := (vsub a c).1) (y := (vsub a c).1) (M := 524288) (N := 524288) (by omega) (by omega) (by omega) (by omega)
  have p2 := mul_bd (x := (vsub a c).1) (y := (vsub b c).1) (M := 524288) (N := 524288) (by omega) (by omega) (by omega) (by omega)
  have p3 := mul_bd (x := (vsub b c).1) (y := (vsub b c).1) (M := 524288) (N := 524288) (by omega) (by omega) (by omega) (by omega)
  have p4 := mul_bd (x := (vsub a c).2.1) (y := (vsub a c).2.1) (M := 524288) (N := 524288) (by omega) (by omega) (by omega) (by omega)
  have p5 := mul_bd (x := (vsub a c).2.1) (y := (vsub b c).2.1) (M := 524288) (N := 524288) (by omega) (by omega) (by omega) (by omega)
  have p6 := mul_bd (x := (vsub b c).2.1) (y := (vsub b c).2.1) (M := 524288) (N := 524288) (by omega) (by omega) (by omega) (by omega)
  have p7 := mul_bd (x := (vsub a c).1) (y := (vsub b c).2.1) (M := 524288) (N := 524288) (by omega) (by omega) (by omega) (by omega)
  have p8 := mul_bd (x := (vsub a c).2.1) (y := (vsub b c).1) (M := 524288) (N := 524288) (by omega) (by omega) (by omega) (by omega)
  have hs : -1649267441664 ≤ sq6 (vsub a c) (vsub b c) ∧ sq6 (vsub a c) (vsub b c) ≤ 1649267441664 := by unfold sq6; omega
  have hc : -549755813888 ≤ cr (vsub a c) (vsub b c) ∧ cr (vsub a c) (vsub b c) ≤ 549755813888 := by unfold cr; omega
  have ht := mul_bd (x := cr (vsub a c) (vsub b c)) (y := sq6 (vsub a c) (vsub b c)) (M := 549755813888) (N := 1649267441664) hc.1 hc.2 hs.1 hs.2
  unfold t2
  omega

theorem ss_up {l : List V24} (hm : Made l) : ss l ≤ 90000000000000 := by
  have hv := Made_val hm
  have hc := ctr_bd hv (R := 262144) (fun i a b => hm.2.2.1 i a b)
  have h5 := hm.2.1
  have : ∀ n : Nat, (n : Int) ≤ len l → m2n l (ctr l) n ≤ n * 906694364710971881029632 := by
    intro n
    induction n with
    | zero => intro _; simp [m2n]
    | succ n ih =>
      intro h
      have h1 := ih (by omega)
      have hx := nx_range (n := len l) (i := n) (by omega) (by omega)
      have h2 := t2_bd4 (hm.2.2.1 n (by omega) (by omega)) (hm.2.2.1 _ hx.1 hx.2) hc
      simp only [m2n]
      omega
  have h := this l.length (by unfold len; omega)
  have hlen : (l.length : Int) ≤ 5 := h5
  unfold ss m2
  have : (2 * m2n l (ctr l) l.length + 51539607552) / (2 * 51539607552) < 90000000000001 := by
    rw [Int.ediv_lt_iff_lt_mul (by decide)]
    omega
  unfold rnd
  omega

theorem area_up {l : List V24} (hm : Made l) : area l ≤ 1649267441664 := by
  have hv := Made_val hm
  have h5 := hm.2.1
  rw [area_fan hv.1]
  have tb : ∀ i j, 0 ≤ i → i < len l → 0 ≤ j → j < len l → tri (q l 0) (q l i) (q l j) ≤ 549755813888 := by
    intro i j i0 i1 j0 j1
    have h0 := hm.2.2.1 0 (by omega) (by omega)
    have hi := hm.2.2.1 i i0 i1
    have hj := hm.2.2.1 j j0 j1
    have p1 := mul_bd (x := (q l i).1 - (q l 0).1) (y := (q l j).2.1 - (q l 0).2.1) (M := 524288) (N := 524288) (by omega) (by omega) (by omega) (by omega)
    have p2 := mul_bd (x := (q l i).2.1 - (q l 0).2.1) (y := (q l j).1 - (q l 0).1) (M := 524288) (N := 524288) (by omega) (by omega) (by omega) (by omega)
    unfold tri
    omega
  have : ∀ j : Nat, (j : Int) + 2 ≤ len l → fanN l j ≤ j * 549755813888 := by
    intro j
    induction j with
    | zero => intro _; simp [fanN]
    | succ j ih =>
      intro h
      have h1 := ih (by omega)
      have h2 := tb ((j : Int) + 1) ((j : Int) + 2) (by omega) (by omega) (by omega) (by omega)
      simp only [fanN]
      omega
  have h3 := this (l.length - 2) (by have := hv.1; unfold len at *; omega)
  unfold len at h5
  omega

theorem Poly_heavy (k : Nat) (raw : List Int) : ∃ l, tourmake_Poly k raw = some l ∧ Heavy l := by
  obtain ⟨l, a, b, e, ha, hb, h⟩ := Poly_kind k raw
  refine ⟨l, e, ?_⟩
  have T := List.all_eq_true.1 (List.all_eq_true.1 heavy_table a (List.mem_range.2 ha)) b (List.mem_range.2 hb)
  simp only [Bool.and_eq_true] at T
  rcases h with h | h | h | ⟨x, h0, h1, h⟩
  · rw [h]; exact heavyB_ok T.1
  · rw [h]; exact heavyB_ok T.2.1
  · rw [h]; exact heavyB_ok T.2.2
  · rw [h]; exact heavy_tri ha hb h0 h1

/-- Of a made polygon, of a density from 1000 on. -/
theorem massE_made {l : List V24} (h : Heavy l) {d : Int} (h0 : 1000 ≤ d) (h1 : d ≤ 1048576) : massE (mm l d) (ii l d) (ctr l) = (mm l d, ii l d, ctr l, 0) ∧ 0 < mm l d ∧ mm l d ≤ 1099511627776 ∧ 0 < ii l d ∧ ii l d ≤ 1099511627776 := by
  have ha := area_up h.1
  have hs := ss_up h.1
  have e1 : 17179869184 * 1000 ≤ area l * d := Int.mul_le_mul h.2.1 h0 (by decide) (by have := h.2.1; omega)
  have e2 : area l * d ≤ 1649267441664 * 1048576 := Int.mul_le_mul ha h1 (by omega) (by decide)
  have e3 : 2147484 * 1000 ≤ ss l * d := Int.mul_le_mul h.2.2 h0 (by decide) (by have := h.2.2; omega)
  have e4 : ss l * d ≤ 90000000000000 * 1048576 := Int.mul_le_mul hs h1 (by omega) (by decide)
  have m1 : 0 < mm l d ∧ mm l d ≤ 1099511627776 := by
    unfold mm rnd
    omega
  have i1 : 0 < ii l d ∧ ii l d ≤ 1099511627776 := by
    unfold ii rnd
    omega
  refine ⟨?_, m1.1, m1.2, i1.1, i1.2⟩
  unfold massE
  rw [if_neg (by omega), if_neg (by omega)]

theorem rnd_two {y D : Int} (hD : 0 < D) : -1 ≤ rnd (2 * y) D - 2 * rnd y D ∧ rnd (2 * y) D - 2 * rnd y D ≤ 1 := by
  unfold rnd
  have a1 := Int.mul_ediv_add_emod (2 * y + D) (2 * D)
  have a2 := Int.emod_nonneg (2 * y + D) (show 2 * D ≠ 0 by omega)
  have a3 := Int.emod_lt_of_pos (2 * y + D) (show 0 < 2 * D by omega)
  have b1 := Int.mul_ediv_add_emod (2 * (2 * y) + D) (2 * D)
  have b2 := Int.emod_nonneg (2 * (2 * y) + D) (show 2 * D ≠ 0 by omega)
  have b3 := Int.emod_lt_of_pos (2 * (2 * y) + D) (show 0 < 2 * D by omega)
  generalize (2 * y + D) / (2 * D) = r at *
  generalize (2 * (2 * y) + D) / (2 * D) = s at *
  generalize (2 * y + D) % (2 * D) = u at *
  generalize (2 * (2 * y) + D) % (2 * D) = v at *
  -- 2 D (s - 2 r) lies between -3 D and 3 D
  have e : 2 * D * s - 2 * (2 * D * r) = 2 * D * (s - 2 * r) := by grind
  have lo : -(4 * D) < 2 * D * (s - 2 * r) := by omega
  have hi : 2 * D * (s - 2 * r) < 4 * D := by omega
  generalize s - 2 * r = t at *
  constructor
  · rcases Int.lt_or_le t (-1) with h | h
    · have : 2 * D * t ≤ 2 * D * (-2) := Int.mul_le_mul_of_nonneg_left (by omega) (by omega)
      omega
    · exact h
  · rcases Int.lt_or_le 1 t with h | h
    · have : 2 * D * 2 ≤ 2 * D * t := Int.mul_le_mul_of_nonneg_left (by omega) (by omega)
      omega
    · exact h

theorem MassDense_true (raw : List Int) (dd : Int) : tourkeep2_MassDense 16 raw dd = some true := by
  have hk : 9 ≤ 16 := by decide
  obtain ⟨l, e1, hh⟩ := Poly_heavy 16 raw
  have hm := hh.1
  have hv := Made_val hm
  obtain ⟨d0, e2, d1, d2⟩ := Below_eq 16 dd (n := 523288) (by decide) (by decide)
  have x1 : iadd .i64 1000 d0 = 1000 + d0 := iadd_i64 (by omega) (by omega)
  have x2 : imul .i64 2 (1000 + d0) = 2 * (1000 + d0) := imul_i64 (by omega) (by omega)
  have m1 := mass_Of_val hk hv (Made_R hm) (d := 1000 + d0) (by omega) (by omega)
  have m2 := mass_Of_val hk hv (Made_R hm) (d := 2 * (1000 + d0)) (by omega) (by omega)
  obtain ⟨a1, a2, a3, a4, a5⟩ := massE_made hh (d := 1000 + d0) (by omega) (by omega)
  obtain ⟨b1, b2, b3, b4, b5⟩ := massE_made hh (d := 2 * (1000 + d0)) (by omega) (by omega)
  rw [a1] at m1
  rw [b1] at m2
  have rm : -1 ≤ mm l (2 * (1000 + d0)) - 2 * mm l (1000 + d0) ∧ mm l (2 * (1000 + d0)) - 2 * mm l (1000 + d0) ≤ 1 := by
    unfold mm
    rw [show area l * (2 * (1000 + d0)) = 2 * (area l * (1000 + d0)) by grind]
    exact rnd_two (by decide)
  have ri : -1 ≤ ii l (2 * (1000 + d0)) - 2 * ii l (1000 + d0) ∧ ii l (2 * (1000 + d0)) - 2 * ii l (1000 + d0) ≤ 1 := by
    unfold ii
    rw [show ss l * (2 * (1000 + d0)) = 2 * (ss l * (1000 + d0)) by grind]
    exact rnd_two (by decide)
  unfold tourkeep2_MassDense
  rw [e1, bnd_some, e2, bnd_some, x1, x2, m1, bnd_some, m2, bnd_some]
  have hc1 : tourkeep2_MassDense.c1 16 (mm l (1000 + d0), ii l (1000 + d0), ctr l, 0) (mm l (2 * (1000 + d0)), ii l (2 * (1000 + d0)), ctr l, 0) = some false := by
    unfold tourkeep2_MassDense.c1
    rw [weighs_eq, bnd_some, bif_true]
    dsimp only
    rw [ine_neg rfl, bif_false, bif_false]
    exact congrArg (fun b => some (!b)) (eqb24_self (ctr l))
  rw [hc1, bnd_some, bif_false]
  dsimp only
  generalize mm l (2 * (1000 + d0)) = M2 at *
  generalize mm l (1000 + d0) = M1 at *
  generalize ii l (2 * (1000 + d0)) = I2 at *
  generalize ii l (1000 + d0) = I1 at *
  rw [imul_i64 (x := 2) (y := M1) (by omega) (by omega), imul_i64 (x := 2) (y := I1) (by omega) (by omega), isub_i64 (x := M2) (by omega) (by omega), isub_i64 (x := 2 * M1) (by omega) (by omega), isub_i64 (x := I2) (by omega) (by omega), isub_i64 (x := 2 * I1) (by omega) (by omega)]
  have c1 : ile (imax (M2 - 2 * M1) (2 * M1 - M2)) 1 = true := ile_pos (by unfold imax; split <;> omega)
  have c2 : ile (imax (I2 - 2 * I1) (2 * I1 - I2)) 1 = true := ile_pos (by unfold imax; split <;> omega)
  rw [c1, bif_true, c2]

theorem tourkeep2_MassDense_plain (x : ((.pair T34 (.pair T3 .unit)) : Ty).den) (_ : Ty.wf (.pair T34 (.pair T3 .unit)) x) : ∃ k, (tourkeep2_MassDense.sp k).f x = some true := ⟨16, MassDense_true _ _⟩
end Go.Proofs.T1
