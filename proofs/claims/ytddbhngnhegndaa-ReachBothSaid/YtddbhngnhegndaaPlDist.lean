/-
  Plain laws: no program in sight.
-/
import Derived.Test.YtddbhngnhegndaaPlTail
namespace Go.Proofs.T1
open Go Go.Sx

/-! Numbers that are not greater than the distance of the origin from a segment, or from a polygon -/
def NrS (p r : V28) (n : Int) : Prop := ∀ X Y w, 0 < w → Seg p r X Y w → n * n * (w * w) ≤ X * X + Y * Y
def NrL (l : List V28) (n : Int) : Prop := ∀ X Y w, 0 < w → HIn l X Y w → n * n * (w * w) ≤ X * X + Y * Y
theorem NrL_anti {l : List V28} {m n : Int} (m0 : 0 ≤ m) (h : m ≤ n) (g : NrL l n) : NrL l m := by
  intro X Y w hw hin
  have := Int.mul_le_mul_of_nonneg_right (sq_le m0 h) (sq_nn w)
  have := g X Y w hw hin
  omega
theorem NrS_anti {p r : V28} {m n : Int} (m0 : 0 ≤ m) (h : m ≤ n) (g : NrS p r n) : NrS p r m := by
  intro X Y w hw hin
  have := Int.mul_le_mul_of_nonneg_right (sq_le m0 h) (sq_nn w)
  have := g X Y w hw hin
  omega
theorem Seg_symm {p r : V28} {X Y w : Int} (h : Seg p r X Y w) : Seg r p X Y w := by
  obtain ⟨α, β, D, h1, h2, h3, e1, e2, e3⟩ := h
  exact ⟨β, α, D, h2, h1, h3, by omega, by omega, by omega⟩
theorem NrS_symm {p r : V28} {n : Int} (h : NrS p r n) : NrS r p n := fun X Y w hw g => h X Y w hw (Seg_symm g)
theorem NrS_end {p r : V28} {n : Int} (h : 0 ≤ dt p (sb r p)) : NrS p r n ↔ n * n ≤ dt p p := by
  constructor
  · intro g
    have := g p.1 p.2.1 1 (by decide) Seg_end.1
    unfold dt
    omega
  · intro g X Y w hw ⟨α, β, D, h1, h2, h3, e1, e2, e3⟩
    refine le_of_mul_le (Int.mul_pos h3 h3) ?_
    have k1 : D * D * (X * X + Y * Y) = (D * X) * (D * X) + (D * Y) * (D * Y) := by grind
    have k2 : D * D * (n * n * (w * w)) = (D * w) * (D * w) * (n * n) := by grind
    rw [k1, k2, e1, e2, e3]
    have k3 : (α * p.1 + β * r.1) * (α * p.1 + β * r.1) + (α * p.2.1 + β * r.2.1) * (α * p.2.1 + β * r.2.1) = (α + β) * (α + β) * dt p p + 2 * ((α + β) * β * dt p (sb r p)) + β * β * dt (sb r p) (sb r p) := by unfold dt sb; grind
    have k4 := Int.mul_le_mul_of_nonneg_left g (sq_nn (α + β))
    have k5 := Int.mul_nonneg (Int.mul_nonneg (show 0 ≤ α + β by omega) h2) h
    have k6 : 0 ≤ dt (sb r p) (sb r p) := by
      have := sq_nn (sb r p).1
      have := sq_nn (sb r p).2.1
      unfold dt
      omega
    have k7 := Int.mul_nonneg (sq_nn β) k6
    omega
theorem NrS_end2 {p r : V28} {n : Int} (h : dt r (sb r p) ≤ 0) : NrS p r n ↔ n * n ≤ dt r r := by
  have h' : 0 ≤ dt r (sb p r) := by
    have : dt r (sb p r) = - dt r (sb r p) := by unfold dt sb; grind
    omega
  exact ⟨fun g => (NrS_end h').1 (NrS_symm g), fun g => NrS_symm ((NrS_end h').2 g)⟩
theorem NrS_mid {p r : V28} {n : Int} (h : dt p (sb r p) < 0) (h' : 0 < dt r (sb r p)) : NrS p r n ↔ n * n * dt (sb r p) (sb r p) ≤ cr p r * cr p r := by
  have hs : dt r (sb r p) = dt (sb r p) (sb r p) + dt p (sb r p) := by unfold dt sb; grind
  constructor
  · intro g
    have sg : Seg p r ((dt r (sb r p)) * p.1 + (- dt p (sb r p)) * r.1) ((dt r (sb r p)) * p.2.1 + (- dt p (sb r p)) * r.2.1) (dt (sb r p) (sb r p)) := ⟨dt r (sb r p), - dt p (sb r p), 1, by omega, by omega, by decide, by omega, by omega, by omega⟩
    have := g _ _ _ (by omega) sg
    have k1 : (dt r (sb r p)) * p.1 + (- dt p (sb r p)) * r.1 = (sb r p).2.1 * cr p r := by unfold dt sb cr; grind
    have k2 : (dt r (sb r p)) * p.2.1 + (- dt p (sb r p)) * r.2.1 = - ((sb r p).1 * cr p r) := by unfold dt sb cr; grind
    rw [k1, k2] at this
    have k3 : (sb r p).2.1 * cr p r * ((sb r p).2.1 * cr p r) + - ((sb r p).1 * cr p r) * - ((sb r p).1 * cr p r) = dt (sb r p) (sb r p) * (cr p r * cr p r) := by
      generalize cr p r = c
      unfold dt
      grind
    rw [k3] at this
    refine le_of_mul_le (c := dt (sb r p) (sb r p)) (by omega) ?_
    have k4 : dt (sb r p) (sb r p) * (n * n * dt (sb r p) (sb r p)) = n * n * (dt (sb r p) (sb r p) * dt (sb r p) (sb r p)) := by grind
    omega
  · intro g X Y w hw ⟨α, β, D, h1, h2, h3, e1, e2, e3⟩
    have hS : 0 < dt (sb r p) (sb r p) := by omega
    refine le_of_mul_le (Int.mul_pos hS (Int.mul_pos h3 h3)) ?_
    have k1 : dt (sb r p) (sb r p) * (D * D) * (X * X + Y * Y) = dt (sb r p) (sb r p) * ((D * X) * (D * X) + (D * Y) * (D * Y)) := by grind
    have k2 : dt (sb r p) (sb r p) * (D * D) * (n * n * (w * w)) = (D * w) * (D * w) * (n * n * dt (sb r p) (sb r p)) := by grind
    rw [k1, k2, e1]
    have k3 : dt (sb r p) (sb r p) * ((D * X) * (D * X) + (D * Y) * (D * Y)) = ((sb r p).1 * (D * X) + (sb r p).2.1 * (D * Y)) * ((sb r p).1 * (D * X) + (sb r p).2.1 * (D * Y)) + ((sb r p).1 * (D * Y) - (sb r p).2.1 * (D * X)) * ((sb r p).1 * (D * Y) - (sb r p).2.1 * (D * X)) := by
      generalize D * X = U
      generalize D * Y = V
      unfold dt
      grind
    have k4 : (sb r p).1 * (D * Y) - (sb r p).2.1 * (D * X) = - ((α + β) * cr p r) := by
      rw [e2, e3]
      unfold sb cr
      grind
    have k5 : - ((α + β) * cr p r) * - ((α + β) * cr p r) = (α + β) * (α + β) * (cr p r * cr p r) := by grind
    have k6 := sq_nn ((sb r p).1 * (D * X) + (sb r p).2.1 * (D * Y))
    have k7 := Int.mul_le_mul_of_nonneg_left g (sq_nn (α + β))
    rw [k3, k4, k5]
    omega
theorem NrL_iff {l : List V28} (he : EdgeP l) (h3 : 3 ≤ len l) (hz : ¬ InP l zed) {n : Int} : NrL l n ↔ ∀ i, 0 ≤ i → i < len l → NrS (q l i) (q l (nx (len l) i)) n := by
  constructor
  · intro h i i0 i1 X Y w hw g
    exact h X Y w hw (Seg_HIn he i0 i1 g)
  · intro h X Y w hw hin
    have hout : ¬ HIn l 0 0 1 := fun g => hz (HIn_one.1 g)
    obtain ⟨k, α, β, k0, k1, a0, b0, p0, hh, z⟩ := exit_poly hw (by decide) hin hout
    have sg := on_edge he h3 k0 k1 hh z
    have g := h k k0 k1 _ _ _ p0 sg
    simp only [Int.mul_zero, Int.add_zero, Int.mul_one] at g
    have a1 : 0 < α := by
      rcases Int.lt_or_le 0 α with c | c
      · exact c
      · have : α = 0 := by omega
        subst this
        simp only [Int.zero_mul, Int.mul_zero, Int.add_zero, Int.zero_add, Int.mul_one] at hh p0
        exfalso
        refine hout fun i i0 i1 => nn_of_mul (b := β) p0 ?_
        have := hh i i0 i1
        have e : hs (q l i) (q l (nx (len l) i)) 0 0 β = β * hs (q l i) (q l (nx (len l) i)) 0 0 1 := by unfold hs; grind
        omega
    refine le_of_mul_le (Int.mul_pos a1 a1) ?_
    have e1 : α * α * (X * X + Y * Y) = α * X * (α * X) + α * Y * (α * Y) := by grind
    have e2 : α * α * (n * n * (w * w)) = n * n * (α * w * (α * w)) := by grind
    have e3 : α * w * (α * w) ≤ (α * w + β) * (α * w + β) := sq_le (Int.mul_nonneg a0 (Int.le_of_lt hw)) (by omega)
    have e4 := Int.mul_le_mul_of_nonneg_left e3 (sq_nn n)
    omega
theorem NrL_zero (l : List V28) : NrL l 0 := by
  intro X Y w _ _
  have := sq_nn X
  have := sq_nn Y
  simp only [Int.zero_mul]
  omega
theorem NrL_in {l : List V28} (h : InP l zed) {n : Int} (n0 : 0 ≤ n) (g : NrL l n) : n = 0 := by
  have := g 0 0 1 (by decide) (HIn_one (p := zed).2 h)
  simp only [Int.mul_one, Int.mul_zero, Int.add_zero] at this
  rcases Int.lt_or_le 0 n with c | c
  · have := Int.mul_pos c c; omega
  · omega

/-! A rational point of a polygon, from three corners -/
theorem HIn_fan {l : List V28} (h3 : 3 ≤ len l) (he : EdgeP l) {X Y w : Int} (hw : 0 < w) (h : HIn l X Y w) :
    ∃ x y z α β γ D, (0 ≤ x ∧ x < len l) ∧ (0 ≤ y ∧ y < len l) ∧ (0 ≤ z ∧ z < len l) ∧ 0 ≤ α ∧ 0 ≤ β ∧ 0 ≤ γ ∧ 0 < D ∧ D * w = α + β + γ ∧
      D * X = α * (q l x).1 + β * (q l y).1 + γ * (q l z).1 ∧ D * Y = α * (q l x).2.1 + β * (q l y).2.1 + γ * (q l z).2.1 := by
  have hi : InP (scl w l) (X, Y, ()) := by
    intro i i0 i1
    rw [len_scl] at *
    have hn := nx_range i0 i1
    rw [q_scl w i0 i1, q_scl w hn.1 hn.2, tri_scl]
    exact Int.mul_nonneg (Int.le_of_lt hw) (h i i0 i1)
  obtain ⟨i, i2, i1, c1, c2, c3⟩ := In_Fan (by rw [len_scl]; exact h3) hi
  rw [len_scl] at i1
  have s0 := q_scl w (l := l) (i := 0) (by omega) (by omega)
  have s1 := q_scl w (l := l) (i := i - 1) (by omega) (by omega)
  have s2 := q_scl w (l := l) (i := i) (by omega) (by omega)
  rw [s0, s1, tri_scl] at c1
  rw [s1, s2, tri_scl] at c2
  rw [s2, s0, tri_scl] at c3
  have c1 := nn_of_mul hw c1
  have c2 := nn_of_mul hw c2
  have c3 := nn_of_mul hw c3
  have ht := Edge_Trip he 0 (i - 1) i (by omega) (by omega) (by omega) i1
  refine ⟨0, i - 1, i, hs (q l (i - 1)) (q l i) X Y w, hs (q l i) (q l 0) X Y w, hs (q l 0) (q l (i - 1)) X Y w, _, ⟨by omega, by omega⟩, ⟨by omega, by omega⟩, ⟨by omega, by omega⟩, c2, c3, c1, ht, ?_, ?_, ?_⟩
  · unfold tri hs; grind
  · unfold tri hs; grind
  · unfold tri hs; grind
theorem hs_mul (D : Int) (c d : V28) (X Y w : Int) : D * hs c d X Y w = hs c d (D * X) (D * Y) (D * w) := by unfold hs; grind
theorem hull_map {l l' : List V28} (h3 : 3 ≤ len l') (he : EdgeP l') {s : Int} {v : V28} (hc : ∀ t, 0 ≤ t → t < len l' → InP l (s * (q l' t).1 + v.1, s * (q l' t).2.1 + v.2.1, ())) {X Y w : Int} (hw : 0 < w) (h : HIn l' X Y w) :
    HIn l (s * X + w * v.1) (s * Y + w * v.2.1) w := by
  obtain ⟨x, y, z, α, β, γ, D, hx, hy, hz, a0, b0, g0, hD, e1, e2, e3⟩ := HIn_fan h3 he hw h
  intro i i0 i1
  refine nn_of_mul hD ?_
  rw [hs_mul]
  have k1 : D * (s * X + w * v.1) = α * (s * (q l' x).1 + v.1) + β * (s * (q l' y).1 + v.1) + γ * (s * (q l' z).1 + v.1) := by
    have : D * (s * X + w * v.1) = s * (D * X) + D * w * v.1 := by grind
    rw [this, e1, e2]; grind
  have k2 : D * (s * Y + w * v.2.1) = α * (s * (q l' x).2.1 + v.2.1) + β * (s * (q l' y).2.1 + v.2.1) + γ * (s * (q l' z).2.1 + v.2.1) := by
    have : D * (s * Y + w * v.2.1) = s * (D * Y) + D * w * v.2.1 := by grind
    rw [this, e1, e3]; grind
  rw [k1, k2, e1]
  have t := hs_three (q l i) (q l (nx (len l) i)) (s * (q l' x).1 + v.1, s * (q l' x).2.1 + v.2.1, ()) (s * (q l' y).1 + v.1, s * (q l' y).2.1 + v.2.1, ()) (s * (q l' z).1 + v.1, s * (q l' z).2.1 + v.2.1, ()) α β γ
  dsimp only at t
  rw [t]
  have p1 := Int.mul_nonneg a0 (hc x hx.1 hx.2 i i0 i1)
  have p2 := Int.mul_nonneg b0 (hc y hy.1 hy.2 i i0 i1)
  have p3 := Int.mul_nonneg g0 (hc z hz.1 hz.2 i i0 i1)
  omega

/-! In both orders -/
theorem Dif_swap {a b l l' : List V28} (h : Dif a b l) (h' : Dif b a l') {X Y w : Int} (hw : 0 < w) (g : HIn l' X Y w) : HIn l (-X) (-Y) w := by
  have := hull_map (l := l) (s := -1) (v := zed) h'.len3 h'.edge (by
    intro t t0 t1
    obtain ⟨i, j, hi, hj, e⟩ := h'.dif t t0 t1
    intro r r0 r1
    have A := h.all r j i r0 r1 hj.1 hj.2 hi.1 hi.2
    rw [e]
    have k : ((-1) * (sb (q b i) (q a j)).1 + zed.1, (-1) * (sb (q b i) (q a j)).2.1 + zed.2.1, ()) = sb (q a j) (q b i) := by
      refine v_ext ?_ ?_ <;> unfold sb zed <;> dsimp only <;> omega
    rw [k]; exact A) hw g
  have e1 : -1 * X + w * zed.1 = -X := by unfold zed; dsimp only; omega
  have e2 : -1 * Y + w * zed.2.1 = -Y := by unfold zed; dsimp only; omega
  rw [e1, e2] at this
  exact this
theorem NrL_swap {a b l l' : List V28} (h : Dif a b l) (h' : Dif b a l') {n : Int} (g : NrL l n) : NrL l' n := by
  intro X Y w hw hin
  have := g _ _ w hw (Dif_swap h h' hw hin)
  simp only [Int.neg_mul_neg] at this
  exact this

/-! One of them moved -/
theorem Dif_move {a b l l' : List V28} {v : V28} (h : Dif a b l) (h' : Dif a (shift b v) l') {X Y w : Int} (hw : 0 < w) :
    (HIn l' X Y w → HIn l (X + w * v.1) (Y + w * v.2.1) w) ∧ (HIn l X Y w → HIn l' (X - w * v.1) (Y - w * v.2.1) w) := by
  constructor
  · intro g
    have := hull_map (l := l) (s := 1) (v := v) h'.len3 h'.edge (by
      intro t t0 t1
      obtain ⟨i, j, hi, hj, e⟩ := h'.dif t t0 t1
      rw [len_shift] at hj
      rw [q_shift hj.1 hj.2] at e
      intro r r0 r1
      have A := h.all r i j r0 r1 hi.1 hi.2 hj.1 hj.2
      rw [e]
      have k : (1 * (sb (q a i) ((q b j).1 + v.1, (q b j).2.1 + v.2.1, ())).1 + v.1, 1 * (sb (q a i) ((q b j).1 + v.1, (q b j).2.1 + v.2.1, ())).2.1 + v.2.1, ()) = sb (q a i) (q b j) := by
        refine v_ext ?_ ?_ <;> unfold sb <;> dsimp only <;> omega
      rw [k]; exact A) hw g
    rw [Int.one_mul, Int.one_mul] at this
    exact this
  · intro g
    have := hull_map (l := l') (s := 1) (v := ng v) h.len3 h.edge (by
      intro t t0 t1
      obtain ⟨i, j, hi, hj, e⟩ := h.dif t t0 t1
      intro r r0 r1
      have A := h'.all r i j r0 r1 hi.1 hi.2 hj.1 (by rw [len_shift]; exact hj.2)
      rw [q_shift hj.1 hj.2] at A
      rw [e]
      have k : (1 * (sb (q a i) (q b j)).1 + (ng v).1, 1 * (sb (q a i) (q b j)).2.1 + (ng v).2.1, ()) = sb (q a i) ((q b j).1 + v.1, (q b j).2.1 + v.2.1, ()) := by
        refine v_ext ?_ ?_ <;> unfold sb ng <;> dsimp only <;> omega
      rw [k]; exact A) hw g
    have e1 : 1 * X + w * (ng v).1 = X - w * v.1 := by unfold ng; dsimp only; rw [Int.mul_neg]; omega
    have e2 : 1 * Y + w * (ng v).2.1 = Y - w * v.2.1 := by unfold ng; dsimp only; rw [Int.mul_neg]; omega
    rw [e1, e2] at this
    exact this
theorem tri_ineq {x1 x2 y1 y2 A B : Int} (hA : 0 ≤ A) (hB : 0 ≤ B) (h1 : x1 * x1 + x2 * x2 < A * A) (h2 : y1 * y1 + y2 * y2 < B * B) : (x1 - y1) * (x1 - y1) + (x2 - y2) * (x2 - y2) < (A + B) * (A + B) := by
  have L : (x1 * y1 + x2 * y2) * (x1 * y1 + x2 * y2) + (x1 * y2 - x2 * y1) * (x1 * y2 - x2 * y1) = (x1 * x1 + x2 * x2) * (y1 * y1 + y2 * y2) := by grind
  have n1 := sq_nn (x1 * y2 - x2 * y1)
  have nx1 := sq_nn x1
  have nx2 := sq_nn x2
  have ny1 := sq_nn y1
  have ny2 := sq_nn y2
  have p1 := Int.mul_le_mul_of_nonneg_right (Int.le_of_lt h1) (show 0 ≤ y1 * y1 + y2 * y2 by omega)
  have p2 := Int.mul_le_mul_of_nonneg_left (Int.le_of_lt h2) (show 0 ≤ A * A by exact sq_nn A)
  have e1 : A * A * (B * B) = A * B * (A * B) := by grind
  have e2 : (x1 - y1) * (x1 - y1) + (x2 - y2) * (x2 - y2) = x1 * x1 + x2 * x2 + (y1 * y1 + y2 * y2) - 2 * (x1 * y1 + x2 * y2) := by grind
  have e3 : (A + B) * (A + B) = A * A + B * B + 2 * (A * B) := by grind
  have ab := Int.mul_nonneg hA hB
  rw [e2, e3]
  rcases Int.lt_or_le (x1 * y1 + x2 * y2) (-(A * B)) with c | c
  · have : - (x1 * y1 + x2 * y2) < A * B + 0 := sq_lt (by omega) (by omega) (by
      rw [Int.neg_mul_neg, Int.add_zero]
      rcases Int.lt_or_le ((x1 * y1 + x2 * y2) * (x1 * y1 + x2 * y2)) (A * B * (A * B)) with d | d
      · exact d
      · exfalso
        have s : A * B + 1 ≤ - (x1 * y1 + x2 * y2) := by omega
        have s2 := sq_le (show 0 ≤ A * B + 1 by omega) s
        rw [Int.neg_mul_neg] at s2
        have e4 : (A * B + 1) * (A * B + 1) = A * B * (A * B) + 2 * (A * B) + 1 := by grind
        omega)
    omega
  · omega
theorem NrL_move {l l' : List V28} {v : V28} (hm : ∀ X Y w, 0 < w → HIn l X Y w → HIn l' (X - w * v.1) (Y - w * v.2.1) w) {d r : Int} (hr : v.1 * v.1 + v.2.1 * v.2.1 < (r + 1) * (r + 1)) (r0 : 0 ≤ r) (hd : r + 1 ≤ d) (h : NrL l' d) : NrL l (d - r - 1) := by
  intro X Y w hw hin
  have g := h _ _ w hw (hm X Y w hw hin)
  rcases Int.lt_or_le (X * X + Y * Y) ((d - r - 1) * (d - r - 1) * (w * w)) with c | c
  · exfalso
    have t := tri_ineq (x1 := X) (x2 := Y) (y1 := w * v.1) (y2 := w * v.2.1) (A := (d - r - 1) * w) (B := (r + 1) * w) (Int.mul_nonneg (by omega) (Int.le_of_lt hw)) (Int.mul_nonneg (by omega) (Int.le_of_lt hw))
      (by have : (d - r - 1) * w * ((d - r - 1) * w) = (d - r - 1) * (d - r - 1) * (w * w) := by grind
          omega)
      (by have e1 : (r + 1) * w * ((r + 1) * w) = (w * w) * ((r + 1) * (r + 1)) := by grind
          have e2 : w * v.1 * (w * v.1) + w * v.2.1 * (w * v.2.1) = (w * w) * (v.1 * v.1 + v.2.1 * v.2.1) := by grind
          rw [e1, e2]
          exact Int.mul_lt_mul_of_pos_left hr (Int.mul_pos hw hw))
    have e : ((d - r - 1) * w + (r + 1) * w) * ((d - r - 1) * w + (r + 1) * w) = d * d * (w * w) := by grind
    omega
  · exact c
end Go.Proofs.T1
