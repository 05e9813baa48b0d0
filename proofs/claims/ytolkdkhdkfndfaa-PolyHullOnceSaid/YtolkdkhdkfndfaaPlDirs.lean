/-
  Plain laws: no program in sight.
-/
import Derived.Test.YtolkdkhdkfndfaaPlPoly
namespace Go.Proofs.T1
open Go Go.Sx

/-! Support -/
def dt (a b : V27) : Int := a.1 * b.1 + a.2.1 * b.2.1

end Go.Proofs.T1
namespace Go.Proofs.T1
open Go Go.Sx

/-! Directions, sorted by their angles from 0 on -/
def sb (a b : V27) : V27 := (a.1 - b.1, a.2.1 - b.2.1, ())
def pl (a b : V27) : V27 := (a.1 + b.1, a.2.1 + b.2.1, ())
def ng (v : V27) : V27 := (-v.1, -v.2.1, ())
theorem v_ext {a b : V27} (h : a.1 = b.1) (g : a.2.1 = b.2.1) : a = b := by
  obtain ⟨x, y, _⟩ := a
  obtain ⟨u, v, _⟩ := b
  dsimp only at h g
  rw [h, g]
theorem tri_cr (a b p : V27) : tri a b p = cr (sb b a) (sb p a) := rfl
def Up (v : V27) : Prop := 0 < v.2.1 ∨ (v.2.1 = 0 ∧ 0 < v.1)
def Dn (v : V27) : Prop := v.2.1 < 0 ∨ (v.2.1 = 0 ∧ v.1 < 0)
theorem Up_Dn {v : V27} (h : Up v) (g : Dn v) : False := by unfold Up at h; unfold Dn at g; omega
theorem Dn_ng {v : V27} (h : Dn v) : Up (ng v) := by unfold Dn at h; unfold Up ng; dsimp only; omega
theorem Up_ng {v : V27} (h : Up v) : Dn (ng v) := by unfold Up at h; unfold Dn ng; dsimp only; omega
theorem cr_anti (u v : V27) : cr v u = - cr u v := by unfold cr; grind
theorem cr_ng_l (u v : V27) : cr (ng u) v = - cr u v := by unfold cr ng; grind
theorem cr_ng_r (u v : V27) : cr u (ng v) = - cr u v := by unfold cr ng; grind
theorem cr_ng2 (u v : V27) : cr (ng u) (ng v) = cr u v := by unfold cr ng; grind
theorem cr_self (u : V27) : cr u u = 0 := by unfold cr; grind
theorem cr_pl_l (u v w : V27) : cr (pl u v) w = cr u w + cr v w := by unfold cr pl; grind
theorem cr_pl_r (u v w : V27) : cr w (pl u v) = cr w u + cr w v := by unfold cr pl; grind

theorem up_tr {a b c d e f : Int} (hu : 0 < b ∨ (b = 0 ∧ 0 < a)) (hv : 0 < d ∨ (d = 0 ∧ 0 < c)) (hw : 0 < f ∨ (f = 0 ∧ 0 < e)) (h1 : 0 ≤ a * d - b * c) (h2 : 0 ≤ c * f - d * e) (h3 : 0 < a * d - b * c ∨ 0 < c * f - d * e) : 0 < a * f - b * e := by
  have key : d * (a * f - b * e) = (c * f - d * e) * b + (a * d - b * c) * f := by grind
  rcases hv with hd | ⟨hd, hc⟩
  · rcases hu with hb | ⟨hb, ha⟩
    · rcases hw with hf | ⟨hf, he⟩
      · refine pos_of_mul hd ?_
        rw [key]
        rcases h3 with h3 | h3
        · have := Int.mul_nonneg h2 (Int.le_of_lt hb); have := Int.mul_pos h3 hf; omega
        · have := Int.mul_pos h3 hb; have := Int.mul_nonneg h1 (Int.le_of_lt hf); omega
      · subst hf
        have := Int.mul_pos hd he
        simp at h2 h3
        omega
    · subst hb
      rcases hw with hf | ⟨hf, he⟩
      · have := Int.mul_pos ha hf; simp; omega
      · subst hf
        have := Int.mul_pos hd he
        simp at h2 h3
        omega
  · subst hd
    rcases hu with hb | ⟨hb, ha⟩
    · have := Int.mul_pos hb hc; simp at h1; omega
    · subst hb
      rcases hw with hf | ⟨hf, he⟩
      · have := Int.mul_pos ha hf; simp; omega
      · subst hf
        simp at h3
theorem Up_tr {u v w : V27} (hu : Up u) (hv : Up v) (hw : Up w) (h1 : 0 ≤ cr u v) (h2 : 0 ≤ cr v w) (h3 : 0 < cr u v ∨ 0 < cr v w) : 0 < cr u w := up_tr hu hv hw h1 h2 h3
theorem Dn_tr {u v w : V27} (hu : Dn u) (hv : Dn v) (hw : Dn w) (h1 : 0 ≤ cr u v) (h2 : 0 ≤ cr v w) (h3 : 0 < cr u v ∨ 0 < cr v w) : 0 < cr u w := by
  have := Up_tr (Dn_ng hu) (Dn_ng hv) (Dn_ng hw) (by rw [cr_ng2]; exact h1) (by rw [cr_ng2]; exact h2) (by rw [cr_ng2, cr_ng2]; exact h3)
  rwa [cr_ng2] at this
theorem K2 {f e g : V27} (hf : Up f) (he : Up e) (hg : Dn g) (h1 : 0 ≤ cr f e) (h2 : 0 < cr f g) : 0 < cr e g := by
  have := Up_tr (Dn_ng hg) hf he (by rw [cr_ng_l, ← cr_anti]; omega) h1 (Or.inl (by rw [cr_ng_l, ← cr_anti]; omega))
  rw [cr_ng_l, ← cr_anti] at this; exact this
theorem K2' {f e g : V27} (hf : Dn f) (he : Dn e) (hg : Up g) (h1 : 0 ≤ cr f e) (h2 : 0 < cr f g) : 0 < cr e g := by
  have := K2 (Dn_ng hf) (Dn_ng he) (Up_ng hg) (by rw [cr_ng2]; exact h1) (by rw [cr_ng2]; exact h2)
  rwa [cr_ng2] at this
theorem K3 {f e g : V27} (hf : Up f) (he : Dn e) (hg : Dn g) (h1 : 0 < cr f g) (h2 : 0 ≤ cr e g) : 0 < cr f e := by
  have := Dn_tr he hg (Up_ng hf) h2 (by rw [cr_ng_r, ← cr_anti]; omega) (Or.inr (by rw [cr_ng_r, ← cr_anti]; omega))
  rw [cr_ng_r, ← cr_anti] at this; exact this
theorem K3' {f e g : V27} (hf : Dn f) (he : Up e) (hg : Up g) (h1 : 0 < cr f g) (h2 : 0 ≤ cr e g) : 0 < cr f e := by
  have := K3 (Dn_ng hf) (Up_ng he) (Up_ng hg) (by rw [cr_ng2]; exact h1) (by rw [cr_ng2]; exact h2)
  rwa [cr_ng2] at this

def Lt (u v : V27) : Prop := (Up u ∧ Dn v) ∨ (Up u ∧ Up v ∧ 0 < cr u v) ∨ (Dn u ∧ Dn v ∧ 0 < cr u v)
def Le (u v : V27) : Prop := (Up u ∧ Dn v) ∨ (Up u ∧ Up v ∧ 0 ≤ cr u v) ∨ (Dn u ∧ Dn v ∧ 0 ≤ cr u v)
theorem Lt_Le {u v : V27} (h : Lt u v) : Le u v := by
  rcases h with h | ⟨a, b, c⟩ | ⟨a, b, c⟩
  · exact Or.inl h
  · exact Or.inr (Or.inl ⟨a, b, by omega⟩)
  · exact Or.inr (Or.inr ⟨a, b, by omega⟩)
theorem LeLt {u v w : V27} (h : Le u v) (g : Lt v w) : Lt u w := by
  rcases h with ⟨a, b⟩ | ⟨a, b, c⟩ | ⟨a, b, c⟩ <;> rcases g with ⟨x, y⟩ | ⟨x, y, z⟩ | ⟨x, y, z⟩
  · exact (Up_Dn x b).elim
  · exact (Up_Dn x b).elim
  · exact Or.inl ⟨a, y⟩
  · exact Or.inl ⟨a, y⟩
  · exact Or.inr (Or.inl ⟨a, y, Up_tr a b y c (by omega) (Or.inr z)⟩)
  · exact (Up_Dn b x).elim
  · exact (Up_Dn x b).elim
  · exact (Up_Dn x b).elim
  · exact Or.inr (Or.inr ⟨a, y, Dn_tr a b y c (by omega) (Or.inr z)⟩)
theorem LtLe {u v w : V27} (h : Lt u v) (g : Le v w) : Lt u w := by
  rcases h with ⟨a, b⟩ | ⟨a, b, c⟩ | ⟨a, b, c⟩ <;> rcases g with ⟨x, y⟩ | ⟨x, y, z⟩ | ⟨x, y, z⟩
  · exact (Up_Dn x b).elim
  · exact (Up_Dn x b).elim
  · exact Or.inl ⟨a, y⟩
  · exact Or.inl ⟨a, y⟩
  · exact Or.inr (Or.inl ⟨a, y, Up_tr a b y (by omega) z (Or.inl c)⟩)
  · exact (Up_Dn b x).elim
  · exact (Up_Dn x b).elim
  · exact (Up_Dn x b).elim
  · exact Or.inr (Or.inr ⟨a, y, Dn_tr a b y (by omega) z (Or.inl c)⟩)
theorem Lt_tr {u v w : V27} (h : Lt u v) (g : Lt v w) : Lt u w := LeLt (Lt_Le h) g
theorem Lt_pl_l {u v w : V27} (h1 : Lt u w) (h2 : Lt v w) (h : (Up u ∧ Up v) ∨ (Dn u ∧ Dn v)) : Lt (pl u v) w := by
  rcases h with ⟨a, b⟩ | ⟨a, b⟩
  · have hu : Up (pl u v) := by unfold Up at *; unfold pl; dsimp only; omega
    rcases h1 with ⟨_, y⟩ | ⟨_, y, z⟩ | ⟨x, _, _⟩
    · exact Or.inl ⟨hu, y⟩
    · refine Or.inr (Or.inl ⟨hu, y, ?_⟩)
      rcases h2 with ⟨_, g⟩ | ⟨_, _, g⟩ | ⟨g, _, _⟩
      · exact (Up_Dn y g).elim
      · rw [cr_pl_l]; omega
      · exact (Up_Dn b g).elim
    · exact (Up_Dn a x).elim
  · have hu : Dn (pl u v) := by unfold Dn at *; unfold pl; dsimp only; omega
    rcases h1 with ⟨y, _⟩ | ⟨y, _, z⟩ | ⟨x, y, z⟩
    · exact (Up_Dn y a).elim
    · exact (Up_Dn y a).elim
    · refine Or.inr (Or.inr ⟨hu, y, ?_⟩)
      rcases h2 with ⟨g, _⟩ | ⟨g, _, _⟩ | ⟨_, _, g⟩
      · exact (Up_Dn g b).elim
      · exact (Up_Dn g b).elim
      · rw [cr_pl_l]; omega
theorem Lt_pl_r {u v w : V27} (h1 : Lt w u) (h2 : Lt w v) (h : (Up u ∧ Up v) ∨ (Dn u ∧ Dn v)) : Lt w (pl u v) := by
  rcases h with ⟨a, b⟩ | ⟨a, b⟩
  · have hu : Up (pl u v) := by unfold Up at *; unfold pl; dsimp only; omega
    rcases h1 with ⟨_, y⟩ | ⟨x, y, z⟩ | ⟨x, y, _⟩
    · exact (Up_Dn a y).elim
    · refine Or.inr (Or.inl ⟨x, hu, ?_⟩)
      rcases h2 with ⟨_, g⟩ | ⟨_, _, g⟩ | ⟨_, g, _⟩
      · exact (Up_Dn b g).elim
      · rw [cr_pl_r]; omega
      · exact (Up_Dn b g).elim
    · exact (Up_Dn a y).elim
  · have hu : Dn (pl u v) := by unfold Dn at *; unfold pl; dsimp only; omega
    rcases h1 with ⟨y, _⟩ | ⟨_, y, z⟩ | ⟨x, y, z⟩
    · exact Or.inl ⟨y, hu⟩
    · exact (Up_Dn y a).elim
    · refine Or.inr (Or.inr ⟨x, hu, ?_⟩)
      rcases h2 with ⟨g, _⟩ | ⟨_, g, _⟩ | ⟨_, _, g⟩
      · exact (Up_Dn g x).elim
      · exact (Up_Dn g b).elim
      · rw [cr_pl_r]; omega
/-- Two directions in the cone of two neighbours. -/
theorem Lt_cone1 {u p r : V27} (h1 : Lt u p) (h2 : Lt p r) (h : 0 < cr p r) (a : 0 ≤ cr p u) (b : 0 ≤ cr u r) : False := by
  rcases h1 with ⟨x, y⟩ | ⟨_, _, z⟩ | ⟨_, _, z⟩
  · have hr : Dn r := by
      rcases h2 with ⟨g, _⟩ | ⟨g, _, _⟩ | ⟨_, g, _⟩
      · exact (Up_Dn g y).elim
      · exact (Up_Dn g y).elim
      · exact g
    have := K3 x y hr
    have t := Dn_tr (Up_ng x) y hr (by rw [cr_ng_l, ← cr_anti]; exact a) (by omega) (Or.inr h)
    rw [cr_ng_l] at t
    omega
  · rw [cr_anti] at a; omega
  · rw [cr_anti] at a; omega
theorem Lt_cone2 {u p r : V27} (h1 : Lt r u) (h2 : Lt p r) (h : 0 < cr p r) (a : 0 ≤ cr p u) (b : 0 ≤ cr u r) : False := by
  rcases h1 with ⟨x, y⟩ | ⟨_, _, z⟩ | ⟨_, _, z⟩
  · have hp : Up p := by
      rcases h2 with ⟨_, g⟩ | ⟨g, _, _⟩ | ⟨_, g, _⟩
      · exact (Up_Dn x g).elim
      · exact g
      · exact (Up_Dn x g).elim
    have t := Up_tr (Dn_ng y) hp x (by rw [cr_ng_l, ← cr_anti]; exact a) (by omega) (Or.inr h)
    rw [cr_ng_l] at t
    omega
  · rw [cr_anti] at b; omega
  · rw [cr_anti] at b; omega
end Go.Proofs.T1
namespace Go.Proofs.T1
open Go Go.Sx

/-! A strictly convex polygon, counted from its lowest corner -/
structure Cv (n : Nat) (A : Nat → V27) : Prop where
  n3 : 3 ≤ n
  per : A n = A 0
  edge : ∀ i j, i < n → j < n → j ≠ i → (j = 0 → i + 1 ≠ n) → j ≠ i + 1 → 0 < tri (A i) (A (i + 1)) (A j)
  low : ∀ j, 0 < j → j < n → Up (sb (A j) (A 0))
def ed (A : Nat → V27) (i : Nat) : V27 := sb (A (i + 1)) (A i)

section
variable {n : Nat} {A : Nat → V27}
theorem Cv.nn (h : Cv n A) {i j : Nat} (hi : i < n) (hj : j ≤ n) : 0 ≤ cr (ed A i) (sb (A j) (A i)) := by
  have H : ∀ j, j < n → 0 ≤ cr (ed A i) (sb (A j) (A i)) := by
    intro j hj
    by_cases a : j = i
    · subst a; unfold cr sb; dsimp only; grind
    by_cases b : j = i + 1
    · subst b; exact Int.le_of_eq (cr_self _).symm
    by_cases c : j = 0 ∧ i + 1 = n
    · have : A (i + 1) = A j := by rw [c.2, c.1, h.per]
      unfold ed; rw [this]; exact Int.le_of_eq (cr_self _).symm
    · exact Int.le_of_lt (h.edge i j hi hj a (fun x y => c ⟨x, y⟩) b)
  by_cases e : j = n
  · rw [e, h.per]; exact H 0 (by have := h.n3; omega)
  · exact H j (by omega)
theorem cr_next (e a b p : V27) (h : e = sb b a) : cr e (sb p b) = cr e (sb p a) := by subst h; unfold cr sb; dsimp only; grind
theorem Cv.nn2 (h : Cv n A) {i j : Nat} (hi : i < n) (hj : j ≤ n) : 0 ≤ cr (ed A i) (sb (A j) (A (i + 1))) := by
  rw [cr_next (ed A i) (A i) (A (i + 1)) (A j) rfl]; exact h.nn hi hj
theorem Cv.turn (h : Cv n A) {i : Nat} (hi : i + 1 < n) : 0 < cr (ed A i) (ed A (i + 1)) := by
  have e : cr (ed A i) (ed A (i + 1)) = tri (A i) (A (i + 1)) (A (i + 2)) := cr_next _ _ _ _ rfl
  rw [e]
  have := h.n3
  by_cases c : i + 2 = n
  · rw [c, h.per]; exact h.edge i 0 (by omega) (by omega) (by omega) (by omega) (by omega)
  · exact h.edge i (i + 2) (by omega) (by omega) (by omega) (by omega) (by omega)
theorem Cv.wrap (h : Cv n A) : 0 < cr (ed A (n - 1)) (ed A 0) := by
  have h3 := h.n3
  have e : ed A 0 = sb (A 1) (A (n - 1 + 1)) := by rw [show n - 1 + 1 = n by omega, h.per]; rfl
  rw [e, cr_next (ed A (n - 1)) (A (n - 1)) (A (n - 1 + 1)) (A 1) rfl]
  exact h.edge (n - 1) 1 (by omega) (by omega) (by omega) (by omega) (by omega)
theorem Cv.first (h : Cv n A) : Up (ed A 0) := h.low 1 (by omega) (by have := h.n3; omega)
theorem Cv.last (h : Cv n A) : Dn (ed A (n - 1)) := by
  have h3 := h.n3
  have e : ed A (n - 1) = ng (sb (A (n - 1)) (A 0)) := by
    unfold ed; rw [show n - 1 + 1 = n by omega, h.per]; unfold sb ng; refine v_ext ?_ ?_ <;> dsimp only <;> omega
  rw [e]; exact Up_ng (h.low (n - 1) (by omega) (by omega))
theorem half {u v : V27} (h : 0 < cr u v) : (Up u ∨ Dn u) ∧ (Up v ∨ Dn v) := by
  constructor
  · by_cases a : u.2.1 = 0 ∧ u.1 = 0
    · unfold cr at h; rw [a.1, a.2] at h; simp at h
    · unfold Up Dn; omega
  · by_cases a : v.2.1 = 0 ∧ v.1 = 0
    · unfold cr at h; rw [a.1, a.2] at h; simp at h
    · unfold Up Dn; omega
theorem up_part {al x y : Int} (h : 0 ≤ al) (hu : 0 < y ∨ (y = 0 ∧ 0 < x)) : 0 < al * y ∨ (al * y = 0 ∧ 0 ≤ al * x) := by
  rcases hu with g | ⟨g, f⟩
  · rcases Int.lt_or_le 0 al with c | c
    · exact Or.inl (Int.mul_pos c g)
    · have : al = 0 := by omega
      subst this; exact Or.inr ⟨by simp, by simp⟩
  · subst g; exact Or.inr ⟨by simp, Int.mul_nonneg h (by omega)⟩
theorem up_cone {al be D ux uy vx vy wx wy : Int} (h1 : 0 ≤ al) (h2 : 0 ≤ be) (hD : 0 < D) (hu : 0 < uy ∨ (uy = 0 ∧ 0 < ux)) (hv : 0 < vy ∨ (vy = 0 ∧ 0 < vx))
    (ey : D * wy = al * uy + be * vy) (ex : D * wx = al * ux + be * vx) (hw : wy < 0 ∨ (wy = 0 ∧ wx < 0)) : False := by
  have a := up_part h1 hu
  have b := up_part h2 hv
  rcases hw with g | ⟨g, f⟩
  · have := Int.mul_neg_of_pos_of_neg hD g; omega
  · subst g
    have := Int.mul_neg_of_pos_of_neg hD f
    simp at ey
    omega
theorem Cv.lt (h : Cv n A) {i : Nat} (hi : i + 1 < n) : Lt (ed A i) (ed A (i + 1)) := by
  have t := h.turn hi
  obtain ⟨a, b⟩ := half t
  rcases a with a | a <;> rcases b with b | b
  · exact Or.inr (Or.inl ⟨a, b, t⟩)
  · exact Or.inl ⟨a, b⟩
  · exfalso
    have l := Up_ng (h.low (i + 1) (by omega) hi)
    have n1 := h.nn2 (i := i) (j := 0) (by omega) (by omega)
    have n2 := h.nn (i := i + 1) (j := 0) hi (by omega)
    have a' := Dn_ng a
    generalize hw : sb (A 0) (A (i + 1)) = w at n1 n2
    have l' : Dn w := by
      rw [← hw]; unfold Dn ng sb at l; unfold Dn sb; dsimp only at l ⊢; omega
    generalize ed A i = p at *
    generalize ed A (i + 1) = r at *
    refine up_cone (al := cr p w) (be := cr r w) (D := cr p r) (ux := r.1) (uy := r.2.1) (vx := (ng p).1) (vy := (ng p).2.1) (wx := w.1) (wy := w.2.1) n1 n2 t b a' ?_ ?_ l'
    · unfold cr ng; dsimp only; grind
    · unfold cr ng; dsimp only; grind
  · exact Or.inr (Or.inr ⟨a, b, t⟩)
end

/-! The sum of two polygons: edges sorted by their directions -/
section
variable {n m : Nat} {A C : Nat → V27}
def Fi (n m : Nat) (A C : Nat → V27) (x y : Nat) : Prop := x < n ∧ (y = m ∨ 0 ≤ cr (ed A x) (ed C y))
instance (n m : Nat) (A C : Nat → V27) (x y : Nat) : Decidable (Fi n m A C x y) := by unfold Fi; infer_instance
structure Inv (n m : Nat) (A C : Nat → V27) (x y : Nat) : Prop where
  xn : x ≤ n
  ym : y ≤ m
  a : 0 < x → y < m → Lt (ed A (x - 1)) (ed C y)
  b : 0 < y → x < n → Lt (ed C (y - 1)) (ed A x)
theorem Inv.sym {x y : Nat} (h : Inv n m A C x y) : Inv m n C A y x := ⟨h.ym, h.xn, h.b, h.a⟩

theorem updn (hA : Cv n A) (hC : Cv m C) {x y : Nat} (h : Inv n m A C x y) (hx : x < n) (hy : y < m) (a : Up (ed A x)) (b : Dn (ed C y)) : 0 < cr (ed A x) (ed C y) := by
  by_cases c : y = 0
  · subst c; exact (Up_Dn hC.first b).elim
  · have l := h.b (by omega) hx
    have t := hC.turn (i := y - 1) (by omega)
    rw [show y - 1 + 1 = y by omega] at t
    rcases l with ⟨_, g⟩ | ⟨f, _, z⟩ | ⟨_, g, _⟩
    · exact (Up_Dn a g).elim
    · exact K2 f a b (by omega) t
    · exact (Up_Dn a g).elim
theorem Cv.half (hA : Cv n A) {x : Nat} (hx : x < n) : Up (ed A x) ∨ Dn (ed A x) := by
  by_cases c : x + 1 < n
  · exact (Go.Proofs.T1.half (hA.turn c)).1
  · have : x = n - 1 := by omega
    rw [this]; exact Or.inr hA.last
theorem cmpL (hA : Cv n A) (hC : Cv m C) {x y : Nat} (h : Inv n m A C x y) (hx : x < n) (hy : y < m) (c : 0 ≤ cr (ed A x) (ed C y)) : Le (ed A x) (ed C y) := by
  rcases hA.half hx with a | a <;> rcases hC.half hy with b | b
  · exact Or.inr (Or.inl ⟨a, b, c⟩)
  · exact Or.inl ⟨a, b⟩
  · have := updn hC hA h.sym hy hx b a
    rw [cr_anti] at this; omega
  · exact Or.inr (Or.inr ⟨a, b, c⟩)
theorem Le_lt {u v : V27} (h : Le u v) (g : 0 < cr u v) : Lt u v := by
  rcases h with h | ⟨a, b, c⟩ | ⟨a, b, c⟩
  · exact Or.inl h
  · exact Or.inr (Or.inl ⟨a, b, g⟩)
  · exact Or.inr (Or.inr ⟨a, b, g⟩)
/-- Where an edge of the first polygon is taken, the corner of the second one is its extreme corner. -/
theorem ext (hA : Cv n A) (hC : Cv m C) {x y : Nat} (h : Inv n m A C x y) (f : Fi n m A C x y) {j : Nat} (hj : j ≤ m) : 0 ≤ cr (ed A x) (sb (C j) (C y)) := by
  have h3 := hC.n3
  have key : ∀ p r : V27, 0 < cr p r → 0 ≤ cr p (sb (C j) (C y)) → 0 ≤ cr r (sb (C j) (C y)) → 0 ≤ cr (ed A x) r → 0 ≤ cr p (ed A x) → 0 ≤ cr (ed A x) (sb (C j) (C y)) := by
    intro p r hD h1 h2 h4 h5
    refine nn_of_mul hD ?_
    have e : cr p r * cr (ed A x) (sb (C j) (C y)) = cr p (sb (C j) (C y)) * cr (ed A x) r + cr r (sb (C j) (C y)) * cr p (ed A x) := by
      generalize ed A x = e
      generalize sb (C j) (C y) = v
      unfold cr; grind
    rw [e]
    have := Int.mul_nonneg h1 h4
    have := Int.mul_nonneg h2 h5
    omega
  obtain ⟨hx, f⟩ := f
  by_cases y0 : y = 0
  · subst y0
    have f : 0 ≤ cr (ed A x) (ed C 0) := by
      rcases f with f | f
      · omega
      · exact f
    have l := cmpL hA hC h hx (by omega) f
    have w := hC.wrap
    have up : Up (ed A x) := by
      rcases l with ⟨g, _⟩ | ⟨g, _, _⟩ | ⟨_, g, _⟩
      · exact g
      · exact g
      · exact (Up_Dn hC.first g).elim
    have k := K3' hC.last up hC.first w f
    have n1 := hC.nn2 (i := m - 1) (j := j) (by omega) hj
    rw [show m - 1 + 1 = m by omega, hC.per] at n1
    exact key _ _ w n1 (hC.nn (by omega) hj) f (by omega)
  · have l := h.b (by omega) hx
    have n1 := hC.nn2 (i := y - 1) (j := j) (by have := h.ym; omega) hj
    rw [show y - 1 + 1 = y by omega] at n1
    by_cases ym : y = m
    · subst ym
      have w := hC.wrap
      have dn : Dn (ed A x) ∧ 0 < cr (ed C (y - 1)) (ed A x) := by
        rcases l with ⟨g, _⟩ | ⟨g, _, _⟩ | ⟨_, g, z⟩
        · exact (Up_Dn g hC.last).elim
        · exact (Up_Dn g hC.last).elim
        · exact ⟨g, z⟩
      have k := K2' hC.last dn.1 hC.first (by omega) w
      have n2 := hC.nn (i := 0) (j := j) (by omega) hj
      rw [← hC.per] at n2
      exact key _ _ w n1 n2 (by omega) (by omega)
    · have f : 0 ≤ cr (ed A x) (ed C y) := by
        rcases f with f | f
        · omega
        · exact f
      have hy : y < m := by have := h.ym; omega
      have t := hC.turn (i := y - 1) (by omega)
      rw [show y - 1 + 1 = y by omega] at t
      refine key _ _ t n1 (hC.nn hy hj) f ?_
      rcases l with ⟨a, b⟩ | ⟨_, _, z⟩ | ⟨_, _, z⟩
      · rcases cmpL hA hC h hx hy f with ⟨g, _⟩ | ⟨g, _, _⟩ | ⟨_, g, _⟩
        · exact (Up_Dn g b).elim
        · exact (Up_Dn g b).elim
        · exact Int.le_of_lt (K3 a b g t f)
      · omega
      · omega

def fi (n m : Nat) (A C : Nat → V27) (x y : Nat) : Nat := if Fi n m A C x y then 1 else 0
def zed : V27 := (0, 0, ())
/-- The direction of the edge that is taken. -/
def dd (n m : Nat) (A C : Nat → V27) (x y : Nat) : V27 := pl (if Fi n m A C x y then ed A x else zed) (if Fi m n C A y x then ed C y else zed)
theorem some_Fi {x y : Nat} (hx : x ≤ n) (hy : y ≤ m) (h : ¬ (x = n ∧ y = m)) : Fi n m A C x y ∨ Fi m n C A y x := by
  unfold Fi
  by_cases a : x = n
  · exact Or.inr ⟨by omega, Or.inl a⟩
  · by_cases b : y = m
    · exact Or.inl ⟨by omega, Or.inl b⟩
    · rcases Int.le_total 0 (cr (ed A x) (ed C y)) with c | c
      · exact Or.inl ⟨by omega, Or.inr c⟩
      · exact Or.inr ⟨by omega, Or.inr (by rw [cr_anti]; omega)⟩
theorem only {x y : Nat} (f : Fi n m A C x y) (g : ¬ Fi m n C A y x) (hy : y < m) : 0 < cr (ed A x) (ed C y) := by
  unfold Fi at f g
  rcases Int.lt_or_le 0 (cr (ed A x) (ed C y)) with c | c
  · exact c
  · exact absurd ⟨hy, Or.inr (by rw [cr_anti]; omega)⟩ g
/-- What a step finds. -/
theorem step_inv (hA : Cv n A) (hC : Cv m C) {x y : Nat} (h : Inv n m A C x y) (hne : ¬ (x = n ∧ y = m)) :
    Inv n m A C (x + fi n m A C x y) (y + fi m n C A y x) ∧
    (x + fi n m A C x y < n → Lt (dd n m A C x y) (ed A (x + fi n m A C x y))) ∧ (y + fi m n C A y x < m → Lt (dd n m A C x y) (ed C (y + fi m n C A y x))) := by
  have z1 : ∀ v : V27, pl v zed = v := by intro v; unfold pl zed; dsimp only; rw [Int.add_zero, Int.add_zero]
  have z2 : ∀ v : V27, pl zed v = v := by intro v; unfold pl zed; dsimp only; rw [Int.zero_add, Int.zero_add]
  -- one of both
  have one : ∀ {n m : Nat} {A C : Nat → V27} {x y : Nat}, Cv n A → Cv m C → Inv n m A C x y → Fi n m A C x y → ¬ Fi m n C A y x →
      Inv n m A C (x + 1) y ∧ (x + 1 < n → Lt (ed A x) (ed A (x + 1))) ∧ (y < m → Lt (ed A x) (ed C y)) := by
    intro n m A C x y hA hC h f g
    have l : y < m → Lt (ed A x) (ed C y) := fun hy => Le_lt (cmpL hA hC h f.1 hy (by have := only f g hy; omega)) (only f g hy)
    exact ⟨⟨f.1, h.ym, fun _ hy => l hy, fun hy hx => Lt_tr (h.b hy f.1) (hA.lt hx)⟩, fun hx => hA.lt hx, l⟩
  unfold dd fi
  by_cases f : Fi n m A C x y <;> by_cases g : Fi m n C A y x
  · rw [if_pos f, if_pos g, if_pos f, if_pos g]
    have hx := f.1
    have hy := g.1
    have c1 : 0 ≤ cr (ed A x) (ed C y) := f.2.resolve_left (by omega)
    have c2 : 0 ≤ cr (ed C y) (ed A x) := g.2.resolve_left (by omega)
    have l1 := cmpL hA hC h hx hy c1
    have l2 := cmpL hC hA h.sym hy hx c2
    have hh : (Up (ed A x) ∧ Up (ed C y)) ∨ (Dn (ed A x) ∧ Dn (ed C y)) := by
      rcases l1 with ⟨a, b⟩ | ⟨a, b, _⟩ | ⟨a, b, _⟩
      · rcases l2 with ⟨c, _⟩ | ⟨c, _, _⟩ | ⟨_, c, _⟩
        · exact (Up_Dn c b).elim
        · exact (Up_Dn c b).elim
        · exact (Up_Dn a c).elim
      · exact Or.inl ⟨a, b⟩
      · exact Or.inr ⟨a, b⟩
    exact ⟨⟨hx, hy, fun _ hy' => LeLt l1 (hC.lt hy'), fun _ hx' => LeLt l2 (hA.lt hx')⟩,
      fun hx' => Lt_pl_l (hA.lt hx') (LeLt l2 (hA.lt hx')) hh, fun hy' => Lt_pl_l (LeLt l1 (hC.lt hy')) (hC.lt hy') hh⟩
  · rw [if_pos f, if_neg g, if_pos f, if_neg g, z1]
    exact one hA hC h f g
  · rw [if_neg f, if_pos g, if_neg f, if_pos g, z2]
    have := one hC hA h.sym g f
    exact ⟨this.1.sym, this.2.2, this.2.1⟩
  · rcases some_Fi (A := A) (C := C) h.xn h.ym hne with c | c
    · exact absurd c f
    · exact absurd c g
end
end Go.Proofs.T1
namespace Go.Proofs.T1
open Go Go.Sx

/-! A ring of edges that are sorted by their directions -/
theorem ring_edge {T : Nat} {M D : Nat → V27} (hT : 3 ≤ T) (S : ∀ t, t < T → D t = sb (M (t + 1)) (M t)) (per : M T = M 0) (W : ∀ t j, t < T → j ≤ T → 0 ≤ cr (D t) (sb (M j) (M t)))
    (O : ∀ t, t + 1 < T → Lt (D t) (D (t + 1))) (tn : ∀ t, t + 1 < T → 0 < cr (D t) (D (t + 1))) (u0 : Up (D 0)) (dl : Dn (D (T - 1))) :
    ∀ t j, t < T → j < T → j ≠ t → (j = 0 → t + 1 ≠ T) → j ≠ t + 1 → 0 < tri (M t) (M (t + 1)) (M j) := by
  have ch : ∀ t s, s < t → t < T → Lt (D s) (D t) := by
    intro t
    induction t with
    | zero => intro s h; omega
    | succ t ih =>
      intro s h g
      by_cases e : s = t
      · rw [e]; exact O t g
      · exact Lt_tr (ih s (by omega) (by omega)) (O t g)
  intro t j ht hj n1 n2 n3
  rw [tri_cr, ← S t ht]
  rcases Int.lt_or_le 0 (cr (D t) (sb (M j) (M t))) with c | c
  · exact c
  exfalso
  have c0 : cr (D t) (sb (M j) (M t)) = 0 := by have := W t j ht (by omega); omega
  have a : 0 ≤ cr (D t) (D j) := by
    have h1 := W t (j + 1) ht (by omega)
    rw [S j hj]
    unfold cr sb at *
    dsimp only at *
    grind
  have b : ∀ p, p < T → M (p + 1) = M j → 0 ≤ cr (D p) (D t) := by
    intro p hp e
    have h1 := W t p ht (by omega)
    rw [cr_anti, S p hp, e]
    unfold cr sb at *
    dsimp only at *
    grind
  by_cases j0 : j = 0
  · subst j0
    have n4 := n2 rfl
    have b' := b (T - 1) (by omega) (by rw [show T - 1 + 1 = T by omega, per])
    rcases ch t 0 (by omega) ht with ⟨_, g⟩ | ⟨_, _, z⟩ | ⟨g, _, _⟩
    · rcases ch (T - 1) t (by omega) (by omega) with ⟨f, _⟩ | ⟨f, _, _⟩ | ⟨_, _, z⟩
      · exact Up_Dn f g
      · exact Up_Dn f g
      · rw [cr_anti] at b'; omega
    · rw [cr_anti] at a; omega
    · exact Up_Dn u0 g
  · have b' := b (j - 1) (by omega) (by rw [show j - 1 + 1 = j by omega])
    have l := O (j - 1) (by omega)
    have t1 := tn (j - 1) (by omega)
    rw [show j - 1 + 1 = j by omega] at l t1
    rcases Nat.lt_or_ge t j with g | g
    · exact Lt_cone1 (ch (j - 1) t (by omega) (by omega)) l t1 b' a
    · exact Lt_cone2 (ch t j (by omega) ht) l t1 b' a

section
variable {n m : Nat} {A C : Nat → V27}
def stp (n m : Nat) (A C : Nat → V27) (s : Nat × Nat) : Nat × Nat := (s.1 + fi n m A C s.1 s.2, s.2 + fi m n C A s.2 s.1)
def sta (n m : Nat) (A C : Nat → V27) : Nat → Nat × Nat
  | 0 => (0, 0)
  | t + 1 => stp n m A C (sta n m A C t)
def mp (A C : Nat → V27) (s : Nat × Nat) : V27 := pl (A s.1) (C s.2)
def Dt (n m : Nat) (A C : Nat → V27) (t : Nat) : V27 := dd n m A C (sta n m A C t).1 (sta n m A C t).2
def Mt (n m : Nat) (A C : Nat → V27) (t : Nat) : V27 := mp A C (sta n m A C t)

structure Path (n m : Nat) (A C : Nat → V27) (T : Nat) : Prop where
  le : T ≤ n + m
  ge : n ≤ T
  fin : sta n m A C T = (n, m)
  ne : ∀ t, t < T → ¬ ((sta n m A C t).1 = n ∧ (sta n m A C t).2 = m)
  inv : ∀ t, t ≤ T → Inv n m A C (sta n m A C t).1 (sta n m A C t).2
theorem fi_le (x y : Nat) : fi n m A C x y ≤ 1 := by unfold fi; split <;> omega
theorem path (hA : Cv n A) (hC : Cv m C) : ∃ T, Path n m A C T := by
  have H : ∀ k t, n + m ≤ (sta n m A C t).1 + (sta n m A C t).2 + k → t ≤ (sta n m A C t).1 + (sta n m A C t).2 → (∀ s, s ≤ t → Inv n m A C (sta n m A C s).1 (sta n m A C s).2) →
      (∀ s, s < t → ¬ ((sta n m A C s).1 = n ∧ (sta n m A C s).2 = m)) → (sta n m A C t).1 ≤ t → ∃ T, Path n m A C T := by
    intro k
    induction k with
    | zero =>
      intro t h1 h2 h3 h4 h5
      have i := h3 t (Nat.le_refl t)
      have := i.xn
      have := i.ym
      exact ⟨t, by omega, by omega, Prod.ext (by omega) (by omega), h4, h3⟩
    | succ k ih =>
      intro t h1 h2 h3 h4 h5
      have i := h3 t (Nat.le_refl t)
      by_cases e : (sta n m A C t).1 = n ∧ (sta n m A C t).2 = m
      · have := i.xn
        have := i.ym
        exact ⟨t, by omega, by omega, Prod.ext e.1 e.2, h4, h3⟩
      · have q1 : (sta n m A C (t + 1)).1 = (sta n m A C t).1 + fi n m A C (sta n m A C t).1 (sta n m A C t).2 := rfl
        have q2 : (sta n m A C (t + 1)).2 = (sta n m A C t).2 + fi m n C A (sta n m A C t).2 (sta n m A C t).1 := rfl
        have f1 := fi_le (n := n) (m := m) (A := A) (C := C) (sta n m A C t).1 (sta n m A C t).2
        have s1 : 1 ≤ fi n m A C (sta n m A C t).1 (sta n m A C t).2 + fi m n C A (sta n m A C t).2 (sta n m A C t).1 := by
          rcases some_Fi (A := A) (C := C) i.xn i.ym e with c | c
          · unfold fi; rw [if_pos c]; omega
          · unfold fi; rw [if_pos c]; omega
        refine ih (t + 1) (by omega) (by omega) ?_ ?_ (by omega)
        · intro s hs
          by_cases c : s = t + 1
          · subst c; exact (step_inv hA hC i e).1
          · exact h3 s (by omega)
        · intro s hs
          by_cases c : s = t
          · subst c; exact e
          · exact h4 s (by omega)
  refine H (n + m) 0 (by omega) (Nat.zero_le _) ?_ (fun s h => by omega) (Nat.le_refl 0)
  intro s hs
  have : s = 0 := by omega
  subst this
  exact ⟨Nat.zero_le _, Nat.zero_le _, fun h => absurd h (Nat.lt_irrefl 0), fun h => absurd h (Nat.lt_irrefl 0)⟩

theorem M_step (t : Nat) : Dt n m A C t = sb (Mt n m A C (t + 1)) (Mt n m A C t) := by
  have e : sta n m A C (t + 1) = stp n m A C (sta n m A C t) := rfl
  unfold Dt Mt mp
  rw [e]
  generalize sta n m A C t = s
  obtain ⟨x, y⟩ := s
  unfold stp dd fi
  dsimp only
  by_cases f : Fi n m A C x y <;> by_cases g : Fi m n C A y x
  · rw [if_pos f, if_pos g, if_pos f, if_pos g]; unfold ed pl sb; refine v_ext ?_ ?_ <;> dsimp only <;> (try simp only [Nat.add_zero]) <;> omega
  · rw [if_pos f, if_neg g, if_pos f, if_neg g]; unfold ed pl sb zed; refine v_ext ?_ ?_ <;> dsimp only <;> (try simp only [Nat.add_zero]) <;> omega
  · rw [if_neg f, if_pos g, if_neg f, if_pos g]; unfold ed pl sb zed; refine v_ext ?_ ?_ <;> dsimp only <;> (try simp only [Nat.add_zero]) <;> omega
  · rw [if_neg f, if_neg g, if_neg f, if_neg g]; unfold pl sb zed; refine v_ext ?_ ?_ <;> dsimp only <;> (try simp only [Nat.add_zero]) <;> omega

theorem part_nn (hA : Cv n A) (hC : Cv m C) {x y : Nat} (h : Inv n m A C x y) (f : Fi n m A C x y) {i j : Nat} (hi : i ≤ n) (hj : j ≤ m) : 0 ≤ cr (ed A x) (sb (pl (A i) (C j)) (pl (A x) (C y))) := by
  have a := hA.nn f.1 hi
  have b := ext hA hC h f hj
  have e : cr (ed A x) (sb (pl (A i) (C j)) (pl (A x) (C y))) = cr (ed A x) (sb (A i) (A x)) + cr (ed A x) (sb (C j) (C y)) := by
    generalize ed A x = e
    unfold cr sb pl; dsimp only; grind
  rw [e]; omega
theorem pl_comm (u v : V27) : pl u v = pl v u := by unfold pl; rw [Int.add_comm, Int.add_comm u.2.1]
theorem cr_zed (v : V27) : cr zed v = 0 := by unfold cr zed; simp
/-- All sums of corners lie on the left of an edge of the ring. -/
theorem M_nn (hA : Cv n A) (hC : Cv m C) {T : Nat} (P : Path n m A C T) {t : Nat} (ht : t ≤ T) {i j : Nat} (hi : i ≤ n) (hj : j ≤ m) : 0 ≤ cr (Dt n m A C t) (sb (pl (A i) (C j)) (Mt n m A C t)) := by
  have h := P.inv t ht
  unfold Dt Mt mp dd
  generalize sta n m A C t = s at *
  obtain ⟨x, y⟩ := s
  dsimp only at *
  rw [cr_pl_l]
  have a : 0 ≤ cr (if Fi n m A C x y then ed A x else zed) (sb (pl (A i) (C j)) (pl (A x) (C y))) := by
    by_cases f : Fi n m A C x y
    · rw [if_pos f]; exact part_nn hA hC h f hi hj
    · rw [if_neg f, cr_zed]; exact Int.le_refl 0
  have b : 0 ≤ cr (if Fi m n C A y x then ed C y else zed) (sb (pl (A i) (C j)) (pl (A x) (C y))) := by
    by_cases f : Fi m n C A y x
    · rw [if_pos f, pl_comm (A i), pl_comm (A x)]; exact part_nn hC hA h.sym f hj hi
    · rw [if_neg f, cr_zed]; exact Int.le_refl 0
  omega
theorem par_half (hA : Cv n A) (hC : Cv m C) {x y : Nat} (h : Inv n m A C x y) (f : Fi n m A C x y) (g : Fi m n C A y x) : (Up (ed A x) ∧ Up (ed C y)) ∨ (Dn (ed A x) ∧ Dn (ed C y)) := by
  have hx := f.1
  have hy := g.1
  have c1 : 0 ≤ cr (ed A x) (ed C y) := f.2.resolve_left (by omega)
  have c2 : 0 ≤ cr (ed C y) (ed A x) := g.2.resolve_left (by omega)
  have l1 := cmpL hA hC h hx hy c1
  have l2 := cmpL hC hA h.sym hy hx c2
  rcases l1 with ⟨a, b⟩ | ⟨a, b, _⟩ | ⟨a, b, _⟩
  · rcases l2 with ⟨c, _⟩ | ⟨c, _, _⟩ | ⟨_, c, _⟩
    · exact (Up_Dn c b).elim
    · exact (Up_Dn c b).elim
    · exact (Up_Dn a c).elim
  · exact Or.inl ⟨a, b⟩
  · exact Or.inr ⟨a, b⟩
theorem pl_zed (v : V27) : pl v zed = v := by unfold pl zed; dsimp only; rw [Int.add_zero, Int.add_zero]
theorem zed_pl (v : V27) : pl zed v = v := by unfold pl zed; dsimp only; rw [Int.zero_add, Int.zero_add]
theorem Up_pl {u v : V27} (a : Up u) (b : Up v) : Up (pl u v) := by unfold Up at *; unfold pl; dsimp only; omega
theorem Dn_pl {u v : V27} (a : Dn u) (b : Dn v) : Dn (pl u v) := by unfold Dn at *; unfold pl; dsimp only; omega
/-- What a direction is. -/
theorem dd_cases (hA : Cv n A) (hC : Cv m C) {x y : Nat} (h : Inv n m A C x y) (hne : ¬ (x = n ∧ y = m)) {Q : V27 → Prop} (q1 : x < n → Q (ed A x)) (q2 : y < m → Q (ed C y))
    (q3 : x < n → y < m → (Up (ed A x) ∧ Up (ed C y)) ∨ (Dn (ed A x) ∧ Dn (ed C y)) → Q (pl (ed A x) (ed C y))) : Q (dd n m A C x y) := by
  unfold dd
  by_cases f : Fi n m A C x y <;> by_cases g : Fi m n C A y x
  · rw [if_pos f, if_pos g]; exact q3 f.1 g.1 (par_half hA hC h f g)
  · rw [if_pos f, if_neg g, pl_zed]; exact q1 f.1
  · rw [if_neg f, if_pos g, zed_pl]; exact q2 g.1
  · rcases some_Fi (A := A) (C := C) h.xn h.ym hne with c | c
    · exact absurd c f
    · exact absurd c g
theorem D_lt (hA : Cv n A) (hC : Cv m C) {T : Nat} (P : Path n m A C T) {t : Nat} (ht : t + 1 < T) : Lt (Dt n m A C t) (Dt n m A C (t + 1)) := by
  have h := step_inv hA hC (P.inv t (by omega)) (P.ne t (by omega))
  have h1 := P.inv (t + 1) (by omega)
  have h2 := P.ne (t + 1) ht
  exact dd_cases hA hC h1 h2 (Q := fun v => Lt (Dt n m A C t) v) h.2.1 h.2.2 (fun hx hy hh => Lt_pl_r (h.2.1 hx) (h.2.2 hy) hh)
theorem D_first (hA : Cv n A) (hC : Cv m C) {T : Nat} (P : Path n m A C T) : Up (Dt n m A C 0) :=
  dd_cases hA hC (P.inv 0 (Nat.zero_le _)) (P.ne 0 (by have := P.ge; have := hA.n3; omega)) (Q := Up) (fun _ => hA.first) (fun _ => hC.first) (fun _ _ _ => Up_pl hA.first hC.first)
theorem D_last (hA : Cv n A) (hC : Cv m C) {T : Nat} (P : Path n m A C T) : Dn (Dt n m A C (T - 1)) := by
  have h3 := hA.n3
  have g3 := P.ge
  have h := P.inv (T - 1) (by omega)
  have e : sta n m A C T = stp n m A C (sta n m A C (T - 1)) := by
    have : T = T - 1 + 1 := by omega
    rw [this]; rfl
  rw [P.fin] at e
  unfold Dt
  have hne := P.ne (T - 1) (by omega)
  generalize sta n m A C (T - 1) = s at *
  obtain ⟨x, y⟩ := s
  dsimp only at *
  unfold stp fi at e
  dsimp only at e
  have e1 := congrArg Prod.fst e
  have e2 := congrArg Prod.snd e
  dsimp only at e1 e2
  refine dd_cases hA hC h hne (Q := Dn) (fun hx => ?_) (fun hy => ?_) (fun hx hy _ => ?_)
  · have : x = n - 1 := by split at e1 <;> omega
    rw [this]; exact hA.last
  · have : y = m - 1 := by split at e2 <;> omega
    rw [this]; exact hC.last
  · have a1 : x = n - 1 := by split at e1 <;> omega
    have a2 : y = m - 1 := by split at e2 <;> omega
    rw [a1, a2]; exact Dn_pl hA.last hC.last

theorem flat {u v w : V27} (hu : Up u) (hv : Dn v) (h : cr u v = 0) (a : 0 ≤ cr u w) (b : 0 ≤ cr v w) : cr u w = 0 := by
  have i1 : cr u w * v.2.1 = cr v w * u.2.1 + cr u v * w.2.1 := by unfold cr; grind
  have i2 : cr u w * v.1 = cr v w * u.1 + cr u v * w.1 := by unfold cr; grind
  rw [h] at i1 i2
  simp only [Int.zero_mul, Int.add_zero] at i1 i2
  rcases Int.lt_or_le 0 (cr u w) with c | c
  · exfalso
    rcases hv with d | ⟨d, e⟩
    · have := Int.mul_neg_of_pos_of_neg c d
      have : 0 ≤ cr v w * u.2.1 := Int.mul_nonneg b (by unfold Up at hu; omega)
      omega
    · have := Int.mul_neg_of_pos_of_neg c e
      rcases hu with f | ⟨f, g⟩
      · unfold cr at h
        rw [d] at h
        have := Int.mul_neg_of_pos_of_neg f e
        simp at h
        omega
      · have : 0 ≤ cr v w * u.1 := Int.mul_nonneg b (by omega)
        omega
  · omega
/-- Not all corners lie on one line. -/
theorem Cv.fat (hA : Cv n A) {u : V27} (hu : Up u) (h1 : cr u (ed A 0) = 0) (h2 : cr u (ed A 1) = 0) : False := by
  have t := hA.turn (i := 0) (by have := hA.n3; omega)
  rw [show 0 + 1 = 1 from rfl] at t
  generalize ed A 0 = a at *
  generalize ed A 1 = b at *
  have i1 : cr a b * u.2.1 = cr u b * a.2.1 - cr u a * b.2.1 := by unfold cr; grind
  have i2 : cr a b * u.1 = cr u b * a.1 - cr u a * b.1 := by unfold cr; grind
  rw [h1, h2] at i1 i2
  simp only [Int.zero_mul, Int.sub_self] at i1 i2
  rcases hu with f | ⟨f, g⟩
  · have := Int.mul_pos t f; omega
  · have := Int.mul_pos t g; omega
/-- Two opposite edges: everything would lie on a line. -/
theorem no_flat (hA : Cv n A) (hC : Cv m C) {T : Nat} (P : Path n m A C T) {s t : Nat} (hs : s ≤ T) (ht : t ≤ T) (hu : Up (Dt n m A C s)) (hv : Dn (Dt n m A C t)) (h : cr (Dt n m A C s) (Dt n m A C t) = 0)
    (e : cr (Dt n m A C t) (sb (Mt n m A C s) (Mt n m A C t)) = 0) : False := by
  have z : ∀ i, i ≤ n → cr (Dt n m A C s) (sb (pl (A i) (C 0)) (Mt n m A C s)) = 0 := by
    intro i hi
    refine flat hu hv h (M_nn hA hC P hs hi (Nat.zero_le _)) ?_
    have := M_nn hA hC P ht hi (j := 0) (Nat.zero_le _)
    generalize Dt n m A C t = v at *
    unfold cr sb at *
    dsimp only at *
    grind
  have h3 := hA.n3
  have z0 := z 0 (by omega)
  have z1 := z 1 (by omega)
  have z2 := z 2 (by omega)
  generalize Mt n m A C s = M at *
  refine hA.fat hu ?_ ?_
  · unfold ed
    generalize Dt n m A C s = u at *
    unfold cr sb pl at *
    dsimp only at *
    grind
  · unfold ed
    generalize Dt n m A C s = u at *
    unfold cr sb pl at *
    dsimp only at *
    grind
theorem M_in (hA : Cv n A) (hC : Cv m C) {T : Nat} (P : Path n m A C T) {t j : Nat} (ht : t ≤ T) (hj : j ≤ T) : 0 ≤ cr (Dt n m A C t) (sb (Mt n m A C j) (Mt n m A C t)) := by
  have h := P.inv j hj
  exact M_nn hA hC P ht h.xn h.ym
theorem D_turn (hA : Cv n A) (hC : Cv m C) {T : Nat} (P : Path n m A C T) {t : Nat} (ht : t + 1 < T) : 0 < cr (Dt n m A C t) (Dt n m A C (t + 1)) := by
  rcases D_lt hA hC P ht with ⟨a, b⟩ | ⟨_, _, z⟩ | ⟨_, _, z⟩
  · have w := M_in hA hC P (t := t) (j := t + 2) (by omega) (by omega)
    have e1 := M_step (n := n) (m := m) (A := A) (C := C) t
    have e2 := M_step (n := n) (m := m) (A := A) (C := C) (t + 1)
    have w2 : 0 ≤ cr (Dt n m A C t) (Dt n m A C (t + 1)) := by
      rw [e2, cr_next _ (Mt n m A C t) _ _ e1]; exact w
    rcases Int.lt_or_le 0 (cr (Dt n m A C t) (Dt n m A C (t + 1))) with c | c
    · exact c
    · exfalso
      have c0 : cr (Dt n m A C t) (Dt n m A C (t + 1)) = 0 := by omega
      refine no_flat hA hC P (by omega) (by omega) a b c0 ?_
      have : cr (Dt n m A C (t + 1)) (sb (Mt n m A C t) (Mt n m A C (t + 1))) = cr (Dt n m A C t) (Dt n m A C (t + 1)) := by
        rw [e1]; generalize Dt n m A C (t + 1) = v; unfold cr sb; dsimp only; grind
      rw [this, c0]
  · exact z
  · exact z
theorem M_per (hA : Cv n A) (hC : Cv m C) {T : Nat} (P : Path n m A C T) : Mt n m A C T = Mt n m A C 0 := by
  unfold Mt mp
  rw [P.fin]
  show pl (A n) (C m) = pl (A 0) (C 0)
  rw [hA.per, hC.per]
/-- The ring is a strictly convex polygon. -/
theorem M_edge (hA : Cv n A) (hC : Cv m C) {T : Nat} (P : Path n m A C T) : ∀ t j, t < T → j < T → j ≠ t → (j = 0 → t + 1 ≠ T) → j ≠ t + 1 → 0 < tri (Mt n m A C t) (Mt n m A C (t + 1)) (Mt n m A C j) :=
  ring_edge (by have := P.ge; have := hA.n3; omega) (fun t _ => M_step t) (M_per hA hC P) (fun t j ht hj => M_in hA hC P (by omega) hj) (fun t ht => D_lt hA hC P ht) (fun t ht => D_turn hA hC P ht) (D_first hA hC P) (D_last hA hC P)
end
end Go.Proofs.T1
namespace Go.Proofs.T1
open Go Go.Sx

/-! Lists as polygons that begin at their lowest corner -/
def rot (l : List V27) (i0 i : Nat) : V27 := q l (if (i0 : Int) + i < len l then (i0 : Int) + i else (i0 : Int) + i - len l)
def LowP (l : List V27) (i0 : Nat) : Prop := (i0 : Int) < len l ∧ ∀ j, 0 ≤ j → j < len l → j ≠ i0 → Up (sb (q l j) (q l i0))
theorem EdgeP_ne {l : List V27} (he : EdgeP l) (h3 : 3 ≤ len l) {i j : Int} (i0 : 0 ≤ i) (i1 : i < len l) (j0 : 0 ≤ j) (j1 : j < len l) (h : j ≠ i) : q l j ≠ q l i := by
  intro e
  by_cases c : j = nx (len l) i
  · -- any third corner
    have hz : ∀ r, 0 ≤ r → r < len l → r ≠ i → r ≠ nx (len l) i → False := by
      intro r r0 r1 a b
      have := he i r i0 i1 r0 r1 a b
      rw [← c, e] at this
      unfold tri at this
      simp at this
    by_cases c2 : nx (len l) j = i
    · unfold nx at c c2
      split at c <;> split at c2 <;> omega
    · exact hz (nx (len l) j) (nx_range j0 j1).1 (nx_range j0 j1).2 c2 (by rw [← c]; unfold nx; split <;> omega)
  · have := he i j i0 i1 j0 j1 h c
    rw [e, tri_self2] at this
    omega
theorem Up_tot {u v : V27} (h : v ≠ u) : Up (sb v u) ∨ Up (sb u v) := by
  obtain ⟨a, b, _⟩ := u
  obtain ⟨c, d, _⟩ := v
  have : ¬ (c = a ∧ d = b) := fun g => h (by rw [g.1, g.2])
  unfold Up sb; dsimp only; omega
theorem Up_add {u v w : V27} (h : Up (sb u v)) (g : Up (sb v w)) : Up (sb u w) := by
  unfold Up sb at *; dsimp only at *; omega
theorem low_ex {l : List V27} (he : EdgeP l) (h3 : 3 ≤ len l) : ∃ i0, LowP l i0 := by
  have H : ∀ d : Nat, 0 < d → (d : Int) ≤ len l → ∃ i0 : Nat, i0 < d ∧ ∀ j : Int, 0 ≤ j → j < d → j ≠ i0 → Up (sb (q l j) (q l i0)) := by
    intro d
    induction d with
    | zero => intro h; omega
    | succ d ih =>
      intro _ hd
      by_cases d0 : d = 0
      · subst d0
        exact ⟨0, by omega, fun j a b c => by omega⟩
      · obtain ⟨i0, a, b⟩ := ih (by omega) (by omega)
        rcases Up_tot (EdgeP_ne he h3 (i := (i0 : Int)) (j := (d : Int)) (by omega) (by omega) (by omega) (by omega) (by omega)) with c | c
        · refine ⟨i0, by omega, fun j j0 j1 j2 => ?_⟩
          by_cases e : j = d
          · rw [e]; exact c
          · exact b j j0 (by omega) j2
        · refine ⟨d, by omega, fun j j0 j1 j2 => ?_⟩
          by_cases e : j = i0
          · rw [e]; exact c
          · exact Up_add (b j j0 (by omega) e) c
  obtain ⟨i0, a, b⟩ := H l.length (by unfold len at h3; omega) (Int.le_refl _)
  exact ⟨i0, by unfold len; omega, b⟩
theorem rot_at (l : List V27) {i0 i : Nat} (h0 : (i0 : Int) < len l) (hi : (i : Int) < len l) :
    ∃ r, 0 ≤ r ∧ r < len l ∧ rot l i0 i = q l r ∧ rot l i0 (i + 1) = q l (nx (len l) r) ∧ r = (if (i0 : Int) + i < len l then (i0 : Int) + i else (i0 : Int) + i - len l) := by
  refine ⟨if (i0 : Int) + i < len l then (i0 : Int) + i else (i0 : Int) + i - len l, by split <;> omega, by split <;> omega, rfl, ?_, rfl⟩
  unfold rot
  congr 1
  unfold nx
  push_cast
  split <;> split <;> split <;> omega
theorem rot_Cv {l : List V27} (he : EdgeP l) (h3 : 3 ≤ len l) {i0 : Nat} (h : LowP l i0) : Cv l.length (rot l i0) := by
  have hl : len l = (l.length : Int) := rfl
  obtain ⟨h0, h1⟩ := h
  refine ⟨by omega, ?_, ?_, ?_⟩
  · unfold rot; congr 1; split <;> split <;> omega
  · intro i j hi hj n1 n2 n3
    obtain ⟨r, r0, r1, e1, e2, e3⟩ := rot_at l (i0 := i0) (i := i) h0 (by omega)
    obtain ⟨s, s0, s1, f1, f2, f3⟩ := rot_at l (i0 := i0) (i := j) h0 (by omega)
    rw [e1, e2, f1]
    have n4 : s ≠ r := by split at e3 <;> split at f3 <;> omega
    refine he r s r0 r1 s0 s1 n4 ?_
    unfold nx
    split at e3 <;> split at f3 <;> split <;> omega
  · intro j j0 hj
    obtain ⟨s, s0, s1, f1, f2, f3⟩ := rot_at l (i0 := i0) (i := j) h0 (by omega)
    have e0 : rot l i0 0 = q l i0 := by unfold rot; congr 1; split <;> omega
    rw [f1, e0]
    exact h1 s s0 s1 (by split at f3 <;> omega)
theorem rot_all {l : List V27} {i0 : Nat} (h0 : (i0 : Int) < len l) {r : Int} (r0 : 0 ≤ r) (r1 : r < len l) : ∃ i : Nat, i < l.length ∧ rot l i0 i = q l r := by
  have hl : len l = (l.length : Int) := rfl
  by_cases c : (i0 : Int) ≤ r
  · refine ⟨(r - i0).toNat, by omega, ?_⟩
    unfold rot; congr 1; split <;> omega
  · refine ⟨(r - i0 + len l).toNat, by omega, ?_⟩
    unfold rot; congr 1; split <;> omega
def negl (l : List V27) : List V27 := l.map ng
theorem len_negl (l : List V27) : len (negl l) = len l := by unfold len negl; simp
theorem q_negl {l : List V27} {i : Int} (h0 : 0 ≤ i) (h1 : i < len l) : q (negl l) i = ng (q l i) := by
  obtain ⟨i, rfl⟩ := Int.eq_ofNat_of_zero_le h0
  have hi : i < l.length := by unfold len at h1; omega
  show (negl l).getD i Z27 = ng (l.getD i Z27)
  rw [List.getD_eq_getElem?_getD, List.getD_eq_getElem?_getD]
  unfold negl
  rw [List.getElem?_map, List.getElem?_eq_getElem hi]
  rfl
theorem tri_ng (a b p : V27) : tri (ng a) (ng b) (ng p) = tri a b p := by unfold tri ng; dsimp only; grind
theorem EdgeP_negl {l : List V27} (he : EdgeP l) : EdgeP (negl l) := by
  intro i j i0 i1 j0 j1 n1 n2
  rw [len_negl] at *
  rw [q_negl i0 i1, q_negl j0 j1, q_negl (nx_range i0 i1).1 (nx_range i0 i1).2, tri_ng]
  exact he i j i0 i1 j0 j1 n1 n2
def lst (T : Nat) (M : Nat → V27) : List V27 := (List.range T).map M
theorem len_lst (T : Nat) (M : Nat → V27) : len (lst T M) = T := by unfold len lst; simp
theorem q_lst {T : Nat} {M : Nat → V27} {i : Int} (h0 : 0 ≤ i) (h1 : i < T) : q (lst T M) i = M i.toNat := by
  obtain ⟨i, rfl⟩ := Int.eq_ofNat_of_zero_le h0
  show (lst T M).getD i Z27 = _
  rw [List.getD_eq_getElem?_getD]
  unfold lst
  rw [List.getElem?_map, List.getElem?_range (by omega)]
  rfl
theorem ring_EdgeP {T : Nat} {M : Nat → V27} (hT : 1 ≤ T) (per : M T = M 0) (h : ∀ t j, t < T → j < T → j ≠ t → (j = 0 → t + 1 ≠ T) → j ≠ t + 1 → 0 < tri (M t) (M (t + 1)) (M j)) : EdgeP (lst T M) := by
  intro i j i0 i1 j0 j1 n1 n2
  rw [len_lst] at *
  have hn := nx_range i0 i1
  rw [q_lst i0 i1, q_lst j0 j1, q_lst hn.1 hn.2]
  have e : M (nx (T : Int) i).toNat = M (i.toNat + 1) := by
    unfold nx at *
    split
    · rename_i c
      rw [show i.toNat + 1 = T by omega, per]; rfl
    · congr 1; omega
  rw [e]
  unfold nx at n2
  exact h i.toNat j.toNat (by omega) (by omega) (by omega) (by intro a b; split at n2 <;> omega) (by intro a; split at n2 <;> omega)

/-! Points with rational coordinates: X / w, Y / w -/
def hs (a b : V27) (X Y w : Int) : Int := (b.1 - a.1) * (Y - w * a.2.1) - (b.2.1 - a.2.1) * (X - w * a.1)
def HIn (l : List V27) (X Y w : Int) : Prop := ∀ i, 0 ≤ i → i < len l → 0 ≤ hs (q l i) (q l (nx (len l) i)) X Y w
theorem hs_one (a b p : V27) : hs a b p.1 p.2.1 1 = tri a b p := by unfold hs tri; grind
theorem hs_three (a b x y z : V27) (α β γ : Int) : hs a b (α * x.1 + β * y.1 + γ * z.1) (α * x.2.1 + β * y.2.1 + γ * z.2.1) (α + β + γ) = α * tri a b x + β * tri a b y + γ * tri a b z := by unfold hs tri; grind
theorem HIn_three {l : List V27} (he : EdgeP l) {x y z : Int} (hx : 0 ≤ x ∧ x < len l) (hy : 0 ≤ y ∧ y < len l) (hz : 0 ≤ z ∧ z < len l) {α β γ : Int} (a : 0 ≤ α) (b : 0 ≤ β) (c : 0 ≤ γ) :
    HIn l (α * (q l x).1 + β * (q l y).1 + γ * (q l z).1) (α * (q l x).2.1 + β * (q l y).2.1 + γ * (q l z).2.1) (α + β + γ) := by
  intro i i0 i1
  rw [hs_three]
  have h1 := Int.mul_nonneg a (Edge_nn he i x i0 i1 hx.1 hx.2)
  have h2 := Int.mul_nonneg b (Edge_nn he i y i0 i1 hy.1 hy.2)
  have h3 := Int.mul_nonneg c (Edge_nn he i z i0 i1 hz.1 hz.2)
  omega

/-- No edge of the first polygon has the second one outside. -/
def NoSep (a b : List V27) : Prop := ∀ i, 0 ≤ i → i < len a → ∃ j, 0 ≤ j ∧ j < len b ∧ 0 ≤ tri (q a i) (q a (nx (len a) i)) (q b j)

/-- The difference of two polygons. -/
structure Dif (a b l : List V27) : Prop where
  edge : EdgeP l
  len3 : 3 ≤ len l
  le : len l ≤ len a + len b
  dif : ∀ t, 0 ≤ t → t < len l → ∃ i j, (0 ≤ i ∧ i < len a) ∧ (0 ≤ j ∧ j < len b) ∧ q l t = sb (q a i) (q b j)
  all : ∀ t i j, 0 ≤ t → t < len l → 0 ≤ i → i < len a → 0 ≤ j → j < len b → 0 ≤ tri (q l t) (q l (nx (len l) t)) (sb (q a i) (q b j))
  zero : NoSep a b → NoSep b a → InP l zed

theorem sb_ng (u v : V27) : pl u (ng v) = sb u v := by unfold pl ng sb; rfl
theorem dif_of {a b : List V27} (ha : EdgeP a) (a3 : 3 ≤ len a) (hb : EdgeP b) (b3 : 3 ≤ len b) {i0 k0 : Nat} (hi : LowP a i0) (hk : LowP (negl b) k0) {T : Nat}
    (P : Path a.length b.length (rot a i0) (rot (negl b) k0) T) : Dif a b (lst T (Mt a.length b.length (rot a i0) (rot (negl b) k0))) := by
  have hA := rot_Cv ha a3 hi
  have lb : (negl b).length = b.length := by unfold negl; simp
  have hC := rot_Cv (EdgeP_negl hb) (by rw [len_negl]; exact b3) hk
  rw [lb] at hC
  have la : len a = (a.length : Int) := rfl
  have lbb : len b = (b.length : Int) := rfl
  have hge := P.ge
  have hle := P.le
  have k1 := hk.1
  rw [len_negl] at k1
  have eA : ∀ i, i ≤ a.length → ∃ r, 0 ≤ r ∧ r < len a ∧ rot a i0 i = q a r := by
    intro i h
    by_cases c : i = a.length
    · rw [c, hA.per]
      obtain ⟨r, r0, r1, e, _⟩ := rot_at a (i0 := i0) (i := 0) hi.1 (by omega)
      exact ⟨r, r0, r1, e⟩
    · obtain ⟨r, r0, r1, e, _⟩ := rot_at a (i0 := i0) (i := i) hi.1 (by omega)
      exact ⟨r, r0, r1, e⟩
  have eC : ∀ i, i ≤ b.length → ∃ r, 0 ≤ r ∧ r < len b ∧ rot (negl b) k0 i = ng (q b r) := by
    intro i h
    have H : ∀ i, i < b.length → ∃ r, 0 ≤ r ∧ r < len b ∧ rot (negl b) k0 i = ng (q b r) := by
      intro i h
      obtain ⟨r, r0, r1, e, _⟩ := rot_at (negl b) (i0 := k0) (i := i) hk.1 (by rw [len_negl]; omega)
      rw [len_negl] at r1
      rw [q_negl r0 r1] at e
      exact ⟨r, r0, r1, e⟩
    by_cases c : i = b.length
    · rw [c, hC.per]; exact H 0 (by omega)
    · exact H i (by omega)
  refine ⟨ring_EdgeP (by omega) (M_per hA hC P) (M_edge hA hC P), by rw [len_lst]; omega, by rw [len_lst]; omega, ?_, ?_, ?_⟩
  · intro t t0 t1
    rw [len_lst] at t1
    rw [q_lst t0 t1]
    have h := P.inv t.toNat (by omega)
    obtain ⟨r, r0, r1, e⟩ := eA _ h.xn
    obtain ⟨s, s0, s1, f⟩ := eC _ h.ym
    refine ⟨r, s, ⟨r0, r1⟩, ⟨s0, s1⟩, ?_⟩
    unfold Mt mp
    rw [e, f, sb_ng]
  · intro t i j t0 t1 i0' i1 j0 j1
    have hn := nx_range t0 t1
    rw [len_lst] at *
    rw [q_lst t0 t1, q_lst hn.1 hn.2]
    obtain ⟨r, r1, e⟩ := rot_all (i0 := i0) hi.1 i0' i1
    obtain ⟨s, s1, f⟩ := rot_all (l := negl b) (i0 := k0) hk.1 j0 (by rw [len_negl]; exact j1)
    rw [q_negl j0 j1] at f
    have h := M_nn hA hC P (t := t.toNat) (by omega) (i := r) (j := s) (by omega) (by omega)
    rw [e, f, sb_ng] at h
    have e2 : Mt a.length b.length (rot a i0) (rot (negl b) k0) (nx (T : Int) t).toNat = Mt a.length b.length (rot a i0) (rot (negl b) k0) (t.toNat + 1) := by
      unfold nx
      split
      · rename_i c
        rw [show t.toNat + 1 = T by omega, M_per hA hC P]; rfl
      · congr 1; omega
    rw [e2, tri_cr, ← M_step]
    exact h
  · intro n1 n2 t t0 t1
    have hn := nx_range t0 t1
    rw [len_lst] at *
    rw [q_lst t0 t1, q_lst hn.1 hn.2]
    have e2 : Mt a.length b.length (rot a i0) (rot (negl b) k0) (nx (T : Int) t).toNat = Mt a.length b.length (rot a i0) (rot (negl b) k0) (t.toNat + 1) := by
      unfold nx
      split
      · rename_i c
        rw [show t.toNat + 1 = T by omega, M_per hA hC P]; rfl
      · congr 1; omega
    rw [e2, tri_cr, ← M_step]
    have h := P.inv t.toNat (by omega)
    unfold Dt Mt mp dd
    generalize sta a.length b.length (rot a i0) (rot (negl b) k0) t.toNat = s at *
    obtain ⟨x, y⟩ := s
    dsimp only at *
    rw [cr_pl_l]
    have p1 : 0 ≤ cr (if Fi a.length b.length (rot a i0) (rot (negl b) k0) x y then ed (rot a i0) x else zed) (sb zed (pl (rot a i0 x) (rot (negl b) k0 y))) := by
      by_cases f : Fi a.length b.length (rot a i0) (rot (negl b) k0) x y
      · rw [if_pos f]
        have fx := f.1
        obtain ⟨r, r0, r1, e1, e2, _⟩ := rot_at a (i0 := i0) (i := x) hi.1 (by omega)
        obtain ⟨j, j0, j1, hj⟩ := n1 r r0 r1
        obtain ⟨s, s1, g⟩ := rot_all (l := negl b) (i0 := k0) hk.1 j0 (by rw [len_negl]; exact j1)
        rw [q_negl j0 j1] at g
        rw [lb] at s1
        have x1 := ext hA hC h f (j := s) (by omega)
        rw [g] at x1
        rw [tri_cr, ← e1, ← e2] at hj
        have hj' : 0 ≤ cr (ed (rot a i0) x) (sb (q b j) (rot a i0 x)) := hj
        generalize ed (rot a i0) x = e at *
        generalize rot a i0 x = u at *
        generalize rot (negl b) k0 y = v at *
        generalize q b j = z at *
        unfold cr sb ng at *
        unfold zed pl
        dsimp only at *
        grind
      · rw [if_neg f, cr_zed]; exact Int.le_refl 0
    have p2 : 0 ≤ cr (if Fi b.length a.length (rot (negl b) k0) (rot a i0) y x then ed (rot (negl b) k0) y else zed) (sb zed (pl (rot a i0 x) (rot (negl b) k0 y))) := by
      by_cases f : Fi b.length a.length (rot (negl b) k0) (rot a i0) y x
      · rw [if_pos f]
        have fy := f.1
        obtain ⟨r, r0, r1, e1, e2, _⟩ := rot_at (negl b) (i0 := k0) (i := y) hk.1 (by rw [len_negl]; omega)
        rw [len_negl] at r1 e2
        have hn := nx_range r0 r1
        rw [q_negl r0 r1] at e1
        rw [q_negl hn.1 hn.2] at e2
        obtain ⟨j, j0, j1, hj⟩ := n2 r r0 r1
        obtain ⟨s, s1, g⟩ := rot_all (i0 := i0) hi.1 j0 j1
        have x1 := ext hC hA h.sym f (j := s) (by omega)
        rw [g] at x1
        have ee : ed (rot (negl b) k0) y = sb (ng (q b (nx (len b) r))) (ng (q b r)) := by unfold ed; rw [e1, e2]
        rw [ee] at x1 ⊢
        rw [e1]
        generalize q b (nx (len b) r) = c at *
        generalize rot a i0 x = u at *
        generalize q b r = v at *
        generalize q a j = z at *
        unfold tri at hj
        unfold cr sb ng at *
        unfold zed pl
        dsimp only at *
        grind
      · rw [if_neg f, cr_zed]; exact Int.le_refl 0
    omega
theorem dif_ex {a b : List V27} (ha : EdgeP a) (a3 : 3 ≤ len a) (hb : EdgeP b) (b3 : 3 ≤ len b) : ∃ l, Dif a b l := by
  obtain ⟨i0, hi⟩ := low_ex ha a3
  obtain ⟨k0, hk⟩ := low_ex (EdgeP_negl hb) (by rw [len_negl]; exact b3)
  have hA := rot_Cv ha a3 hi
  have hC := rot_Cv (EdgeP_negl hb) (by rw [len_negl]; exact b3) hk
  have lb : (negl b).length = b.length := by unfold negl; simp
  rw [lb] at hC
  obtain ⟨T, P⟩ := path hA hC
  exact ⟨_, dif_of ha a3 hb b3 hi hk P⟩
/-- A point of both, of the origin in their difference. -/
theorem common {a b l : List V27} (ha : EdgeP a) (hb : EdgeP b) (h : Dif a b l) (z : InP l zed) : ∃ X Y w, 0 < w ∧ HIn a X Y w ∧ HIn b X Y w := by
  obtain ⟨i, i2, i1, c1, c2, c3⟩ := In_Fan h.len3 z
  have ht := Edge_Trip h.edge 0 (i - 1) i (by omega) (by omega) (by omega) i1
  obtain ⟨x0, y0, hx0, hy0, e0⟩ := h.dif 0 (by omega) (by omega)
  obtain ⟨x1, y1, hx1, hy1, e1⟩ := h.dif (i - 1) (by omega) (by omega)
  obtain ⟨x2, y2, hx2, hy2, e2⟩ := h.dif i (by omega) i1
  have s : tri (q l (i - 1)) (q l i) zed + tri (q l i) (q l 0) zed + tri (q l 0) (q l (i - 1)) zed = tri (q l 0) (q l (i - 1)) (q l i) := by unfold tri zed; grind
  have sx : tri (q l (i - 1)) (q l i) zed * (q l 0).1 + tri (q l i) (q l 0) zed * (q l (i - 1)).1 + tri (q l 0) (q l (i - 1)) zed * (q l i).1 = 0 := by unfold tri zed; grind
  have sy : tri (q l (i - 1)) (q l i) zed * (q l 0).2.1 + tri (q l i) (q l 0) zed * (q l (i - 1)).2.1 + tri (q l 0) (q l (i - 1)) zed * (q l i).2.1 = 0 := by unfold tri zed; grind
  have A := HIn_three ha hx0 hx1 hx2 c2 c3 c1
  have B := HIn_three hb hy0 hy1 hy2 c2 c3 c1
  rw [s] at A B
  refine ⟨_, _, _, ht, A, ?_⟩
  rw [e0, e1, e2] at sx sy
  rw [e0, e1, e2] at A B ⊢
  generalize tri (sb (q a x1) (q b y1)) (sb (q a x2) (q b y2)) zed = α at *
  generalize tri (sb (q a x2) (q b y2)) (sb (q a x0) (q b y0)) zed = β at *
  generalize tri (sb (q a x0) (q b y0)) (sb (q a x1) (q b y1)) zed = γ at *
  unfold sb at sx sy
  dsimp only at sx sy
  have g1 : α * (q a x0).1 + β * (q a x1).1 + γ * (q a x2).1 = α * (q b y0).1 + β * (q b y1).1 + γ * (q b y2).1 := by grind
  have g2 : α * (q a x0).2.1 + β * (q a x1).2.1 + γ * (q a x2).2.1 = α * (q b y0).2.1 + β * (q b y1).2.1 + γ * (q b y2).2.1 := by grind
  rw [g1, g2]
  exact B
end Go.Proofs.T1
namespace Go.Proofs.T1
open Go Go.Sx

/-! Leaving a polygon -/
theorem hs_lin (a b : V27) (s t X Y w U V z : Int) : hs a b (s * X + t * U) (s * Y + t * V) (s * w + t * z) = s * hs a b X Y w + t * hs a b U V z := by unfold hs; grind
theorem le_of_mul_le {a b c : Int} (h : 0 < c) (g : c * a ≤ c * b) : a ≤ b := Int.le_of_mul_le_mul_left g h
theorem min_ratio (f g : Nat → Int) (P : Nat → Prop) (hg : ∀ k, P k → 0 < g k) : ∀ d : Nat, (∀ k, k < d → ¬ P k) ∨ ∃ k, k < d ∧ P k ∧ ∀ j, j < d → P j → f k * g j ≤ f j * g k := by
  intro d
  induction d with
  | zero => exact Or.inl fun k h => by omega
  | succ d ih =>
    by_cases p : P d
    · rcases ih with h | ⟨k, k1, k2, k3⟩
      · refine Or.inr ⟨d, by omega, p, fun j j1 j2 => ?_⟩
        by_cases e : j = d
        · rw [e]; exact Int.le_refl _
        · exact absurd j2 (h j (by omega))
      · rcases Int.lt_or_le (f d * g k) (f k * g d) with c | c
        · refine Or.inr ⟨d, by omega, p, fun j j1 j2 => ?_⟩
          by_cases e : j = d
          · rw [e]; exact Int.le_refl _
          · have h1 := k3 j (by omega) j2
            have h2 := Int.mul_le_mul_of_nonneg_right h1 (Int.le_of_lt (hg d p))
            have h3 := Int.mul_le_mul_of_nonneg_right (Int.le_of_lt c) (Int.le_of_lt (hg j j2))
            refine le_of_mul_le (hg k k2) ?_
            have e1 : g k * (f d * g j) = f d * g k * g j := by grind
            have e2 : g k * (f j * g d) = f j * g k * g d := by grind
            have e3 : f k * g d * g j = f k * g j * g d := by grind
            omega
        · refine Or.inr ⟨k, by omega, k2, fun j j1 j2 => ?_⟩
          by_cases e : j = d
          · rw [e]; exact c
          · exact k3 j (by omega) j2
    · rcases ih with h | ⟨k, k1, k2, k3⟩
      · refine Or.inl fun k hk => ?_
        by_cases e : k = d
        · rw [e]; exact p
        · exact h k (by omega)
      · refine Or.inr ⟨k, by omega, k2, fun j j1 j2 => ?_⟩
        by_cases e : j = d
        · rw [e] at j2; exact absurd j2 p
        · exact k3 j (by omega) j2
theorem exit_poly {l : List V27} {X Y w U V z : Int} (hw : 0 < w) (hz : 0 ≤ z) (hin : HIn l X Y w) (hout : ¬ HIn l U V z) :
    ∃ k α β, 0 ≤ k ∧ k < len l ∧ 0 ≤ α ∧ 0 ≤ β ∧ 0 < α * w + β * z ∧ HIn l (α * X + β * U) (α * Y + β * V) (α * w + β * z) ∧ hs (q l k) (q l (nx (len l) k)) (α * X + β * U) (α * Y + β * V) (α * w + β * z) = 0 := by
  have hl : len l = (l.length : Int) := rfl
  rcases min_ratio (fun k => hs (q l k) (q l (nx (len l) k)) X Y w) (fun k => - hs (q l k) (q l (nx (len l) k)) U V z) (fun k => hs (q l k) (q l (nx (len l) k)) U V z < 0) (fun k h => by omega) l.length with h | ⟨k, k1, k2, k3⟩
  · exfalso
    refine hout fun i i0 i1 => ?_
    have := h i.toNat (by omega)
    rw [show ((i.toNat : Nat) : Int) = i by omega] at this
    omega
  · 
    have hk := hin k (by omega) (by omega)
    refine ⟨k, - hs (q l k) (q l (nx (len l) k)) U V z, hs (q l k) (q l (nx (len l) k)) X Y w, by omega, by omega, by omega, hk, ?_, ?_, ?_⟩
    · have := Int.mul_pos (a := - hs (q l k) (q l (nx (len l) k)) U V z) (by omega) hw
      have := Int.mul_nonneg hk hz
      omega
    · intro j j0 j1
      rw [hs_lin]
      have hj := hin j j0 j1
      rcases Int.lt_or_le (hs (q l j) (q l (nx (len l) j)) U V z) 0 with c | c
      · have h := k3 j.toNat (by omega) (by rw [show ((j.toNat : Nat) : Int) = j by omega]; exact c)
        rw [show ((j.toNat : Nat) : Int) = j by omega] at h
        rw [Int.mul_comm (- hs (q l k) (q l (nx (len l) k)) U V z)]
        rw [Int.mul_neg] at h
        omega
      · have := Int.mul_nonneg (a := - hs (q l k) (q l (nx (len l) k)) U V z) (by omega) hj
        have := Int.mul_nonneg hk c
        omega
    · rw [hs_lin]; rw [Int.neg_mul, Int.mul_comm]; omega

/-- A point of a segment. -/
def Seg (a b : V27) (X Y w : Int) : Prop := ∃ α β D, 0 ≤ α ∧ 0 ≤ β ∧ 0 < D ∧ D * w = α + β ∧ D * X = α * a.1 + β * b.1 ∧ D * Y = α * a.2.1 + β * b.2.1
def pv (n i : Int) : Int := if i = 0 then n - 1 else i - 1
theorem pv_range {n i : Int} (h0 : 0 ≤ i) (h1 : i < n) : 0 ≤ pv n i ∧ pv n i < n ∧ nx n (pv n i) = i := by unfold pv nx; split <;> split <;> omega
theorem Seg_core (p a b c : V27) (X Y w : Int) (z : hs a b X Y w = 0) :
    tri p a b * tri a b c * w = hs b c X Y w * tri p a b + hs p a X Y w * tri a b c ∧
    tri p a b * tri a b c * X = hs b c X Y w * tri p a b * a.1 + hs p a X Y w * tri a b c * b.1 ∧
    tri p a b * tri a b c * Y = hs b c X Y w * tri p a b * a.2.1 + hs p a X Y w * tri a b c * b.2.1 := by
  have k1 : tri p a b * tri a b c * w + hs a b X Y w * cr (sb a p) (sb c b) = hs b c X Y w * tri p a b + hs p a X Y w * tri a b c := by unfold hs tri cr sb; grind
  have kx : tri p a b * (X - w * a.1) = hs p a X Y w * (b.1 - a.1) - hs a b X Y w * (a.1 - p.1) := by unfold hs tri; grind
  have ky : tri p a b * (Y - w * a.2.1) = hs p a X Y w * (b.2.1 - a.2.1) - hs a b X Y w * (a.2.1 - p.2.1) := by unfold hs tri; grind
  rw [z] at k1 kx ky
  generalize hs p a X Y w = s at *
  generalize hs b c X Y w = t at *
  generalize tri p a b = d at *
  generalize tri a b c = e at *
  refine ⟨by grind, ?_, ?_⟩
  · have : d * e * X = e * (s * (b.1 - a.1)) + (d * e * w) * a.1 := by grind
    grind
  · have : d * e * Y = e * (s * (b.2.1 - a.2.1)) + (d * e * w) * a.2.1 := by grind
    grind
theorem on_edge {l : List V27} (he : EdgeP l) (h3 : 3 ≤ len l) {X Y w k : Int} (k0 : 0 ≤ k) (k1 : k < len l) (h : HIn l X Y w) (z : hs (q l k) (q l (nx (len l) k)) X Y w = 0) : Seg (q l k) (q l (nx (len l) k)) X Y w := by
  have hp := pv_range k0 k1
  have hn := nx_range k0 k1
  have hn2 := nx_range hn.1 hn.2
  have d1 := he (pv (len l) k) (nx (len l) k) hp.1 hp.2.1 hn.1 hn.2 (by unfold pv nx; split <;> split <;> omega) (by rw [hp.2.2]; unfold nx; split <;> omega)
  rw [hp.2.2] at d1
  have d2 := he k (nx (len l) (nx (len l) k)) k0 k1 hn2.1 hn2.2 (by unfold nx; split <;> split <;> omega) (by unfold nx; split <;> split <;> omega)
  have s1 := h (pv (len l) k) hp.1 hp.2.1
  rw [hp.2.2] at s1
  have s2 := h (nx (len l) k) hn.1 hn.2
  obtain ⟨e1, e2, e3⟩ := Seg_core (q l (pv (len l) k)) (q l k) (q l (nx (len l) k)) (q l (nx (len l) (nx (len l) k))) X Y w z
  exact ⟨_, _, _, Int.mul_nonneg s2 (Int.le_of_lt d1), Int.mul_nonneg s1 (Int.le_of_lt d2), Int.mul_pos d1 d2, e1, e2, e3⟩
theorem HIn_one {l : List V27} {p : V27} : HIn l p.1 p.2.1 1 ↔ InP l p :=
  ⟨fun h i i0 i1 => by rw [← hs_one]; exact h i i0 i1, fun h i i0 i1 => by rw [hs_one]; exact h i i0 i1⟩
theorem HIn_lin {l : List V27} {X Y w U V z s t : Int} (hs0 : 0 ≤ s) (ht0 : 0 ≤ t) (h : HIn l X Y w) (g : HIn l U V z) : HIn l (s * X + t * U) (s * Y + t * V) (s * w + t * z) := by
  intro i i0 i1
  rw [hs_lin]
  have := Int.mul_nonneg hs0 (h i i0 i1)
  have := Int.mul_nonneg ht0 (g i i0 i1)
  omega
theorem InP_self {l : List V27} (he : EdgeP l) {i : Int} (i0 : 0 ≤ i) (i1 : i < len l) : InP l (q l i) := fun j j0 j1 => Edge_nn he j i j0 j1 i0 i1

/-- Two edges with a point in common. -/
def Crs (a b : List V27) : Prop := ∃ i k X Y w, (0 ≤ i ∧ i < len a) ∧ (0 ≤ k ∧ k < len b) ∧ 0 < w ∧ Seg (q a i) (q a (nx (len a) i)) X Y w ∧ Seg (q b k) (q b (nx (len b) k)) X Y w
theorem Seg_lin {a b : V27} {s t : Int} (hs0 : 0 ≤ s) (ht0 : 0 ≤ t) : Seg a b (s * a.1 + t * b.1) (s * a.2.1 + t * b.2.1) (s * 1 + t * 1) := ⟨s, t, 1, hs0, ht0, by decide, by omega, by omega, by omega⟩
theorem Seg_to {a b : V27} {X Y w s t : Int} (h : Seg a b X Y w) (hs0 : 0 ≤ s) (ht0 : 0 ≤ t) : Seg a b (s * X + t * a.1) (s * Y + t * a.2.1) (s * w + t * 1) := by
  obtain ⟨α, β, D, h1, h2, h3, e1, e2, e3⟩ := h
  refine ⟨s * α + t * D, s * β, D, ?_, Int.mul_nonneg hs0 h2, h3, by grind, by grind, by grind⟩
  have := Int.mul_nonneg hs0 h1
  have := Int.mul_nonneg ht0 (Int.le_of_lt h3)
  omega
/-- From a corner of the first polygon in the second one to its corner 0. -/
theorem walk_to {a b : List V27} (hb : EdgeP b) (b3 : 3 ≤ len b) {i : Int} (i0 : 0 ≤ i) (i1 : i < len a) (h : InP b (q a i)) : InP b (q a 0) ∨ Crs a b := by
  have step : ∀ i, 0 ≤ i → i < len a → InP b (q a i) → InP b (q a (nx (len a) i)) ∨ Crs a b := by
    intro i i0 i1 h
    by_cases c : InP b (q a (nx (len a) i))
    · exact Or.inl c
    · obtain ⟨k, α, β, k0, k1, a0, b0, w0, hin, z⟩ := exit_poly (l := b) (X := (q a i).1) (Y := (q a i).2.1) (w := 1) (U := (q a (nx (len a) i)).1) (V := (q a (nx (len a) i)).2.1) (z := 1) (by decide) (by decide) (HIn_one.2 h) (fun g => c (HIn_one.1 g))
      exact Or.inr ⟨i, k, _, _, _, ⟨i0, i1⟩, ⟨k0, k1⟩, w0, Seg_lin a0 b0, on_edge hb b3 k0 k1 hin z⟩
  have H : ∀ (d : Nat) (i : Int), i = len a - 1 - d → 0 ≤ i → InP b (q a i) → InP b (q a 0) ∨ Crs a b := by
    intro d
    induction d with
    | zero =>
      intro i hi i0 h
      rcases step i i0 (by omega) h with g | g
      · left
        have : nx (len a) i = 0 := by unfold nx; split <;> omega
        rwa [this] at g
      · exact Or.inr g
    | succ d ih =>
      intro i hi i0 h
      rcases step i i0 (by omega) h with g | g
      · have : nx (len a) i = i + 1 := by unfold nx; split <;> omega
        rw [this] at g
        exact ih (i + 1) (by omega) (by omega) g
      · exact Or.inr g
  exact H (len a - 1 - i).toNat i (by omega) i0 h
theorem Crs_sym {a b : List V27} (h : Crs a b) : Crs b a := by
  obtain ⟨i, k, X, Y, w, hi, hk, hw, s1, s2⟩ := h
  exact ⟨k, i, X, Y, w, hk, hi, hw, s2, s1⟩
/-- Polygons with a point in common: corner 0 of one is in the other one, or edges have a point in common. -/
theorem meet_of {a b : List V27} (ha : EdgeP a) (a3 : 3 ≤ len a) (hb : EdgeP b) (b3 : 3 ≤ len b) {X Y w : Int} (hw : 0 < w) (h1 : HIn a X Y w) (h2 : HIn b X Y w) : InP a (q b 0) ∨ InP b (q a 0) ∨ Crs a b := by
  by_cases c : InP b (q a 0)
  · exact Or.inr (Or.inl c)
  · obtain ⟨k, α, β, k0, k1, a0, b0, w0, hin, z⟩ := exit_poly (l := b) (U := (q a 0).1) (V := (q a 0).2.1) (z := 1) hw (by decide) h2 (fun g => c (HIn_one.1 g))
    have sg := on_edge hb b3 k0 k1 hin z
    have ina := HIn_lin a0 b0 h1 (HIn_one.2 (InP_self ha (i := 0) (by omega) (by omega)))
    by_cases d : InP a (q b k)
    · rcases walk_to ha a3 k0 k1 d with g | g
      · exact Or.inl g
      · exact Or.inr (Or.inr (Crs_sym g))
    · obtain ⟨i, α', β', i0, i1, a0', b0', w0', hin', z'⟩ := exit_poly (l := a) (U := (q b k).1) (V := (q b k).2.1) (z := 1) w0 (by decide) ina (fun g => d (HIn_one.1 g))
      exact Or.inr (Or.inr ⟨i, k, _, _, _, ⟨i0, i1⟩, ⟨k0, k1⟩, w0', on_edge ha a3 i0 i1 hin' z', Seg_to sg a0' b0'⟩)

/-! Back: a point in common, so no edge separates -/
def scl (w : Int) (l : List V27) : List V27 := l.map fun p => (w * p.1, w * p.2.1, ())
theorem len_scl (w : Int) (l : List V27) : len (scl w l) = len l := by unfold len scl; simp
theorem q_scl (w : Int) {l : List V27} {i : Int} (h0 : 0 ≤ i) (h1 : i < len l) : q (scl w l) i = (w * (q l i).1, w * (q l i).2.1, ()) := by
  obtain ⟨i, rfl⟩ := Int.eq_ofNat_of_zero_le h0
  have hi : i < l.length := by unfold len at h1; omega
  show (scl w l).getD i Z27 = (w * (l.getD i Z27).1, w * (l.getD i Z27).2.1, ())
  rw [List.getD_eq_getElem?_getD, List.getD_eq_getElem?_getD]
  unfold scl
  rw [List.getElem?_map, List.getElem?_eq_getElem hi]
  rfl
theorem tri_scl (w : Int) (a b : V27) (X Y : Int) : tri (w * a.1, w * a.2.1, ()) (w * b.1, w * b.2.1, ()) (X, Y, ()) = w * hs a b X Y w := by unfold tri hs; dsimp only; grind
/-- A point of a polygon lies between three corners. -/
theorem between3 {l : List V27} (he : EdgeP l) (h3 : 3 ≤ len l) {X Y w : Int} (hw : 0 < w) (h : HIn l X Y w) :
    ∃ i α β γ, 2 ≤ i ∧ i < len l ∧ 0 ≤ α ∧ 0 ≤ β ∧ 0 ≤ γ ∧ 0 < α + β + γ ∧ (α + β + γ) * X = w * (α * (q l 0).1 + β * (q l (i - 1)).1 + γ * (q l i).1) ∧ (α + β + γ) * Y = w * (α * (q l 0).2.1 + β * (q l (i - 1)).2.1 + γ * (q l i).2.1) := by
  have hin : InP (scl w l) (X, Y, ()) := by
    intro i i0 i1
    have hn := nx_range i0 i1
    rw [len_scl] at *
    rw [q_scl w i0 i1, q_scl w hn.1 hn.2, tri_scl]
    exact Int.mul_nonneg (Int.le_of_lt hw) (h i i0 i1)
  obtain ⟨i, i2, i1, c1, c2, c3⟩ := In_Fan (by rw [len_scl]; exact h3) hin
  rw [len_scl] at i1
  rw [q_scl w (by omega) (by omega), q_scl w (by omega) (by omega)] at c1
  rw [q_scl w (by omega) (by omega), q_scl w (by omega) (by omega)] at c2
  rw [q_scl w (by omega) (by omega), q_scl w (by omega) (by omega)] at c3
  have ht := Edge_Trip he 0 (i - 1) i (by omega) (by omega) (by omega) i1
  have S : ∀ A B C : V27, tri (w * B.1, w * B.2.1, ()) (w * C.1, w * C.2.1, ()) (X, Y, ()) + tri (w * C.1, w * C.2.1, ()) (w * A.1, w * A.2.1, ()) (X, Y, ()) + tri (w * A.1, w * A.2.1, ()) (w * B.1, w * B.2.1, ()) (X, Y, ()) = w * w * tri A B C := by intro A B C; unfold tri; dsimp only; grind
  have SX : ∀ A B C : V27, (tri (w * B.1, w * B.2.1, ()) (w * C.1, w * C.2.1, ()) (X, Y, ()) + tri (w * C.1, w * C.2.1, ()) (w * A.1, w * A.2.1, ()) (X, Y, ()) + tri (w * A.1, w * A.2.1, ()) (w * B.1, w * B.2.1, ()) (X, Y, ())) * X =
      w * (tri (w * B.1, w * B.2.1, ()) (w * C.1, w * C.2.1, ()) (X, Y, ()) * A.1 + tri (w * C.1, w * C.2.1, ()) (w * A.1, w * A.2.1, ()) (X, Y, ()) * B.1 + tri (w * A.1, w * A.2.1, ()) (w * B.1, w * B.2.1, ()) (X, Y, ()) * C.1) := by intro A B C; unfold tri; dsimp only; grind
  have SY : ∀ A B C : V27, (tri (w * B.1, w * B.2.1, ()) (w * C.1, w * C.2.1, ()) (X, Y, ()) + tri (w * C.1, w * C.2.1, ()) (w * A.1, w * A.2.1, ()) (X, Y, ()) + tri (w * A.1, w * A.2.1, ()) (w * B.1, w * B.2.1, ()) (X, Y, ())) * Y =
      w * (tri (w * B.1, w * B.2.1, ()) (w * C.1, w * C.2.1, ()) (X, Y, ()) * A.2.1 + tri (w * C.1, w * C.2.1, ()) (w * A.1, w * A.2.1, ()) (X, Y, ()) * B.2.1 + tri (w * A.1, w * A.2.1, ()) (w * B.1, w * B.2.1, ()) (X, Y, ()) * C.2.1) := by intro A B C; unfold tri; dsimp only; grind
  exact ⟨i, _, _, _, i2, i1, c2, c3, c1, by rw [S]; exact Int.mul_pos (Int.mul_pos hw hw) ht, SX _ _ _, SY _ _ _⟩
theorem noSep_of {a b : List V27} (hb : EdgeP b) (b3 : 3 ≤ len b) {X Y w : Int} (hw : 0 < w) (h1 : HIn a X Y w) (h2 : HIn b X Y w) : NoSep a b := by
  intro i i0 i1
  obtain ⟨m, α, β, γ, m2, m1, a0, b0, c0, s, ex, ey⟩ := between3 hb b3 hw h2
  have h := h1 i i0 i1
  generalize q a i = u at *
  generalize q a (nx (len a) i) = v at *
  have e : (α + β + γ) * hs u v X Y w = w * (α * tri u v (q b 0) + β * tri u v (q b (m - 1)) + γ * tri u v (q b m)) := by
    have : (α + β + γ) * hs u v X Y w = (v.1 - u.1) * ((α + β + γ) * Y - (α + β + γ) * w * u.2.1) - (v.2.1 - u.2.1) * ((α + β + γ) * X - (α + β + γ) * w * u.1) := by unfold hs; grind
    rw [this, ex, ey]
    unfold tri
    grind
  have p := Int.mul_nonneg (Int.le_of_lt s) h
  rw [e] at p
  have p' := nn_of_mul hw p
  by_cases c1 : 0 ≤ tri u v (q b 0)
  · exact ⟨0, by omega, by omega, c1⟩
  by_cases c2 : 0 ≤ tri u v (q b (m - 1))
  · exact ⟨m - 1, by omega, by omega, c2⟩
  by_cases c3 : 0 ≤ tri u v (q b m)
  · exact ⟨m, by omega, by omega, c3⟩
  exfalso
  have neg : ∀ x t : Int, 0 ≤ x → ¬ 0 ≤ t → x * t ≤ -x := by
    intro x t hx ht
    have := Int.mul_le_mul_of_nonneg_left (show t ≤ -1 by omega) hx
    omega
  have := neg _ _ a0 c1
  have := neg _ _ b0 c2
  have := neg _ _ c0 c3
  omega
end Go.Proofs.T1
namespace Go.Proofs.T1
open Go Go.Sx

/-! Segments that have a point in common -/
def Box (a b p : V27) : Prop := imin a.1 b.1 ≤ p.1 ∧ p.1 ≤ imax a.1 b.1 ∧ imin a.2.1 b.2.1 ≤ p.2.1 ∧ p.2.1 ≤ imax a.2.1 b.2.1
def On (a b p : V27) : Prop := tri a b p = 0 ∧ Box a b p
def Opp (x y : Int) : Prop := (x < 0 ∧ 0 < y) ∨ (0 < x ∧ y < 0)
def CrP (a b c d : V27) : Prop := (Opp (tri a b c) (tri a b d) ∧ Opp (tri c d a) (tri c d b)) ∨ On a b c ∨ On a b d ∨ On c d a ∨ On c d b
theorem mid {s t a b p : Int} (h0 : 0 ≤ s) (h1 : 0 ≤ t) (h2 : 0 < s + t) (e : (s + t) * p = s * a + t * b) : imin a b ≤ p ∧ p ≤ imax a b := by
  have lo : ∀ m, m ≤ a → m ≤ b → m ≤ p := by
    intro m ha hb
    refine le_of_mul_le h2 ?_
    have := Int.mul_le_mul_of_nonneg_left ha h0
    have := Int.mul_le_mul_of_nonneg_left hb h1
    rw [e, Int.add_mul]; omega
  have hi : ∀ m, a ≤ m → b ≤ m → p ≤ m := by
    intro m ha hb
    refine le_of_mul_le h2 ?_
    have := Int.mul_le_mul_of_nonneg_left ha h0
    have := Int.mul_le_mul_of_nonneg_left hb h1
    rw [e, Int.add_mul]; omega
  exact ⟨lo _ (by unfold imin; split <;> omega) (by unfold imin; split <;> omega), hi _ (by unfold imax; split <;> omega) (by unfold imax; split <;> omega)⟩
theorem bx {a b p : V27} {s t : Int} (h0 : 0 ≤ s) (h1 : 0 ≤ t) (h2 : 0 < s + t) (ex : (s + t) * p.1 = s * a.1 + t * b.1) (ey : (s + t) * p.2.1 = s * a.2.1 + t * b.2.1) : Box a b p :=
  ⟨(mid h0 h1 h2 ex).1, (mid h0 h1 h2 ex).2, (mid h0 h1 h2 ey).1, (mid h0 h1 h2 ey).2⟩
theorem zero_of_mul {a b : Int} (ha : 0 < a) (h : a * b = 0) : b = 0 := by
  rcases Int.mul_eq_zero.1 h with g | g
  · omega
  · exact g
theorem ne_part {a b : V27} (h : a ≠ b) : b.1 - a.1 ≠ 0 ∨ b.2.1 - a.2.1 ≠ 0 := by
  rcases Int.decEq (b.1 - a.1) 0 with g | g
  · exact Or.inl g
  · right; intro f; exact h (v_ext (by omega) (by omega))
theorem sq_pos {x y : Int} (h : x ≠ 0 ∨ y ≠ 0) : 0 < x * x + y * y := by
  have sq : ∀ z : Int, 0 ≤ z * z ∧ (z ≠ 0 → 0 < z * z) := by
    intro z
    rcases Int.lt_trichotomy z 0 with g | g | g
    · have := Int.mul_pos_of_neg_of_neg g g; omega
    · subst g; simp
    · have := Int.mul_pos g g; omega
  have a := sq x
  have b := sq y
  rcases h with h | h
  · have := a.2 h; omega
  · have := b.2 h; omega
theorem line2 {c d a b : V27} (h : c ≠ d) (h1 : tri c d a = 0) (h2 : tri c d b = 0) : tri a b c = 0 ∧ tri a b d = 0 := by
  have k : ∀ p : V27, (p = c ∨ p = d) → tri a b p = 0 := by
    intro p hp
    have ex : tri a b p * (d.1 - c.1) = tri c d b * (a.1 - p.1) - tri c d a * (b.1 - p.1) := by rcases hp with hp | hp <;> subst hp <;> unfold tri <;> grind
    have ey : tri a b p * (d.2.1 - c.2.1) = tri c d b * (a.2.1 - p.2.1) - tri c d a * (b.2.1 - p.2.1) := by rcases hp with hp | hp <;> subst hp <;> unfold tri <;> grind
    rw [h1, h2] at ex ey
    simp only [Int.zero_mul, Int.sub_self] at ex ey
    rcases Int.mul_eq_zero.1 ex with g | g
    · exact g
    · rcases Int.mul_eq_zero.1 ey with f | f
      · exact f
      · rcases ne_part h with x | x
        · exact absurd g x
        · exact absurd f x
  exact ⟨k c (Or.inl rfl), k d (Or.inr rfl)⟩
theorem kk {N u v e tc td : Int} (hN : 0 < N) (h1 : N * u = tc * e) (h2 : N * v = td * e) : td * u = tc * v := by
  have : N * (td * u - tc * v) = td * (N * u) - tc * (N * v) := by grind
  rw [h1, h2] at this
  have := zero_of_mul hN (this.trans (by grind))
  omega
theorem Zcore {a b c d : V27} {A B C E : Int} (hA : 0 ≤ A) (hB : 0 ≤ B) (hC : 0 ≤ C) (hE : 0 ≤ E) (s : A + B = C + E) (s0 : 0 < A + B)
    (ex : A * a.1 + B * b.1 = C * c.1 + E * d.1) (ey : A * a.2.1 + B * b.2.1 = C * c.2.1 + E * d.2.1) (nab : a ≠ b) (ncd : c ≠ d) : CrP a b c d := by
  have F1 : C * tri a b c + E * tri a b d = 0 := by
    have : C * tri a b c + E * tri a b d = (b.1 - a.1) * (C * c.2.1 + E * d.2.1 - (C + E) * a.2.1) - (b.2.1 - a.2.1) * (C * c.1 + E * d.1 - (C + E) * a.1) := by unfold tri; grind
    rw [this, ← ex, ← ey, ← s]; grind
  have F2 : A * tri c d a + B * tri c d b = 0 := by
    have : A * tri c d a + B * tri c d b = (d.1 - c.1) * (A * a.2.1 + B * b.2.1 - (A + B) * c.2.1) - (d.2.1 - c.2.1) * (A * a.1 + B * b.1 - (A + B) * c.1) := by unfold tri; grind
    rw [this, ex, ey, s]; grind
  by_cases e0 : E = 0
  · subst e0
    refine Or.inr (Or.inl ⟨zero_of_mul (a := C) (by omega) (by omega), bx hA hB s0 ?_ ?_⟩)
    · rw [ex, s]; grind
    · rw [ey, s]; grind
  by_cases c0 : C = 0
  · subst c0
    refine Or.inr (Or.inr (Or.inl ⟨zero_of_mul (a := E) (by omega) (by omega), bx hA hB s0 ?_ ?_⟩))
    · rw [ex, s]; grind
    · rw [ey, s]; grind
  by_cases b0 : B = 0
  · subst b0
    refine Or.inr (Or.inr (Or.inr (Or.inl ⟨zero_of_mul (a := A) (by omega) (by omega), bx hC hE (by omega) ?_ ?_⟩)))
    · rw [← ex, ← s]; grind
    · rw [← ey, ← s]; grind
  by_cases a0 : A = 0
  · subst a0
    refine Or.inr (Or.inr (Or.inr (Or.inr ⟨zero_of_mul (a := B) (by omega) (by omega), bx hC hE (by omega) ?_ ?_⟩)))
    · rw [← ex, ← s]; grind
    · rw [← ey, ← s]; grind
  have opp : ∀ {s t x y : Int}, 0 < s → 0 < t → s * x + t * y = 0 → x ≠ 0 → Opp x y := by
    intro s t x y hs ht h hx
    rcases Int.lt_trichotomy y 0 with g | g | g
    · have h1 := Int.mul_neg_of_pos_of_neg ht g
      have h2 : 0 < x := pos_of_mul hs (by omega)
      exact Or.inr ⟨h2, g⟩
    · subst g
      exact absurd (zero_of_mul hs (by omega)) hx
    · have h1 := Int.mul_pos ht g
      have h2 : 0 < -x := pos_of_mul hs (by rw [Int.mul_neg]; omega)
      exact Or.inl ⟨by omega, g⟩
  -- all on one line
  have flat1 : tri a b c = 0 → tri a b d = 0 → CrP a b c d := by
    intro z1 z2
    have hN := sq_pos (ne_part nab)
    have x1 : ∀ p : V27, tri a b p = 0 → ((b.1 - a.1) * (b.1 - a.1) + (b.2.1 - a.2.1) * (b.2.1 - a.2.1)) * (p.1 - a.1) = ((p.1 - a.1) * (b.1 - a.1) + (p.2.1 - a.2.1) * (b.2.1 - a.2.1)) * (b.1 - a.1) ∧
        ((b.1 - a.1) * (b.1 - a.1) + (b.2.1 - a.2.1) * (b.2.1 - a.2.1)) * (p.2.1 - a.2.1) = ((p.1 - a.1) * (b.1 - a.1) + (p.2.1 - a.2.1) * (b.2.1 - a.2.1)) * (b.2.1 - a.2.1) := by
      intro p hp
      unfold tri at hp
      constructor <;> grind
    have xc := x1 c z1
    have xd := x1 d z2
    have tot : C * ((c.1 - a.1) * (b.1 - a.1) + (c.2.1 - a.2.1) * (b.2.1 - a.2.1)) + E * ((d.1 - a.1) * (b.1 - a.1) + (d.2.1 - a.2.1) * (b.2.1 - a.2.1)) = B * ((b.1 - a.1) * (b.1 - a.1) + (b.2.1 - a.2.1) * (b.2.1 - a.2.1)) := by
      have : C * ((c.1 - a.1) * (b.1 - a.1) + (c.2.1 - a.2.1) * (b.2.1 - a.2.1)) + E * ((d.1 - a.1) * (b.1 - a.1) + (d.2.1 - a.2.1) * (b.2.1 - a.2.1)) = (C * c.1 + E * d.1 - (C + E) * a.1) * (b.1 - a.1) + (C * c.2.1 + E * d.2.1 - (C + E) * a.2.1) * (b.2.1 - a.2.1) := by grind
      rw [this, ← ex, ← ey, ← s]; grind
    have zz : tri c d a = 0 := by
      have h1 : tri c d a * (b.1 - a.1) = 0 := by
        have : tri c d a * (b.1 - a.1) = tri a b d * (c.1 - a.1) - tri a b c * (d.1 - a.1) := by unfold tri; grind
        rw [this, z1, z2]; simp
      have h2 : tri c d a * (b.2.1 - a.2.1) = 0 := by
        have : tri c d a * (b.2.1 - a.2.1) = tri a b d * (c.2.1 - a.2.1) - tri a b c * (d.2.1 - a.2.1) := by unfold tri; grind
        rw [this, z1, z2]; simp
      rcases Int.mul_eq_zero.1 h1 with g | g
      · exact g
      · rcases Int.mul_eq_zero.1 h2 with f | f
        · exact f
        · rcases ne_part nab with x | x
          · exact absurd g x
          · exact absurd f x
    generalize (c.1 - a.1) * (b.1 - a.1) + (c.2.1 - a.2.1) * (b.2.1 - a.2.1) = tc at *
    generalize (d.1 - a.1) * (b.1 - a.1) + (d.2.1 - a.2.1) * (b.2.1 - a.2.1) = td at *
    generalize (b.1 - a.1) * (b.1 - a.1) + (b.2.1 - a.2.1) * (b.2.1 - a.2.1) = N at *
    have onab : ∀ (p : V27) (t : Int), tri a b p = 0 → 0 ≤ t → t ≤ N → N * (p.1 - a.1) = t * (b.1 - a.1) → N * (p.2.1 - a.2.1) = t * (b.2.1 - a.2.1) → On a b p := by
      intro p t z t0 t1 e1 e2
      refine ⟨z, bx (s := N - t) (t := t) (by omega) t0 (by omega) ?_ ?_⟩
      · rw [show N - t + t = N by omega]; grind
      · rw [show N - t + t = N by omega]; grind
    by_cases c1 : 0 ≤ tc ∧ tc ≤ N
    · exact Or.inr (Or.inl (onab c tc z1 c1.1 c1.2 xc.1 xc.2))
    by_cases d1 : 0 ≤ td ∧ td ≤ N
    · exact Or.inr (Or.inr (Or.inl (onab d td z2 d1.1 d1.2 xd.1 xd.2)))
    have hBN := Int.mul_nonneg hB (Int.le_of_lt hN)
    have k1 : td * (c.1 - a.1) = tc * (d.1 - a.1) := kk hN xc.1 xd.1
    have k2 : td * (c.2.1 - a.2.1) = tc * (d.2.1 - a.2.1) := kk hN xc.2 xd.2
    rcases Int.lt_or_le tc 0 with c2 | c2
    · rcases Int.lt_or_le td 0 with d2 | d2
      · have := Int.mul_neg_of_pos_of_neg (a := C) (by omega) c2
        have := Int.mul_neg_of_pos_of_neg (a := E) (by omega) d2
        omega
      · refine Or.inr (Or.inr (Or.inr (Or.inl ⟨zz, bx (s := td) (t := -tc) (by omega) (by omega) (by omega) ?_ ?_⟩)))
        · grind
        · grind
    · rcases Int.lt_or_le td 0 with d2 | d2
      · refine Or.inr (Or.inr (Or.inr (Or.inl ⟨zz, bx (s := -td) (t := tc) (by omega) (by omega) (by omega) ?_ ?_⟩)))
        · grind
        · grind
      · have h1 := Int.mul_lt_mul_of_pos_left (show N < tc by omega) (show 0 < C by omega)
        have h2 := Int.mul_lt_mul_of_pos_left (show N < td by omega) (show 0 < E by omega)
        have h3 : C * N + E * N = A * N + B * N := by rw [← Int.add_mul, ← Int.add_mul, s]
        have h4 := Int.mul_nonneg hA (Int.le_of_lt hN)
        omega
  by_cases t1 : tri a b c = 0
  · rw [t1] at F1
    exact flat1 t1 (zero_of_mul (a := E) (by omega) (by omega))
  by_cases r1 : tri c d a = 0
  · rw [r1] at F2
    have r2 : tri c d b = 0 := zero_of_mul (a := B) (by omega) (by omega)
    have := line2 ncd r1 r2
    exact flat1 this.1 this.2
  exact Or.inl ⟨opp (by omega) (by omega) F1 t1, opp (by omega) (by omega) F2 r1⟩
theorem Seg_cross {a b c d : V27} {X Y w : Int} (hw : 0 < w) (h : Seg a b X Y w) (g : Seg c d X Y w) (nab : a ≠ b) (ncd : c ≠ d) : CrP a b c d := by
  obtain ⟨α, β, D, h1, h2, h3, e1, e2, e3⟩ := h
  obtain ⟨γ, δ, F, g1, g2, g3, f1, f2, f3⟩ := g
  have nn := fun {x y : Int} (p : 0 ≤ x) (r : 0 < y) => Int.mul_nonneg p (Int.le_of_lt r)
  refine Zcore (A := α * F) (B := β * F) (C := γ * D) (E := δ * D) (nn h1 g3) (nn h2 g3) (nn g1 h3) (nn g2 h3) ?_ ?_ ?_ ?_ nab ncd
  · rw [← Int.add_mul, ← Int.add_mul, ← e1, ← f1]; grind
  · rw [← Int.add_mul, ← e1]; exact Int.mul_pos (Int.mul_pos h3 hw) g3
  · grind
  · grind
theorem On_Seg {a b p : V27} (nab : a ≠ b) (h : On a b p) : Seg a b p.1 p.2.1 1 := by
  obtain ⟨z, b1, b2, b3, b4⟩ := h
  have hN := sq_pos (ne_part nab)
  have m : ∀ {x u v : Int}, imin u v ≤ x → x ≤ imax u v → 0 ≤ (x - u) * (v - u) ∧ (x - u) * (v - u) ≤ (v - u) * (v - u) := by
    intro x u v h1 h2
    unfold imin at h1
    unfold imax at h2
    rcases Int.le_total u v with c | c
    · have a1 : 0 ≤ x - u := by split at h1 <;> split at h2 <;> omega
      have a2 : x - u ≤ v - u := by split at h1 <;> split at h2 <;> omega
      exact ⟨Int.mul_nonneg a1 (by omega), Int.mul_le_mul_of_nonneg_right a2 (by omega)⟩
    · have a1 : x - u ≤ 0 := by split at h1 <;> split at h2 <;> omega
      have a2 : v - u ≤ x - u := by split at h1 <;> split at h2 <;> omega
      exact ⟨Int.mul_nonneg_of_nonpos_of_nonpos a1 (by omega), Int.mul_le_mul_of_nonpos_right a2 (by omega)⟩
  have m1 := m b1 b2
  have m2 := m b3 b4
  unfold tri at z
  refine ⟨((b.1 - a.1) * (b.1 - a.1) + (b.2.1 - a.2.1) * (b.2.1 - a.2.1)) - ((p.1 - a.1) * (b.1 - a.1) + (p.2.1 - a.2.1) * (b.2.1 - a.2.1)), (p.1 - a.1) * (b.1 - a.1) + (p.2.1 - a.2.1) * (b.2.1 - a.2.1), (b.1 - a.1) * (b.1 - a.1) + (b.2.1 - a.2.1) * (b.2.1 - a.2.1), by omega, by omega, hN, by omega, ?_, ?_⟩
  · grind
  · grind
theorem Seg_end {a b : V27} : Seg a b a.1 a.2.1 1 ∧ Seg a b b.1 b.2.1 1 :=
  ⟨⟨1, 0, 1, by decide, by decide, by decide, by decide, by omega, by omega⟩, ⟨0, 1, 1, by decide, by decide, by decide, by decide, by omega, by omega⟩⟩
theorem cross_Seg {a b c d : V27} (nab : a ≠ b) (ncd : c ≠ d) (h : CrP a b c d) : ∃ X Y w, 0 < w ∧ Seg a b X Y w ∧ Seg c d X Y w := by
  rcases h with ⟨h1, h2⟩ | h | h | h | h
  · have e : tri a b c - tri a b d = tri c d b - tri c d a := by unfold tri; grind
    have ex : tri c d b * a.1 - tri c d a * b.1 = tri a b c * d.1 - tri a b d * c.1 := by unfold tri; grind
    have ey : tri c d b * a.2.1 - tri c d a * b.2.1 = tri a b c * d.2.1 - tri a b d * c.2.1 := by unfold tri; grind
    generalize tri a b c = t1 at *
    generalize tri a b d = t2 at *
    generalize tri c d a = r1 at *
    generalize tri c d b = r2 at *
    unfold Opp at h1 h2
    rcases h1 with ⟨x, y⟩ | ⟨x, y⟩
    · refine ⟨t2 * c.1 - t1 * d.1, t2 * c.2.1 - t1 * d.2.1, t2 - t1, by omega, ⟨-r2, r1, 1, by omega, by omega, by decide, by omega, by grind, by grind⟩, ⟨t2, -t1, 1, by omega, by omega, by decide, by omega, by grind, by grind⟩⟩
    · refine ⟨t1 * d.1 - t2 * c.1, t1 * d.2.1 - t2 * c.2.1, t1 - t2, by omega, ⟨r2, -r1, 1, by omega, by omega, by decide, by omega, by grind, by grind⟩, ⟨-t2, t1, 1, by omega, by omega, by decide, by omega, by grind, by grind⟩⟩
  · exact ⟨_, _, _, by decide, On_Seg nab h, Seg_end.1⟩
  · exact ⟨_, _, _, by decide, On_Seg nab h, Seg_end.2⟩
  · exact ⟨_, _, _, by decide, Seg_end.1, On_Seg ncd h⟩
  · exact ⟨_, _, _, by decide, Seg_end.2, On_Seg ncd h⟩
theorem Seg_HIn {l : List V27} (he : EdgeP l) {X Y w i : Int} (i0 : 0 ≤ i) (i1 : i < len l) (h : Seg (q l i) (q l (nx (len l) i)) X Y w) : HIn l X Y w := by
  obtain ⟨α, β, D, h1, h2, h3, e1, e2, e3⟩ := h
  intro j j0 j1
  have hn := nx_range i0 i1
  refine nn_of_mul h3 ?_
  have a := Int.mul_nonneg h1 (Edge_nn he j i j0 j1 i0 i1)
  have b := Int.mul_nonneg h2 (Edge_nn he j (nx (len l) i) j0 j1 hn.1 hn.2)
  generalize q l i = u at *
  generalize q l (nx (len l) i) = v at *
  generalize q l j = c at *
  generalize q l (nx (len l) j) = d at *
  have : D * hs c d X Y w = α * tri c d u + β * tri c d v := by
    have : D * hs c d X Y w = (d.1 - c.1) * (D * Y - D * w * c.2.1) - (d.2.1 - c.2.1) * (D * X - D * w * c.1) := by unfold hs; grind
    rw [this, e1, e2, e3]
    unfold tri
    grind
  rw [this]; omega

/-- The reference's meeting: corner 0 of one in the other one, or edges that cross. -/
def MeetP (a b : List V27) : Prop := InP a (q b 0) ∨ InP b (q a 0) ∨ ∃ i k, (0 ≤ i ∧ i < len a) ∧ (0 ≤ k ∧ k < len b) ∧ CrP (q a i) (q a (nx (len a) i)) (q b k) (q b (nx (len b) k))
theorem edge_ne {l : List V27} (he : EdgeP l) (h3 : 3 ≤ len l) {i : Int} (i0 : 0 ≤ i) (i1 : i < len l) : q l i ≠ q l (nx (len l) i) := by
  have hn := nx_range i0 i1
  exact EdgeP_ne he h3 hn.1 hn.2 i0 i1 (by unfold nx; split <;> omega)
theorem meet_iff {a b : List V27} (ha : EdgeP a) (a3 : 3 ≤ len a) (hb : EdgeP b) (b3 : 3 ≤ len b) : MeetP a b ↔ NoSep a b ∧ NoSep b a := by
  constructor
  · intro h
    have hc : ∃ X Y w, 0 < w ∧ HIn a X Y w ∧ HIn b X Y w := by
      rcases h with h | h | ⟨i, k, hi, hk, h⟩
      · exact ⟨_, _, 1, by decide, HIn_one.2 h, HIn_one.2 (InP_self hb (by omega) (by omega))⟩
      · exact ⟨_, _, 1, by decide, HIn_one.2 (InP_self ha (by omega) (by omega)), HIn_one.2 h⟩
      · obtain ⟨X, Y, w, hw, s1, s2⟩ := cross_Seg (edge_ne ha a3 hi.1 hi.2) (edge_ne hb b3 hk.1 hk.2) h
        exact ⟨X, Y, w, hw, Seg_HIn ha hi.1 hi.2 s1, Seg_HIn hb hk.1 hk.2 s2⟩
    obtain ⟨X, Y, w, hw, h1, h2⟩ := hc
    exact ⟨noSep_of hb b3 hw h1 h2, noSep_of ha a3 hw h2 h1⟩
  · intro ⟨n1, n2⟩
    obtain ⟨l, hl⟩ := dif_ex ha a3 hb b3
    obtain ⟨X, Y, w, hw, h1, h2⟩ := common ha hb hl (hl.zero n1 n2)
    rcases meet_of ha a3 hb b3 hw h1 h2 with h | h | ⟨i, k, X, Y, w, hi, hk, hw, s1, s2⟩
    · exact Or.inl h
    · exact Or.inr (Or.inl h)
    · exact Or.inr (Or.inr ⟨i, k, hi, hk, Seg_cross hw s1 s2 (edge_ne ha a3 hi.1 hi.2) (edge_ne hb b3 hk.1 hk.2)⟩)
end Go.Proofs.T1
namespace Go.Proofs.T1
open Go Go.Sx

/-! Chains of points that turn left -/
def Dr (u : Bool) (v : V27) : Prop := if u = true then Up v else Dn v
def Fw (u : Bool) (a b : V27) : Prop := Dr u (sb b a)
theorem Dr_tr {u : Bool} {x y z : V27} (hx : Dr u x) (hy : Dr u y) (hz : Dr u z) (h1 : 0 ≤ cr x y) (h2 : 0 ≤ cr y z) (h3 : 0 < cr x y ∨ 0 < cr y z) : 0 < cr x z := by
  cases u with
  | true => exact Up_tr hx hy hz h1 h2 h3
  | false => exact Dn_tr hx hy hz h1 h2 h3
theorem cr_mul1 (x y z : V27) : y.1 * cr x z = z.1 * cr x y + x.1 * cr y z := by unfold cr; grind
theorem cr_mul2 (x y z : V27) : y.2.1 * cr x z = z.2.1 * cr x y + x.2.1 * cr y z := by unfold cr; grind
theorem Dr_ne {u : Bool} {v : V27} (h : Dr u v) : v.1 ≠ 0 ∨ v.2.1 ≠ 0 := by
  cases u with
  | true => have h : Up v := h; unfold Up at h; omega
  | false => have h : Dn v := h; unfold Dn at h; omega
theorem cr_zero_tr {x y z : V27} (hy : y.1 ≠ 0 ∨ y.2.1 ≠ 0) (h1 : cr x y = 0) (h2 : cr y z = 0) : cr x z = 0 := by
  rcases hy with h | h
  · have e := cr_mul1 x y z
    rw [h1, h2, Int.mul_zero, Int.mul_zero, Int.add_zero] at e
    exact (Int.mul_eq_zero.1 e).resolve_left h
  · have e := cr_mul2 x y z
    rw [h1, h2, Int.mul_zero, Int.mul_zero, Int.add_zero] at e
    exact (Int.mul_eq_zero.1 e).resolve_left h
theorem Dr_tr0 {u : Bool} {x y z : V27} (hx : Dr u x) (hy : Dr u y) (hz : Dr u z) (h1 : 0 ≤ cr x y) (h2 : 0 ≤ cr y z) : 0 ≤ cr x z := by
  by_cases c : 0 < cr x y ∨ 0 < cr y z
  · exact Int.le_of_lt (Dr_tr hx hy hz h1 h2 c)
  · rw [cr_zero_tr (Dr_ne hy) (show cr x y = 0 by omega) (show cr y z = 0 by omega)]
    exact Int.le_refl 0
theorem Fw_tr {u : Bool} {a b c : V27} (h1 : Fw u a b) (h2 : Fw u b c) : Fw u a c := by
  cases u with
  | true =>
    have h1 : Up (sb b a) := h1
    have h2 : Up (sb c b) := h2
    show Up (sb c a)
    unfold Up sb at *
    dsimp only at *
    omega
  | false =>
    have h1 : Dn (sb b a) := h1
    have h2 : Dn (sb c b) := h2
    show Dn (sb c a)
    unfold Dn sb at *
    dsimp only at *
    omega
theorem Fw_not {u : Bool} {a b : V27} (h : Fw u a b) : Fw (!u) b a := by
  cases u with
  | true => have h : Up (sb b a) := h; show Dn (sb a b); unfold Up Dn sb at *; dsimp only at *; omega
  | false => have h : Dn (sb b a) := h; show Up (sb a b); unfold Up Dn sb at *; dsimp only at *; omega
theorem Fw_irr (u : Bool) (a : V27) : ¬ Fw u a a := by
  cases u with
  | true => show ¬ Up (sb a a); unfold Up sb; dsimp only; omega
  | false => show ¬ Dn (sb a a); unfold Dn sb; dsimp only; omega
theorem Fw_tri (u : Bool) (a b : V27) : a = b ∨ Fw u a b ∨ Fw u b a := by
  cases u with
  | true =>
    by_cases c : a.2.1 = b.2.1
    · by_cases d : a.1 = b.1
      · exact .inl (v_ext d c)
      · refine .inr ?_
        show Up (sb b a) ∨ Up (sb a b)
        unfold Up sb; dsimp only; omega
    · refine .inr ?_
      show Up (sb b a) ∨ Up (sb a b)
      unfold Up sb; dsimp only; omega
  | false =>
    by_cases c : a.2.1 = b.2.1
    · by_cases d : a.1 = b.1
      · exact .inl (v_ext d c)
      · refine .inr ?_
        show Dn (sb b a) ∨ Dn (sb a b)
        unfold Dn sb; dsimp only; omega
    · refine .inr ?_
      show Dn (sb b a) ∨ Dn (sb a b)
      unfold Dn sb; dsimp only; omega

def gt (S : List V27) (i : Nat) : V27 := S.getD i Z27
theorem gt_take {S : List V27} {m i : Nat} (h : i < m) : gt (S.take m) i = gt S i := by
  unfold gt
  rw [List.getD_eq_getElem?_getD, List.getD_eq_getElem?_getD, List.getElem?_take_of_lt h]
theorem gt_left {S T : List V27} {i : Nat} (h : i < S.length) : gt (S ++ T) i = gt S i := by
  unfold gt
  rw [List.getD_eq_getElem?_getD, List.getD_eq_getElem?_getD, List.getElem?_append_left h]
theorem gt_right {S T : List V27} {i : Nat} (h : S.length ≤ i) : gt (S ++ T) i = gt T (i - S.length) := by
  unfold gt
  rw [List.getD_eq_getElem?_getD, List.getD_eq_getElem?_getD, List.getElem?_append_right h]
theorem gt_get {S : List V27} {i : Nat} (h : i < S.length) : gt S i = S[i] := by
  unfold gt
  rw [List.getD_eq_getElem?_getD, List.getElem?_eq_getElem h]
  rfl
structure Chn (u : Bool) (P : V27 → Prop) (S : List V27) : Prop where
  ne : 0 < S.length
  fw : ∀ i, i + 1 < S.length → Fw u (gt S i) (gt S (i + 1))
  nn : ∀ i, i + 1 < S.length → ∀ w, P w → 0 ≤ tri (gt S i) (gt S (i + 1)) w
  tn : ∀ i, i + 2 < S.length → 0 < tri (gt S i) (gt S (i + 1)) (gt S (i + 2))
  lo : ∀ w, P w → w = gt S 0 ∨ Fw u (gt S 0) w
  mem : ∀ i, i < S.length → P (gt S i)
structure Pend (u : Bool) (P : V27 → Prop) (S : List V27) (p : V27) : Prop where
  ch : Chn u P S
  lt : ∀ w, P w → Fw u w p
  up : ∀ w, P w → Fw u (gt S (S.length - 1)) w → 0 ≤ tri (gt S (S.length - 1)) p w
theorem Chn.mono {u : Bool} {P Q : V27 → Prop} {S : List V27} (h : Chn u P S) (e : ∀ w, P w ↔ Q w) : Chn u Q S :=
  ⟨h.ne, h.fw, fun i hi w hw => h.nn i hi w ((e w).2 hw), h.tn, fun w hw => h.lo w ((e w).2 hw), fun i hi => (e _).1 (h.mem i hi)⟩
theorem pop {u : Bool} {P : V27 → Prop} {S : List V27} {p : V27} (h : Pend u P S p) {m : Nat} (hm : S.length = m + 2) (hs : tri (gt S m) (gt S (m + 1)) p ≤ 0) : Pend u P (S.take (m + 1)) p := by
  have hl : (S.take (m + 1)).length = m + 1 := by rw [List.length_take]; omega
  have c := h.ch
  refine ⟨⟨by omega, ?_, ?_, ?_, ?_, ?_⟩, h.lt, ?_⟩
  · intro i hi
    rw [hl] at hi
    rw [gt_take (by omega), gt_take (by omega)]
    exact c.fw i (by omega)
  · intro i hi
    rw [hl] at hi
    rw [gt_take (by omega), gt_take (by omega)]
    exact c.nn i (by omega)
  · intro i hi
    rw [hl] at hi
    rw [gt_take (by omega), gt_take (by omega), gt_take (by omega)]
    exact c.tn i (by omega)
  · rw [gt_take (by omega)]
    exact c.lo
  · intro i hi
    rw [hl] at hi
    rw [gt_take (by omega)]
    exact c.mem i (by omega)
  · rw [hl, Nat.add_sub_cancel, gt_take (by omega)]
    intro w hw hf
    have h1 : 0 ≤ cr (sb (gt S (m + 1)) (gt S m)) (sb w (gt S m)) := c.nn m (by omega) w hw
    have h2 : 0 ≤ cr (sb p (gt S m)) (sb (gt S (m + 1)) (gt S m)) := by
      rw [cr_anti]
      have : cr (sb (gt S (m + 1)) (gt S m)) (sb p (gt S m)) ≤ 0 := hs
      omega
    exact Dr_tr0 (h.lt _ (c.mem m (by omega))) (c.fw m (by omega)) hf h2 h1
theorem push_edges {u : Bool} {P : V27 → Prop} {S : List V27} {p : V27} (h : Pend u P S p) {m : Nat} (hm : S.length = m + 2) (hs : 0 < tri (gt S m) (gt S (m + 1)) p) :
    ∀ d i, i + d = m → 0 < tri (gt S i) (gt S (i + 1)) p := by
  have c := h.ch
  intro d
  induction d with
  | zero => intro i hi; obtain rfl : i = m := by omega
            exact hs
  | succ d ih =>
    intro i hi
    have h1 : 0 < cr (sb (gt S (i + 1 + 1)) (gt S (i + 1))) (sb p (gt S (i + 1))) := ih (i + 1) (by omega)
    have h2 : 0 < cr (sb (gt S (i + 1)) (gt S i)) (sb (gt S (i + 2)) (gt S i)) := c.tn i (by omega)
    rw [← cr_next (sb (gt S (i + 1)) (gt S i)) (gt S i) (gt S (i + 1)) _ rfl] at h2
    have h3 := Dr_tr (c.fw i (by omega)) (c.fw (i + 1) (by omega)) (h.lt _ (c.mem (i + 1) (by omega))) (Int.le_of_lt h2) (Int.le_of_lt h1) (.inl h2)
    rw [cr_next (sb (gt S (i + 1)) (gt S i)) (gt S i) (gt S (i + 1)) _ rfl] at h3
    exact h3
theorem push {u : Bool} {P : V27 → Prop} {S : List V27} {p : V27} (h : Pend u P S p) (hs : S.length = 1 ∨ ∃ m, S.length = m + 2 ∧ 0 < tri (gt S m) (gt S (m + 1)) p) : Chn u (fun w => P w ∨ w = p) (S ++ [p]) := by
  have c := h.ch
  have hl : (S ++ [p]).length = S.length + 1 := by rw [List.length_append, List.length_singleton]
  have hn := c.ne
  have hp : gt (S ++ [p]) S.length = p := by rw [gt_right (Nat.le_refl _), Nat.sub_self]; rfl
  obtain ⟨n, hn'⟩ : ∃ n, S.length = n + 1 := ⟨S.length - 1, by omega⟩
  have htop : Fw u (gt S n) p := h.lt _ (c.mem n (by omega))
  have hlast : ∀ w, P w ∨ w = p → 0 ≤ tri (gt S n) p w := by
    rintro w (hw | rfl)
    · rcases Fw_tri u (gt S n) w with e | e | e
      · rw [← e, tri_self2]; exact Int.le_refl 0
      · have := h.up w hw
        rw [hn', Nat.add_sub_cancel] at this
        exact this e
      · rcases hs with h1 | ⟨m, hm, hs⟩
        · obtain rfl : n = 0 := by omega
          rcases c.lo w hw with e' | e'
          · rw [e', tri_self2]; exact Int.le_refl 0
          · exact absurd (Fw_tr e' e) (Fw_irr u _)
        · obtain rfl : n = m + 1 := by omega
          have h1 : 0 ≤ cr (sb (gt S (m + 1)) (gt S m)) (sb w (gt S m)) := c.nn m (by omega) w hw
          have h2 : 0 < cr (sb (gt S (m + 1)) (gt S m)) (sb p (gt S m)) := hs
          rw [← cr_next (sb (gt S (m + 1)) (gt S m)) (gt S m) (gt S (m + 1)) _ rfl] at h1 h2
          have e1 : sb w (gt S (m + 1)) = ng (sb (gt S (m + 1)) w) := v_ext (by unfold sb ng; dsimp only; omega) (by unfold sb ng; dsimp only; omega)
          rw [e1, cr_ng_r, ← cr_anti] at h1
          have h3 := Dr_tr e (c.fw m (by omega)) htop h1 (Int.le_of_lt h2) (.inr h2)
          show 0 ≤ cr (sb p (gt S (m + 1))) (sb w (gt S (m + 1)))
          rw [e1, cr_ng_r, ← cr_anti]
          exact Int.le_of_lt h3
    · rw [tri_self]; exact Int.le_refl 0
  refine ⟨by omega, ?_, ?_, ?_, ?_, ?_⟩
  · intro i hi
    rw [hl] at hi
    rw [gt_left (by omega)]
    by_cases e : i + 1 < S.length
    · rw [gt_left e]; exact c.fw i e
    · rw [(show i + 1 = S.length by omega), hp, (show i = n by omega)]; exact htop
  · intro i hi w hw
    rw [hl] at hi
    rw [gt_left (by omega)]
    by_cases e : i + 1 < S.length
    · rw [gt_left e]
      rcases hw with hw | rfl
      · exact c.nn i e w hw
      · rcases hs with h1 | ⟨m, hm, hs⟩
        · omega
        · exact Int.le_of_lt (push_edges h hm hs (m - i) i (by omega))
    · rw [(show i + 1 = S.length by omega), hp, (show i = n by omega)]; exact hlast w hw
  · intro i hi
    rw [hl] at hi
    rw [gt_left (by omega), gt_left (by omega)]
    by_cases e : i + 2 < S.length
    · rw [gt_left e]; exact c.tn i e
    · rw [(show i + 2 = S.length by omega), hp]
      rcases hs with h1 | ⟨m, hm, hs⟩
      · omega
      · obtain rfl : i = m := by omega
        exact hs
  · rw [gt_left hn]
    rintro w (hw | rfl)
    · exact c.lo w hw
    · exact .inr (h.lt _ (c.mem 0 hn))
  · intro i hi
    rw [hl] at hi
    by_cases e : i < S.length
    · rw [gt_left e]; exact .inl (c.mem i e)
    · rw [(show i = S.length by omega), hp]; exact .inr rfl
theorem Chn_one (u : Bool) (p : V27) : Chn u (fun w => w = p) [p] := by
  refine ⟨by simp, ?_, ?_, ?_, ?_, ?_⟩
  · intro i hi; exact absurd hi (by simp)
  · intro i hi; exact absurd hi (by simp)
  · intro i hi; exact absurd hi (by simp)
  · intro w hw; exact .inl hw
  · intro i hi
    have : i = 0 := by simpa using hi
    subst this
    rfl
/-- Where the last of the chain is the greatest, the next point is pending. -/
theorem Pend_of {u : Bool} {P : V27 → Prop} {S : List V27} {p : V27} (h : Chn u P S) (top : ∀ w, P w → w = gt S (S.length - 1) ∨ Fw u w (gt S (S.length - 1))) (lt : ∀ w, P w → Fw u w p) : Pend u P S p :=
  ⟨h, lt, fun w hw hf => by
    rcases top w hw with e | e
    · rw [e] at hf; exact absurd hf (Fw_irr u _)
    · exact absurd (Fw_tr hf e) (Fw_irr u _)⟩

/-! Both chains together -/
section
variable {P : V27 → Prop} {A B : List V27} {m n : Nat}
def rng (A B : List V27) (m : Nat) (t : Nat) : V27 := if t < m then gt A t else gt B (t - m)
theorem tri_par {e x y z : V27} (he : e.1 ≠ 0 ∨ e.2.1 ≠ 0) (hx : cr e (sb y x) = 0) (hy : cr e (sb z x) = 0) : tri x y z = 0 := by
  rw [tri_cr]
  refine cr_zero_tr he ?_ hy
  rw [cr_anti, hx]; rfl
/-- The two chains are the edges of a convex polygon, if it has three corners. -/
theorem chains_edge (ha : Chn true P A) (hb : Chn false P B) (hA : A.length = m + 1) (hB : B.length = n + 1) (h1 : gt A m = gt B 0) (h2 : gt B n = gt A 0) (h3 : 3 ≤ m + n) (hm : 1 ≤ m) (hn : 1 ≤ n) :
    EdgeP (A.take m ++ B.take n) ∧ LowP (A.take m ++ B.take n) 0 ∧ ∀ w, P w → InP (A.take m ++ B.take n) w := by
  have lm : (A.take m).length = m := by rw [List.length_take]; omega
  have ln : (B.take n).length = n := by rw [List.length_take]; omega
  have hM : ∀ t, t < m + n → gt (A.take m ++ B.take n) t = rng A B m t := by
    intro t ht
    unfold rng
    by_cases c : t < m
    · rw [if_pos c, gt_left (by omega), gt_take c]
    · rw [if_neg c, gt_right (by omega), lm, gt_take (by omega)]
  have per : rng A B m (m + n) = rng A B m 0 := by
    unfold rng
    rw [if_neg (by omega), if_pos (by omega), Nat.add_sub_cancel_left, h2]
  have mid : ∀ t, t ≤ m → rng A B m t = gt A t := by
    intro t ht
    unfold rng
    by_cases c : t < m
    · rw [if_pos c]
    · rw [if_neg c, (show t = m by omega), Nat.sub_self, h1]
  have right : ∀ t, m ≤ t → rng A B m t = gt B (t - m) := by
    intro t ht
    unfold rng
    rw [if_neg (by omega)]
  have W : ∀ t, t < m + n → ∀ w, P w → 0 ≤ tri (rng A B m t) (rng A B m (t + 1)) w := by
    intro t ht w hw
    by_cases c : t < m
    · rw [mid t (by omega), mid (t + 1) (by omega)]
      exact ha.nn t (by omega) w hw
    · rw [right t (by omega), right (t + 1) (by omega), (show t + 1 - m = t - m + 1 by omega)]
      exact hb.nn (t - m) (by omega) w hw
  have mem : ∀ t, t ≤ m + n → P (rng A B m t) := by
    intro t ht
    by_cases c : t < m
    · rw [mid t (by omega)]; exact ha.mem t (by omega)
    · rw [right t (by omega)]; exact hb.mem (t - m) (by omega)
  have up : ∀ t, t < m → Up (sb (rng A B m (t + 1)) (rng A B m t)) := by
    intro t ht
    rw [mid t (by omega), mid (t + 1) (by omega)]
    exact ha.fw t (by omega)
  have dn : ∀ t, m ≤ t → t < m + n → Dn (sb (rng A B m (t + 1)) (rng A B m t)) := by
    intro t h0 ht
    rw [right t (by omega), right (t + 1) (by omega), (show t + 1 - m = t - m + 1 by omega)]
    exact hb.fw (t - m) (by omega)
  have tn : ∀ t, t + 1 < m + n → 0 < cr (sb (rng A B m (t + 1)) (rng A B m t)) (sb (rng A B m (t + 1 + 1)) (rng A B m (t + 1))) := by
    intro t ht
    rw [cr_next (sb (rng A B m (t + 1)) (rng A B m t)) (rng A B m t) (rng A B m (t + 1)) _ rfl]
    show 0 < tri (rng A B m t) (rng A B m (t + 1)) (rng A B m (t + 1 + 1))
    by_cases c : t + 2 ≤ m
    · rw [mid t (by omega), mid (t + 1) (by omega), mid (t + 1 + 1) (by omega)]
      exact ha.tn t (by omega)
    · by_cases d : m ≤ t
      · rw [right t (by omega), right (t + 1) (by omega), right (t + 1 + 1) (by omega), (show t + 1 - m = t - m + 1 by omega), (show t + 1 + 1 - m = t - m + 2 by omega)]
        exact hb.tn (t - m) (by omega)
      · obtain rfl : m = t + 1 := by omega
        rcases Int.lt_or_le 0 (tri (rng A B (t + 1) t) (rng A B (t + 1) (t + 1)) (rng A B (t + 1) (t + 1 + 1))) with g | g
        · exact g
        exfalso
        have g0 : tri (rng A B (t + 1) t) (rng A B (t + 1) (t + 1)) (rng A B (t + 1) (t + 1 + 1)) = 0 := by
          have := W t (by omega) _ (mem (t + 1 + 1) (by omega))
          omega
        have e0 : cr (sb (rng A B (t + 1) (t + 1)) (rng A B (t + 1) t)) (sb (rng A B (t + 1) (t + 1 + 1)) (rng A B (t + 1) (t + 1))) = 0 := by
          rw [cr_next (sb (rng A B (t + 1) (t + 1)) (rng A B (t + 1) t)) (rng A B (t + 1) t) (rng A B (t + 1) (t + 1)) _ rfl]
          exact g0
        have U := up t (by omega)
        have all : ∀ w, P w → cr (sb (rng A B (t + 1) (t + 1)) (rng A B (t + 1) t)) (sb w (rng A B (t + 1) (t + 1))) = 0 := by
          intro w hw
          refine flat U (dn (t + 1) (by omega) (by omega)) e0 ?_ ?_
          · rw [cr_next (sb (rng A B (t + 1) (t + 1)) (rng A B (t + 1) t)) (rng A B (t + 1) t) (rng A B (t + 1) (t + 1)) _ rfl]
            exact W t (by omega) w hw
          · exact W (t + 1) (by omega) w hw
        have flat3 : ∀ x y z, P x → P y → P z → tri x y z = 0 := by
          intro x y z hx hy hz
          have a1 := all x hx
          have a2 := all y hy
          have a3 := all z hz
          refine tri_par (e := sb (rng A B (t + 1) (t + 1)) (rng A B (t + 1) t)) (by unfold Up at U; omega) ?_ ?_
          · have : cr (sb (rng A B (t + 1) (t + 1)) (rng A B (t + 1) t)) (sb y x) = cr (sb (rng A B (t + 1) (t + 1)) (rng A B (t + 1) t)) (sb y (rng A B (t + 1) (t + 1))) - cr (sb (rng A B (t + 1) (t + 1)) (rng A B (t + 1) t)) (sb x (rng A B (t + 1) (t + 1))) := by unfold cr sb; dsimp only; grind
            omega
          · have : cr (sb (rng A B (t + 1) (t + 1)) (rng A B (t + 1) t)) (sb z x) = cr (sb (rng A B (t + 1) (t + 1)) (rng A B (t + 1) t)) (sb z (rng A B (t + 1) (t + 1))) - cr (sb (rng A B (t + 1) (t + 1)) (rng A B (t + 1) t)) (sb x (rng A B (t + 1) (t + 1))) := by unfold cr sb; dsimp only; grind
            omega
        by_cases m2 : 1 ≤ t
        · have := ha.tn (t - 1) (by omega)
          rw [flat3 _ _ _ (ha.mem _ (by omega)) (ha.mem _ (by omega)) (ha.mem _ (by omega))] at this
          omega
        · have := hb.tn 0 (by omega)
          rw [flat3 _ _ _ (hb.mem _ (by omega)) (hb.mem _ (by omega)) (hb.mem _ (by omega))] at this
          omega
  have R := ring_edge (T := m + n) (M := rng A B m) (D := fun t => sb (rng A B m (t + 1)) (rng A B m t)) h3 (fun _ _ => rfl) per
    (fun t j ht hj => W t ht _ (mem j hj))
    (by
      intro t ht
      by_cases c : t + 1 < m
      · exact .inr (.inl ⟨up t (by omega), up (t + 1) c, tn t ht⟩)
      · by_cases d : t < m
        · exact .inl ⟨up t d, dn (t + 1) (by omega) ht⟩
        · exact .inr (.inr ⟨dn t (by omega) (by omega), dn (t + 1) (by omega) ht, tn t ht⟩))
    tn (up 0 (by omega)) (dn (m + n - 1) (by omega) (by omega))
  have lH : len (A.take m ++ B.take n) = ((m + n : Nat) : Int) := by unfold len; rw [List.length_append, lm, ln]
  have hq : ∀ t : Nat, t < m + n → q (A.take m ++ B.take n) (t : Int) = rng A B m t := hM
  have hnx : ∀ t : Nat, t < m + n → q (A.take m ++ B.take n) (nx (len (A.take m ++ B.take n)) (t : Int)) = rng A B m (t + 1) := by
    intro t ht
    unfold nx
    rw [lH]
    by_cases c : t + 1 = m + n
    · rw [if_pos (by omega), c, per]
      exact hq 0 (by omega)
    · rw [if_neg (by omega)]
      exact hq (t + 1) (by omega)
  refine ⟨?_, ⟨by omega, ?_⟩, ?_⟩
  · intro i j i0 i1 j0 j1 n1 n2
    obtain ⟨i, rfl⟩ := Int.eq_ofNat_of_zero_le i0
    obtain ⟨j, rfl⟩ := Int.eq_ofNat_of_zero_le j0
    rw [lH] at i1 j1
    rw [hq i (by omega), hq j (by omega), hnx i (by omega)]
    unfold nx at n2
    rw [lH] at n2
    refine R i j (by omega) (by omega) (by omega) ?_ ?_
    · intro e e2
      rw [if_pos (by omega)] at n2
      omega
    · intro e
      by_cases c : i + 1 = m + n
      · omega
      · rw [if_neg (by omega)] at n2
        omega
  · intro j j0 j1 hj
    obtain ⟨j, rfl⟩ := Int.eq_ofNat_of_zero_le j0
    rw [lH] at j1
    have e0 : q (A.take m ++ B.take n) ((0 : Nat) : Int) = gt A 0 := by rw [hq 0 (by omega), mid 0 (by omega)]
    rw [hq j (by omega), e0]
    rcases ha.lo _ (mem j (by omega)) with e | e
    · exfalso
      by_cases c : j ≤ m
      · rw [mid j c] at e
        have : ∀ d i, i + d ≤ m → 0 < d → Fw true (gt A i) (gt A (i + d)) := by
          intro d
          induction d with
          | zero => intro i _ h; omega
          | succ d ih =>
            intro i hi _
            by_cases d0 : d = 0
            · subst d0; exact ha.fw i (by omega)
            · exact Fw_tr (ih i (by omega) (by omega)) (ha.fw (i + d) (by omega))
        have := this j 0 (by omega) (by omega)
        rw [Nat.zero_add, e] at this
        exact Fw_irr _ _ this
      · rw [right j (by omega)] at e
        have : ∀ d i, i + d ≤ n → 0 < d → Fw false (gt B i) (gt B (i + d)) := by
          intro d
          induction d with
          | zero => intro i _ h; omega
          | succ d ih =>
            intro i hi _
            by_cases d0 : d = 0
            · subst d0; exact hb.fw i (by omega)
            · exact Fw_tr (ih i (by omega) (by omega)) (hb.fw (i + d) (by omega))
        have := this (m + n - j) (j - m) (by omega) (by omega)
        rw [(show j - m + (m + n - j) = n by omega), h2, e] at this
        exact Fw_irr _ _ this
    · exact e
  · intro w hw i i0 i1
    obtain ⟨i, rfl⟩ := Int.eq_ofNat_of_zero_le i0
    rw [lH] at i1
    rw [hq i (by omega), hnx i (by omega)]
    exact W i (by omega) w hw
end
end Go.Proofs.T1
