/-
  Plain laws: no program in sight.
-/
import Derived.Test.YtddbhngnhegndaaPlMove
namespace Go.Proofs.T1
open Go Go.Sx

/-! How long a unit vector is -/
theorem unit_len {x y l : Int} (h : Rt (x * x + y * y) l) (hl : 1073741824 ≤ l) :
    (-65536 ≤ rnd (65536 * x) l ∧ rnd (65536 * x) l ≤ 65536) ∧ (-65536 ≤ rnd (65536 * y) l ∧ rnd (65536 * y) l ≤ 65536) ∧
    4294705156 ≤ rnd (65536 * x) l * rnd (65536 * x) l + rnd (65536 * y) l * rnd (65536 * y) l ∧ rnd (65536 * x) l * rnd (65536 * x) l + rnd (65536 * y) l * rnd (65536 * y) l < 4295360521 := by
  obtain ⟨_, h1, h2⟩ := h
  have sx := sq_nn x
  have sy := sq_nn y
  have bd : ∀ z : Int, z * z ≤ x * x + y * y → -l ≤ z ∧ z ≤ l := by
    intro z hz
    constructor
    · rcases Int.lt_or_le z (-l) with c | c
      · have := sq_le (a := l + 1) (b := -z) (by omega) (by omega)
        have : -z * -z = z * z := by grind
        omega
      · exact c
    · rcases Int.lt_or_le l z with c | c
      · have := sq_le (a := l + 1) (b := z) (by omega) (by omega)
        omega
      · exact c
  have bx := bd x (by omega)
  have by_ := bd y (by omega)
  have R : ∀ z : Int, -l ≤ z → z ≤ l → (-65536 ≤ rnd (65536 * z) l ∧ rnd (65536 * z) l ≤ 65536) ∧ -l ≤ 2 * l * rnd (65536 * z) l - 131072 * z ∧ 2 * l * rnd (65536 * z) l - 131072 * z ≤ l := by
    intro z z0 z1
    refine ⟨rnd_bd (by omega) (by omega) (by omega), ?_⟩
    unfold rnd
    have hm := Int.mul_ediv_add_emod (2 * (65536 * z) + l) (2 * l)
    have em0 := Int.emod_nonneg (2 * (65536 * z) + l) (show 2 * l ≠ 0 by omega)
    have em1 := Int.emod_lt_of_pos (2 * (65536 * z) + l) (show 0 < 2 * l by omega)
    omega
  have rx := R x bx.1 bx.2
  have ry := R y by_.1 by_.2
  refine ⟨rx.1, ry.1, ?_⟩
  generalize rnd (65536 * x) l = X at *
  generalize rnd (65536 * y) l = Y at *
  have ex : ∃ ε, ε = 2 * l * X - 131072 * x := ⟨_, rfl⟩
  have ey : ∃ δ, δ = 2 * l * Y - 131072 * y := ⟨_, rfl⟩
  obtain ⟨ε, hε⟩ := ex
  obtain ⟨δ, hδ⟩ := ey
  rw [← hε] at rx
  rw [← hδ] at ry
  have p1 := mul_bd (x := x) (y := ε) (M := l) (N := l) bx.1 bx.2 rx.2.1 rx.2.2
  have p2 := mul_bd (x := y) (y := δ) (M := l) (N := l) by_.1 by_.2 ry.2.1 ry.2.2
  have p3 := mul_bd (x := ε) (y := ε) (M := l) (N := l) rx.2.1 rx.2.2 rx.2.1 rx.2.2
  have p4 := mul_bd (x := δ) (y := δ) (M := l) (N := l) ry.2.1 ry.2.2 ry.2.1 ry.2.2
  have p5 := sq_nn ε
  have p6 := sq_nn δ
  have tot : 4 * (l * l) * (X * X + Y * Y) = 17179869184 * (x * x + y * y) + 262144 * (x * ε + y * δ) + ε * ε + δ * δ := by
    have : 4 * (l * l) * (X * X + Y * Y) = (2 * l * X) * (2 * l * X) + (2 * l * Y) * (2 * l * Y) := by grind
    rw [this, show 2 * l * X = 131072 * x + ε by omega, show 2 * l * Y = 131072 * y + δ by omega]
    grind
  have e2 : (l + 1) * (l + 1) = l * l + 2 * l + 1 := by grind
  rw [e2] at h2
  have ll : 1073741824 * l ≤ l * l := Int.mul_le_mul_of_nonneg_right hl (by omega)
  have lp : 0 < l * l := Int.mul_pos (by omega) (by omega)
  generalize x * x + y * y = S at *
  generalize X * X + Y * Y = Z at *
  generalize x * ε = a1 at *
  generalize y * δ = a2 at *
  generalize ε * ε = a3 at *
  generalize δ * δ = a4 at *
  generalize l * l = L at *
  constructor
  · have : 4 * L * 4294705156 ≤ 4 * L * Z := by omega
    exact Int.le_of_mul_le_mul_left this (by omega)
  · have : 4 * L * Z < 4 * L * 4295360521 := by omega
    exact Int.lt_of_mul_lt_mul_left this (by omega)
theorem unit_Len {k : Nat} (hk : 70 ≤ k) {v u : V28} (h : -1099511627776 ≤ v.1 ∧ v.1 ≤ 1099511627776 ∧ -1099511627776 ≤ v.2.1 ∧ v.2.1 ≤ 1099511627776) (hv : ¬ (v.1 = 0 ∧ v.2.1 = 0)) (hu : vec_Unit k v = some u) :
    ∃ r, vec_Len k u = some r ∧ 65534 ≤ r ∧ r ≤ 65538 := by
  obtain ⟨x, y, l, e, h1, h2⟩ := Unit_eq hk h hv
  rw [e] at hu
  cases hu
  have U := unit_len h1 h2
  obtain ⟨r, e2, hr⟩ := vLen_eq hk (v := (rnd (65536 * x) l, rnd (65536 * y) l, ())) (by dsimp only; omega)
  dsimp only at hr
  have b1 := sq_lt (a := 65534) (b := r + 1) (by decide) (by have := hr.1; omega) (by have := hr.2.2; omega)
  have b2 := sq_lt (a := r) (b := 65539) hr.1 (by decide) (by have := hr.2.1; omega)
  exact ⟨CM r, e2, by rw [CM_in (by omega) (by omega)]; omega, by rw [CM_in (by omega) (by omega)]; omega⟩

theorem PB_min {a b : List V28} {na nb : Int} {s : Bool} {e d : Int} (h : PB a b na nb s e d) : (∀ i, 0 ≤ i → i < na → d ≤ wt a b i) ∧ (∀ i, 0 ≤ i → i < nb → d ≤ wt b a i) ∧ ((∃ i, 0 ≤ i ∧ i < na ∧ d = wt a b i) ∨ ∃ i, 0 ≤ i ∧ i < nb ∧ d = wt b a i) := by
  rcases h with ⟨h1, h2, h3, h4, h5, h6, h7⟩ | ⟨h1, h2, h3, h4, h5, h6, h7⟩
  · refine ⟨fun i i0 i1 => ?_, h7, Or.inl ⟨e, h2, h3, h4⟩⟩
    rcases Int.lt_or_le i e with c | c
    · have := h5 i i0 c; omega
    · exact h6 i c i1
  · refine ⟨fun i i0 i1 => by have := h7 i i0 i1; omega, fun i i0 i1 => ?_, Or.inr ⟨e, h2, h3, h4⟩⟩
    rcases Int.lt_or_le i e with c | c
    · have := h5 i i0 c; omega
    · exact h6 i c i1
theorem PB_swap {a b : List V28} {na nb : Int} {s t : Bool} {e d f c : Int} (h : PB a b na nb s e d) (g : PB b a nb na t f c) : d = c := by
  obtain ⟨h1, h2, h3⟩ := PB_min h
  obtain ⟨g1, g2, g3⟩ := PB_min g
  have x : d ≤ c := by
    rcases g3 with ⟨i, i0, i1, e⟩ | ⟨i, i0, i1, e⟩
    · rw [e]; exact h2 i i0 i1
    · rw [e]; exact h1 i i0 i1
  have y : c ≤ d := by
    rcases h3 with ⟨i, i0, i1, e⟩ | ⟨i, i0, i1, e⟩
    · rw [e]; exact g2 i i0 i1
    · rw [e]; exact g1 i i0 i1
  omega
end Go.Proofs.T1
