/-
  Plain laws: no program in sight.
-/
import Derived.Test.YtcgcnojpcgjnmaaPlBox
namespace Go.Proofs.T1
open Go Go.Sx

/-! Lists as polygons that begin at their lowest corner -/
/-! Points with rational coordinates: X / w, Y / w -/
def hs (a b : V22) (X Y w : Int) : Int := (b.1 - a.1) * (Y - w * a.2.1) - (b.2.1 - a.2.1) * (X - w * a.1)
def HIn (l : List V22) (X Y w : Int) : Prop := ∀ i, 0 ≤ i → i < len l → 0 ≤ hs (q l i) (q l (nx (len l) i)) X Y w
theorem hs_one (a b p : V22) : hs a b p.1 p.2.1 1 = tri a b p := by unfold hs tri; grind
end Go.Proofs.T1
namespace Go.Proofs.T1
open Go Go.Sx

/-! Leaving a polygon -/
theorem HIn_one {l : List V22} {p : V22} : HIn l p.1 p.2.1 1 ↔ InP l p :=
  ⟨fun h i i0 i1 => by rw [← hs_one]; exact h i i0 i1, fun h i i0 i1 => by rw [hs_one]; exact h i i0 i1⟩
/-! Back: a point in common, so no edge separates -/
def scl (w : Int) (l : List V22) : List V22 := l.map fun p => (w * p.1, w * p.2.1, ())
theorem len_scl (w : Int) (l : List V22) : len (scl w l) = len l := by unfold len scl; simp
theorem q_scl (w : Int) {l : List V22} {i : Int} (h0 : 0 ≤ i) (h1 : i < len l) : q (scl w l) i = (w * (q l i).1, w * (q l i).2.1, ()) := by
  obtain ⟨i, rfl⟩ := Int.eq_ofNat_of_zero_le h0
  have hi : i < l.length := by unfold len at h1; omega
  show (scl w l).getD i Z22 = (w * (l.getD i Z22).1, w * (l.getD i Z22).2.1, ())
  rw [List.getD_eq_getElem?_getD, List.getD_eq_getElem?_getD]
  unfold scl
  rw [List.getElem?_map, List.getElem?_eq_getElem hi]
  rfl
theorem tri_scl (w : Int) (a b : V22) (X Y : Int) : tri (w * a.1, w * a.2.1, ()) (w * b.1, w * b.2.1, ()) (X, Y, ()) = w * hs a b X Y w := by unfold tri hs; dsimp only; grind
end Go.Proofs.T1
namespace Go.Proofs.T1
open Go Go.Sx

/-! Numbers that are not greater than the distance of the origin from a segment, or from a polygon -/
/-! A rational point of a polygon, from three corners -/
theorem HIn_fan {l : List V22} (h3 : 3 ≤ len l) (he : EdgeP l) {X Y w : Int} (hw : 0 < w) (h : HIn l X Y w) :
    ∃ x y z α β γ D, (0 ≤ x ∧ x < len l) ∧ (0 ≤ y ∧ y < len l) ∧ (0 ≤ z ∧ z < len l) ∧ 0 ≤ α ∧ 0 ≤ β ∧ 0 ≤ γ ∧ 0 < D ∧ D * w = α + β + γ ∧
      D * X = α * (q l x).1 + β * (q l y).1 + γ * (q l z).1 ∧ D * Y = α * (q l x).2.1 + β * (q l y).2.1 + γ * (q l z).2.1 := by
  have hi : InP (scl w l) (X, Y, ()) := by
    intro i i0 i1
    rw [len_scl] at *
    have hn := nx_range i0 i1
    rw [q_scl w i0 i1, q_scl w hn.1 hn.2, tri_scl]
    exact Int.mul_nonneg (Int.le_of_lt hw) (h i i0 i1)
  obtain ⟨i, i2, i1, c1, c2, c3⟩ := In_Fan (by rw [len_scl]; exact h3) hi
  rw [len_scl] at i1
  have s0 := q_scl w (l := l) (i := 0) (by omega) (by omega)
  have s1 := q_scl w (l := l) (i := i - 1) (by omega) (by omega)
  have s2 := q_scl w (l := l) (i := i) (by omega) (by omega)
  rw [s0, s1, tri_scl] at c1
  rw [s1, s2, tri_scl] at c2
  rw [s2, s0, tri_scl] at c3
  have c1 := nn_of_mul hw c1
  have c2 := nn_of_mul hw c2
  have c3 := nn_of_mul hw c3
  have ht := Edge_Trip he 0 (i - 1) i (by omega) (by omega) (by omega) i1
  refine ⟨0, i - 1, i, hs (q l (i - 1)) (q l i) X Y w, hs (q l i) (q l 0) X Y w, hs (q l 0) (q l (i - 1)) X Y w, _, ⟨by omega, by omega⟩, ⟨by omega, by omega⟩, ⟨by omega, by omega⟩, c2, c3, c1, ht, ?_, ?_, ?_⟩
  · unfold tri hs; grind
  · unfold tri hs; grind
  · unfold tri hs; grind
/-! In both orders -/
/-! One of them moved -/
end Go.Proofs.T1
