/-
  Plain laws: no program in sight.
-/
import Derived.Test.YtcgcnojpcgjnmaaPlPoly
namespace Go.Proofs.T1
open Go Go.Sx

theorem irem_range (a : Int) {m : Int} (hm : 0 < m) : -m < irem a m ∧ irem a m < m := by
  unfold irem
  constructor
  · have := Int.lt_tmod_of_pos a hm; omega
  · exact Int.tmod_lt_of_pos a hm

end Go.Proofs.T1
namespace Go.Proofs.T1
open Go Go.Sx

/-! Valid polygons by a test -/
def edgeB (l : List V22) : Bool := (List.range l.length).all fun i => (List.range l.length).all fun j =>
  Nat.beq j i || (Nat.beq j (if i + 1 = l.length then 0 else i + 1) || decide (0 < tri (l.getD i Z22) (l.getD (if i + 1 = l.length then 0 else i + 1) Z22) (l.getD j Z22)))
theorem edgeB_ok {l : List V22} (h : edgeB l = true) : EdgeP l := by
  intro i j h0 h1 h2 h3 h4 h5
  obtain ⟨i, rfl⟩ := Int.eq_ofNat_of_zero_le h0
  obtain ⟨j, rfl⟩ := Int.eq_ofNat_of_zero_le h2
  have hi : i < l.length := by unfold len at h1; omega
  have hj : j < l.length := by unfold len at h3; omega
  have h6 := List.all_eq_true.1 (List.all_eq_true.1 h i (List.mem_range.2 hi)) j (List.mem_range.2 hj)
  have hnx : nx (len l) (i : Int) = ((if i + 1 = l.length then 0 else i + 1 : Nat) : Int) := by
    unfold nx len
    split <;> split <;> omega
  simp only [Bool.or_eq_true, decide_eq_true_eq] at h6
  rcases h6 with h6 | h6 | h6
  · exact absurd (congrArg Int.ofNat (Nat.eq_of_beq_eq_true h6)) h4
  · rw [hnx] at h5
    exact absurd (congrArg Int.ofNat (Nat.eq_of_beq_eq_true h6)) h5
  · rw [hnx]
    exact h6
theorem EdgeP_three {a b c : V22} (h : 0 < tri a b c) : EdgeP [a, b, c] := by
  apply Trip_Edge
  intro i j m h0 h1 h2 h3
  have hl : len [a, b, c] = 3 := rfl
  have : i = 0 := by omega
  have : j = 1 := by omega
  have : m = 2 := by omega
  subst i j m
  exact h
def allB (l : List V22) : Bool := l.all fun p => decide (-262144 ≤ p.1 ∧ p.1 ≤ 262144 ∧ -262144 ≤ p.2.1 ∧ p.2.1 ≤ 262144)
/-- Within four units of the origin. -/
def All4 (l : List V22) : Prop := ∀ i, 0 ≤ i → i < len l → -262144 ≤ (q l i).1 ∧ (q l i).1 ≤ 262144 ∧ -262144 ≤ (q l i).2.1 ∧ (q l i).2.1 ≤ 262144
theorem allB_ok {l : List V22} (h : allB l = true) : All4 l := by
  intro i h0 h1
  obtain ⟨i, rfl⟩ := Int.eq_ofNat_of_zero_le h0
  have hi : i < l.length := by unfold len at h1; omega
  have h2 := List.all_eq_true.1 h (l[i]) (List.getElem_mem hi)
  simp only [decide_eq_true_eq] at h2
  have : q l (i : Int) = l[i] := by
    show l.getD i Z22 = _
    rw [List.getD_eq_getElem?_getD, List.getElem?_eq_getElem hi]
    rfl
  rw [this]
  exact h2
theorem All4_W {l : List V22} (h : All4 l) : AllW l := fun i h0 h1 => by
  have := h i h0 h1
  unfold Wn
  omega

/-- What the maker of polygons gives. -/
def Made (l : List V22) : Prop := 3 ≤ len l ∧ len l ≤ 5 ∧ All4 l ∧ EdgeP l

def madeB (l : List V22) : Bool := Nat.ble 3 l.length && (Nat.ble l.length 5 && (allB l && edgeB l))
theorem madeB_ok {l : List V22} (h : madeB l = true) : Made l := by
  simp only [madeB, Bool.and_eq_true] at h
  obtain ⟨h1, h2, h3, h4⟩ := h
  have h1 := Nat.le_of_ble_eq_true h1
  have h2 := Nat.le_of_ble_eq_true h2
  exact ⟨by unfold len; omega, by unfold len; omega, allB_ok h3, edgeB_ok h4⟩

def made0 (w h : Int) : List V22 := [((ineg .i64 w), (ineg .i64 h), ()), (w, (ineg .i64 h), ()), (w, h, ()), ((ineg .i64 w), h, ())]
def made2 (w h : Int) : List V22 := [((ineg .i64 w), (ineg .i64 h), ()), ((isub .i64 w (iquo .i64 (imin w h) 2)), (ineg .i64 h), ()), (w, (isub .i64 (iquo .i64 (imin w h) 2) h), ()), (w, h, ()), ((ineg .i64 w), h, ())]
def made3 (w h : Int) : List V22 := [((ineg .i64 w), 0, ()), (0, (ineg .i64 h), ()), (w, 0, ()), (0, h, ())]

theorem made_table : (List.range 4).all (fun a => (List.range 4).all fun b => madeB (made0 ((a + 1) * 65536) ((b + 1) * 65536)) && (madeB (made2 ((a + 1) * 65536) ((b + 1) * 65536)) && madeB (made3 ((a + 1) * 65536) ((b + 1) * 65536)))) = true := by decide +kernel

theorem Made_val {l : List V22} (h : Made l) : Val l := ⟨h.1, by have := h.2.1; omega, All4_W h.2.2.1, h.2.2.2⟩

/-! Moving -/
def shift (l : List V22) (p : V22) : List V22 := l.map fun a => (a.1 + p.1, a.2.1 + p.2.1, ())
theorem len_shift (l : List V22) (p : V22) : len (shift l p) = len l := by unfold len shift; simp
theorem q_shift {l : List V22} {p : V22} {i : Int} (h0 : 0 ≤ i) (h1 : i < len l) : q (shift l p) i = ((q l i).1 + p.1, (q l i).2.1 + p.2.1, ()) := by
  obtain ⟨i, rfl⟩ := Int.eq_ofNat_of_zero_le h0
  have hi : i < l.length := by unfold len at h1; omega
  show (shift l p).getD i Z22 = _
  have : q l (i : Int) = l[i] := by
    show l.getD i Z22 = _
    rw [List.getD_eq_getElem?_getD, List.getElem?_eq_getElem hi]
    rfl
  rw [this, List.getD_eq_getElem?_getD]
  unfold shift
  rw [List.getElem?_map, List.getElem?_eq_getElem hi]
  rfl

theorem tri_shift (a b c p : V22) : tri (a.1 + p.1, a.2.1 + p.2.1, ()) (b.1 + p.1, b.2.1 + p.2.1, ()) (c.1 + p.1, c.2.1 + p.2.1, ()) = tri a b c := by unfold tri; grind

theorem Val_shift {l : List V22} {p : V22} (h : Val l) (hw : AllW (shift l p)) : Val (shift l p) := by
  refine ⟨by rw [len_shift]; exact h.1, by rw [len_shift]; exact h.2.1, hw, ?_⟩
  intro i j h0 h1 h2 h3 h4 h5
  rw [len_shift] at *
  have hn := nx_range h0 h1
  rw [q_shift h0 h1, q_shift hn.1 hn.2, q_shift h2 h3, tri_shift]
  exact h.2.2.2 i j h0 h1 h2 h3 h4 h5

/-! The area, triangle by triangle -/
def fanN (l : List V22) : Nat → Int
  | 0 => 0
  | m + 1 => fanN l m + tri (q l 0) (q l ((m : Int) + 1)) (q l ((m : Int) + 2))
theorem fan_sh (l : List V22) (m : Nat) : shn l (m + 1) + cr (q l ((m : Int) + 1)) (q l 0) = fanN l m := by
  induction m with
  | zero =>
    show 0 + cr (q l 0) (q l (0 + 1)) + cr (q l (0 + 1)) (q l 0) = 0
    unfold cr
    grind
  | succ m ih =>
    show shn l (m + 1) + cr (q l ((m + 1 : Nat) : Int)) (q l (((m + 1 : Nat) : Int) + 1)) + cr (q l (((m + 1 : Nat) : Int) + 1)) (q l 0) = fanN l m + tri (q l 0) (q l ((m : Int) + 1)) (q l ((m : Int) + 2))
    rw [← ih, show ((m + 1 : Nat) : Int) = (m : Int) + 1 by omega, show (m : Int) + 1 + 1 = (m : Int) + 2 by omega]
    unfold cr tri
    grind
theorem area_fan {l : List V22} (h : 3 ≤ len l) : area l = fanN l (l.length - 2) := by
  have e : len l - 1 = ((l.length - 2 : Nat) : Int) + 1 := by unfold len at *; omega
  rw [← fan_sh]
  unfold area sh
  rw [e, show (((l.length - 2 : Nat) : Int) + 1).toNat = l.length - 2 + 1 by omega]

theorem fan_congr {l m : List V22} : ∀ n : Nat, (∀ i, i < n → tri (q l 0) (q l ((i : Int) + 1)) (q l ((i : Int) + 2)) = tri (q m 0) (q m ((i : Int) + 1)) (q m ((i : Int) + 2))) → fanN l n = fanN m n := by
  intro n
  induction n with
  | zero => intro _; rfl
  | succ n ih =>
    intro h
    simp only [fanN]
    rw [ih (fun i hi => h i (by omega)), h n (by omega)]
theorem fan_pos {l : List V22} (h : TripP l) : ∀ n : Nat, (n : Int) + 1 < len l → 0 < n → 0 < fanN l n := by
  intro n
  induction n with
  | zero => intro _ h; omega
  | succ n ih =>
    intro h1 _
    have ht := h 0 ((n : Int) + 1) ((n : Int) + 2) (by omega) (by omega) (by omega) (by omega)
    simp only [fanN]
    by_cases hn : n = 0
    · subst hn
      simpa [fanN] using ht
    · have := ih (by omega) (by omega)
      omega
theorem area_pos {l : List V22} (h : Val l) : 0 < area l := by
  rw [area_fan h.1]
  have := h.1
  unfold len at this
  exact fan_pos (Edge_Trip h.2.2.2) _ (by unfold len; omega) (by omega)
theorem area_shift {l : List V22} {p : V22} (h : 3 ≤ len l) : area (shift l p) = area l := by
  rw [area_fan h, area_fan (by rw [len_shift]; exact h)]
  have hl : (shift l p).length = l.length := by unfold shift; simp
  rw [hl]
  unfold len at h
  refine fan_congr _ fun i hi => ?_
  rw [q_shift (by omega) (by unfold len; omega), q_shift (by omega) (by unfold len; omega), q_shift (by omega) (by unfold len; omega), tri_shift]
end Go.Proofs.T1
