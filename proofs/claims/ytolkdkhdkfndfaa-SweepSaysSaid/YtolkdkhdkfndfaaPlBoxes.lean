/-
  Plain laws: no program in sight.
-/
import Derived.Test.YtolkdkhdkfndfaaPlPairs
import Derived.Test.YtolkdkhdkfndfaaG5
namespace Go.Proofs.T1
open Go Go.Sx

theorem irem_range (a : Int) {m : Int} (hm : 0 < m) : -m < irem a m ∧ irem a m < m := by
  unfold irem
  constructor
  · have := Int.lt_tmod_of_pos a hm; omega
  · exact Int.tmod_lt_of_pos a hm

end Go.Proofs.T1
namespace Go.Proofs.T1
open Go Go.Sx

theorem Below_eq (k : Nat) (x : Int) {n : Int} (h0 : 0 < n) (h1 : n ≤ 4611686018427387904) : ∃ y, tourmake_Below k x n = some y ∧ 0 ≤ y ∧ y < n := by
  have hr := irem_range x h0
  unfold tourmake_Below
  rw [req_pos (show nz n by unfold nz; omega)]
  by_cases h : irem x n < 0
  · rw [ilt_pos h, bif_true, iadd_i64 (by omega) (by omega)]
    exact ⟨_, rfl, by omega, by omega⟩
  · rw [ilt_neg (by omega), bif_false]
    exact ⟨_, rfl, by omega, by omega⟩

/-! Valid polygons by a test -/
theorem place_eq (k : Nat) (x y : Int) : ∃ p : V27, tourkeep2_place k x y = some p ∧ -786432 ≤ p.1 ∧ p.1 ≤ 786431 ∧ -786432 ≤ p.2.1 ∧ p.2.1 ≤ 786431 := by
  unfold tourkeep2_place
  obtain ⟨a, e1, a0, a1⟩ := Below_eq k x (n := 1572864) (by decide) (by decide)
  obtain ⟨b, e2, b0, b1⟩ := Below_eq k y (n := 1572864) (by decide) (by decide)
  rw [e1, bnd_some, e2, bnd_some, isub_i64 (by omega) (by omega), isub_i64 (by omega) (by omega)]
  exact ⟨_, rfl, by dsimp only; omega, by dsimp only; omega, by dsimp only; omega, by dsimp only; omega⟩

/-! Moving -/
/-! The area, triangle by triangle -/
end Go.Proofs.T1
namespace Go.Proofs.T1
open Go Go.Sx Go.Sort

/-! Boxes made from numbers; joins -/
theorem eqbs_self {α : Type} (f : α → α → Bool) (h : ∀ x, f x x = true) : ∀ l : List α, eqbs f l l = true
  | [] => rfl
  | x :: l => by
    show (f x x && eqbs f l l) = true
    rw [h x, eqbs_self f h l]
    rfl
theorem eqbA_self (l : List Int) : Ty.eqb (.arr 2 T2) l l = true := eqbs_self (fun x y : Int => ieq x y) (fun _ => ieq_pos rfl) l
theorem eqbB_self (b : V41) : Ty.eqb T41 b b = true := by
  show (Ty.eqb T27 b.1 b.1 && (Ty.eqb T27 b.2.1 b.2.1 && true)) = true
  have h : ∀ p : V27, Ty.eqb T27 p p = true := by
    intro p
    show (ieq p.1 p.1 && (ieq p.2.1 p.2.1 && true)) = true
    rw [ieq_pos rfl, ieq_pos rfl]
    rfl
  rw [h, h]
  rfl
theorem PEqual_self {k : Nat} {l : List (List Int)} (hk : l.length < k) (hl : l.length ≤ 1000000000000) : slices_Equal_37 k l l = some true := by
  have ll : len l = (l.length : Int) := rfl
  have H := find_loop (fun n v => slices_Equal_37.c1 k l l n v) 0 (len l) (fun _ => False) (fun _ => ())
    (fun _ _ _ _ h => h.elim)
    (by
      intro n v a b _
      show slices_Equal_37.c1 k l l (n + 1) v = slices_Equal_37.c1 k l l n (v + 1)
      rw [slices_Equal_37.c1, ilt_pos b, bif_true, req_pos (inL_of a b), req_pos (inL_of a b), (show Ty.eqb (.arr 2 T2) (el (List.replicate 2 (0 : Int)) l v) (el (List.replicate 2 (0 : Int)) l v) = true from eqbA_self _), bif_true, iadd_i64 (by omega) (by omega)])
    (by
      intro n v a b
      show slices_Equal_37.c1 k l l (n + 1) v = _
      rw [slices_Equal_37.c1, ilt_neg b, bif_false])
    k 0 (by omega) (by omega)
  rcases H with ⟨_, _, _, h, _⟩ | ⟨_, h⟩
  · exact h.elim
  · have h : slices_Equal_37.c1 k l l k 0 = some (.inr ()) := h (by omega)
    unfold slices_Equal_37
    rw [ine_neg rfl, bif_false, h, bnd_some, two_inr]

theorem boxes_ok {k : Nat} (hk : 30 ≤ k) (raw : List Int) : ∃ l, tourkeep2_boxes k raw = some l ∧ l.length ≤ 24 ∧ ∀ b, b ∈ l → vbx b := by
  have key : ∀ (n : Nat) (v : Int) (l : List V41), v = 4 * len l → l.length ≤ 24 → 24 < l.length + n → (∀ b, b ∈ l → vbx b) →
      ∃ l', tourkeep2_boxes.c1 k raw n v l = some l' ∧ l'.length ≤ 24 ∧ ∀ b, b ∈ l' → vbx b := by
    intro n
    induction n with
    | zero => intro v l _ h1 h2; omega
    | succ n ih =>
      intro v l hv h1 h2 hb
      have ll : len l = (l.length : Int) := rfl
      have lr : len raw = (raw.length : Int) := rfl
      rw [tourkeep2_boxes.c1]
      unfold tourkeep2_boxes.c2
      rw [iadd_i64 (x := v) (y := 3) (by omega) (by omega)]
      by_cases c1 : v + 3 < len raw
      · rw [ilt_pos c1, bif_true, bnd_some]
        by_cases c2 : l.length < 24
        · rw [ilt_pos (show len l < 24 by omega), bif_true]
          have hr : ∀ x : V41, room 32 l [x] := fun x => by unfold room roomFor; simp only [List.length_singleton]; omega
          rw [req_pos (inL_of (by omega) (by omega)), iadd_i64 (x := v) (y := 1) (by omega) (by omega), req_pos (inL_of (by omega) (by omega))]
          obtain ⟨p, e1, p1, p2, p3, p4⟩ := place_eq k (el 0 raw v) (el 0 raw (v + 1))
          obtain ⟨x, e2, x1, x2⟩ := Below_eq k (el 0 raw (v + 2)) (n := 262144) (by decide) (by decide)
          obtain ⟨y, e3, y1, y2⟩ := Below_eq k (el 0 raw (v + 3)) (n := 262144) (by decide) (by decide)
          rw [e1, bnd_some, iadd_i64 (x := v) (y := 2) (by omega) (by omega), req_pos (inL_of (by omega) (by omega)), e2, bnd_some, req_pos (inL_of (by omega) (by omega)), e3, bnd_some,
            req_pos (hr _), iadd_i64 (x := v) (y := 4) (by omega) (by omega), iadd_i64 (x := p.1) (y := x) (by omega) (by omega), iadd_i64 (x := p.2.1) (y := y) (by omega) (by omega)]
          refine ih _ _ ?_ ?_ ?_ ?_
          · rw [len_app]; omega
          · rw [List.length_append, List.length_singleton]; omega
          · rw [List.length_append, List.length_singleton]; omega
          · intro b hb'
            rcases List.mem_append.1 hb' with h | h
            · exact hb b h
            · rw [List.mem_singleton.1 h]
              exact ⟨show p.1 ≤ p.1 + x by omega, show p.2.1 ≤ p.2.1 + y by omega⟩
        · rw [ilt_neg (show (24 : Int) ≤ len l by omega), bif_false]
          exact ⟨l, rfl, h1, hb⟩
      · rw [ilt_neg (by omega), bif_false, bnd_some, bif_false]
        exact ⟨l, rfl, h1, hb⟩
  obtain ⟨l, e, h1, h2⟩ := key k 0 [] rfl (by decide) (by simp; omega) (fun b hb => by cases hb)
  refine ⟨l, ?_, h1, h2⟩
  unfold tourkeep2_boxes
  rw [e, bnd_some]

def jnb (a b : V41) : V41 := if vbx a then if vbx b then (((imin a.1.1 b.1.1), (imin a.1.2.1 b.1.2.1), ()), ((imax a.2.1.1 b.2.1.1), (imax a.2.1.2.1 b.2.1.2.1), ()), ()) else a else if vbx b then b else ((0, 0, ()), (0, 0, ()), ())
theorem Join_eq (k : Nat) (a b : V41) : sweep_Join k a b = some (jnb a b) := by
  unfold sweep_Join sweep_Join.c1 jnb
  rw [Valid_eq, Valid_eq, bnd_some]
  by_cases h1 : vbx a
  · rw [decide_eq_true h1, bif_true, bnd_some, bif_false, bnd_some, bif_true, bnd_some, if_pos h1]
    by_cases h2 : vbx b
    · rw [decide_eq_true h2, bif_true, if_pos h2]
    · rw [decide_eq_false h2, bif_false, if_neg h2]
  · rw [decide_eq_false h1, bif_false, bnd_some, if_neg h1]
    by_cases h2 : vbx b
    · rw [decide_eq_true h2, if_pos h2]; rfl
    · rw [decide_eq_false h2, if_neg h2]; rfl
theorem jnb_laws {a b c : V41} (ha : vbx a) (hb : vbx b) : jnb a b = jnb b a ∧ jnb (jnb a b) a = jnb a b ∧ jnb a a = a ∧ (mbx a c ∨ mbx b c → mbx (jnb a b) c) := by
  obtain ⟨⟨ax, ay, _⟩, ⟨aX, aY, _⟩, _⟩ := a
  obtain ⟨⟨bx, by', _⟩, ⟨bX, bY, _⟩, _⟩ := b
  obtain ⟨a1, a2⟩ := ha
  obtain ⟨b1, b2⟩ := hb
  dsimp only at a1 a2 b1 b2
  have m1 : ∀ x y, imin x y = imin y x := by intro x y; unfold imin; split <;> split <;> omega
  have m2 : ∀ x y, imax x y = imax y x := by intro x y; unfold imax; split <;> split <;> omega
  have m3 : ∀ x y, imin (imin x y) x = imin x y := by intro x y; unfold imin; split <;> split <;> omega
  have m4 : ∀ x y, imax (imax x y) x = imax x y := by intro x y; unfold imax; split <;> split <;> omega
  have m5 : ∀ x, imin x x = x := by intro x; unfold imin; split <;> rfl
  have m6 : ∀ x, imax x x = x := by intro x; unfold imax; split <;> rfl
  have n1 : ∀ x y, imin x y ≤ x ∧ imin x y ≤ y := by intro x y; unfold imin; split <;> omega
  have n2 : ∀ x y, x ≤ imax x y ∧ y ≤ imax x y := by intro x y; unfold imax; split <;> omega
  have va : vbx ((ax, ay, ()), (aX, aY, ()), ()) := ⟨a1, a2⟩
  have vb : vbx ((bx, by', ()), (bX, bY, ()), ()) := ⟨b1, b2⟩
  have x1 := n1 ax bx
  have x2 := n1 ay by'
  have x3 := n2 aX bX
  have x4 := n2 aY bY
  have e1 : jnb ((ax, ay, ()), (aX, aY, ()), ()) ((bx, by', ()), (bX, bY, ()), ()) = ((imin ax bx, imin ay by', ()), (imax aX bX, imax aY bY, ()), ()) := by
    unfold jnb; rw [if_pos va, if_pos vb]
  have vj : vbx ((imin ax bx, imin ay by', ()), (imax aX bX, imax aY bY, ()), ()) := ⟨by show imin ax bx ≤ imax aX bX; omega, by show imin ay by' ≤ imax aY bY; omega⟩
  rw [e1]
  refine ⟨?_, ?_, ?_, ?_⟩
  · unfold jnb; rw [if_pos va, if_pos vb]
    dsimp only
    rw [m1 ax, m1 ay, m2 aX, m2 aY]
  · unfold jnb; rw [if_pos va, if_pos vj]
    dsimp only
    rw [m3, m3, m4, m4]
  · unfold jnb; rw [if_pos va]
    dsimp only
    rw [if_pos va, m5, m5, m6, m6]
  · rintro (⟨_, c0, c1, c2, c3, c4⟩ | ⟨_, c0, c1, c2, c3, c4⟩)
    · dsimp only at c1 c2 c3 c4
      exact ⟨vj, c0, by show imin ax bx ≤ _; omega, by show _ ≤ imax aX bX; omega, by show imin ay by' ≤ _; omega, by show _ ≤ imax aY bY; omega⟩
    · dsimp only at c1 c2 c3 c4
      exact ⟨vj, c0, by show imin ax bx ≤ _; omega, by show _ ≤ imax aX bX; omega, by show imin ay by' ≤ _; omega, by show _ ≤ imax aY bY; omega⟩

theorem sweeps_ok {k : Nat} (hk : 9 ≤ k) : tourkeep2_sweeps k = some true := by
  unfold tourkeep2_sweeps
  obtain ⟨r, e, hr, hl⟩ := Pairs_ok (k := k) [((0, 0, ()), (5, 5, ()), ()), ((0, 0, ()), (5, 5, ()), ())] (by simp; omega) (by simp)
  have hm : mbx (((0, 0, ()), (5, 5, ()), ()) : V41) ((0, 0, ()), (5, 5, ()), ()) := by decide
  have h2 : PairsOf [((0, 0, ()), (5, 5, ()), ()), ((0, 0, ()), (5, 5, ()), ())] [[0, 1]] := by
    refine ⟨by simp, fun p => ?_⟩
    rw [List.mem_singleton]
    constructor
    · intro h
      exact ⟨0, 1, by decide, by decide, by decide, hm, h⟩
    · rintro ⟨a, b, h0, h1, h2, _, h⟩
      have h2 : b < 2 := h2
      obtain rfl : a = 0 := by omega
      obtain rfl : b = 1 := by omega
      exact h
  rw [PairsOf_eq hr h2] at e
  rw [e, bnd_some, PEqual_self (by simp; omega) (by simp), bnd_some, bif_true, SMeet_eq, bnd_some, decide_eq_true hm]

end Go.Proofs.T1
