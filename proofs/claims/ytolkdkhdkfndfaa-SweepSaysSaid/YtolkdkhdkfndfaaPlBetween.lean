/-
  Plain laws: no program in sight.
-/
import Derived.Test.YtolkdkhdkfndfaaPlBoxes
import Derived.Test.YtolkdkhdkfndfaaG3
namespace Go.Proofs.T1
open Go Go.Sx Go.Sort

/-! Two lists joined; the pairs between them -/
theorem fm_loop {α β : Type} (z : α) (l : List α) (g : α → Option β) (F : Nat → Int → List β → Option (List β))
    (hstep : ∀ (n v : Nat) (acc : List β), v < l.length → acc.length ≤ v → F (n + 1) (v : Int) acc = F n ((v + 1 : Nat) : Int) (acc ++ (g (el z l (v : Int))).toList))
    (hend : ∀ (n : Nat) (acc : List β), acc.length ≤ l.length → F (n + 1) (l.length : Int) acc = some acc) :
    ∀ (n v : Nat) (acc : List β), v ≤ l.length → acc.length ≤ v → l.length < v + n → F n (v : Int) acc = some (acc ++ (l.drop v).filterMap g) := by
  intro n
  induction n with
  | zero => intro v acc h1 _ h2; omega
  | succ n ih =>
    intro v acc h1 h2 h3
    by_cases hv : v < l.length
    · have e : el z l (v : Int) = l[v] := el_get z l hv
      rw [hstep n v acc hv h2, ih (v + 1) _ (by omega) ?_ (by omega), List.drop_eq_getElem_cons hv, List.filterMap_cons, e]
      · cases h : g l[v] with
        | none => simp
        | some y => simp
      · rw [List.length_append]
        have : (g (el z l (v : Int))).toList.length ≤ 1 := by cases g (el z l (v : Int)) <;> simp
        omega
    · obtain rfl : v = l.length := by omega
      rw [hend n acc h2, List.drop_length]
      simp
theorem Concat_ok {k : Nat} (a b : List V41) (hk : 3 ≤ k) (hl : a.length + b.length ≤ 100000) : slices_Concat k [a, b] = some (a ++ b) := by
  obtain ⟨m, rfl⟩ : ∃ m, k = m + 3 := ⟨k - 3, by omega⟩
  have l2 : len [a, b] = 2 := rfl
  have la : len a = (a.length : Int) := rfl
  have lb : len b = (b.length : Int) := rfl
  have e0 : el ([] : List V41) [a, b] 0 = a := rfl
  have e1 : el ([] : List V41) [a, b] (0 + 1) = b := rfl
  have hg : ∀ n : Int, 0 ≤ n → n ≤ 100000 → slices_Grow (m + 3) () n = some [] := by
    intro n h0 h1
    unfold slices_Grow
    rw [ilt_neg h0, bif_false, isub_i64 (x := 0) (y := 0) (by omega) (by omega), isub_i64 (by omega) (by omega)]
    by_cases h : 0 < n
    · rw [igt_pos (by omega), bif_true, req_pos (show zAp 32 (n - (0 - 0)) from ⟨by omega, by omega⟩), req_pos (show tkOk (mk0 Z41 (n - (0 - 0))) 0 from ⟨by omega, by omega⟩)]
      rfl
    · rw [igt_neg (by omega), bif_false]
  have c1 : slices_Concat.c1 (m + 3) [a, b] (m + 3) 0 0 = some (len a + len b) := by
    rw [slices_Concat.c1, ilt_pos (by omega), bif_true, req_pos (inL_of (by omega) (by omega)), e0, iadd_i64 (by omega) (by omega), ilt_neg (by omega), bif_false, iadd_i64 (x := 0) (y := 1) (by omega) (by omega),
      slices_Concat.c1, ilt_pos (by omega), bif_true, req_pos (inL_of (by omega) (by omega)), e1, iadd_i64 (x := 0 + len a) (by omega) (by omega), ilt_neg (by omega), bif_false, iadd_i64 (x := 0 + 1) (y := 1) (by omega) (by omega),
      slices_Concat.c1, ilt_neg (by omega), bif_false, Int.zero_add]
  have c2 : slices_Concat.c2 (m + 3) [a, b] (m + 3) 0 [] = some (a ++ b) := by
    rw [slices_Concat.c2, ilt_pos (by omega), bif_true, req_pos (inL_of (by omega) (by omega)), e0, req_pos (show room 32 [] a by unfold room roomFor; simp; omega), iadd_i64 (x := 0) (y := 1) (by omega) (by omega),
      slices_Concat.c2, ilt_pos (by omega), bif_true, req_pos (inL_of (by omega) (by omega)), e1, List.nil_append, req_pos (show room 32 a b by unfold room roomFor; omega), iadd_i64 (x := 0 + 1) (y := 1) (by omega) (by omega),
      slices_Concat.c2, ilt_neg (by omega), bif_false]
  unfold slices_Concat
  rw [c1, bnd_some, hg _ (by omega) (by omega), bnd_some, c2, bnd_some]

def BetweenOf (a b : List V41) (r : List (List Int)) : Prop :=
  r.Pairwise (fun p s => plt p s = true) ∧ ∀ p, p ∈ r ↔ ∃ i j : Int, 0 ≤ i ∧ i < len a ∧ 0 ≤ j ∧ j < len b ∧ mbx (bx a i) (bx b j) ∧ p = [i, j]
theorem bx_left (a b : List V41) {i : Int} (h0 : 0 ≤ i) (h1 : i < len a) : bx (a ++ b) i = bx a i := by
  have la : len a = (a.length : Int) := rfl
  unfold bx el
  rw [List.getD_eq_getElem?_getD, List.getD_eq_getElem?_getD, List.getElem?_append_left (by omega)]
theorem bx_right (a b : List V41) {i : Int} (h1 : len a ≤ i) : bx (a ++ b) i = bx b (i - len a) := by
  have la : len a = (a.length : Int) := rfl
  unfold bx el
  rw [List.getD_eq_getElem?_getD, List.getD_eq_getElem?_getD, List.getElem?_append_right (by omega), (show i.toNat - a.length = (i - len a).toNat by omega)]
def btw (n : Int) (p : List Int) : Option (List Int) := if p.getD 0 0 < n ∧ n ≤ p.getD 1 0 then some [p.getD 0 0, p.getD 1 0 - n] else none
theorem Between_ok {k : Nat} (a b : List V41) (hk : (a.length + b.length) * (a.length + b.length) + 4 < k) (hl : a.length + b.length ≤ 10000) :
    ∃ r, sweep_Between k a b = some r ∧ BetweenOf a b r ∧ r.length ≤ (a.length + b.length) * (a.length + b.length) := by
  have la : len a = (a.length : Int) := rfl
  have lb : len b = (b.length : Int) := rfl
  have lab : len (a ++ b) = (a.length : Int) + b.length := by unfold len; rw [List.length_append]; omega
  have hsq : a.length + b.length ≤ (a.length + b.length) * (a.length + b.length) := by
    rcases Nat.eq_zero_or_pos (a.length + b.length) with h | h
    · omega
    · exact Nat.le_mul_of_pos_left _ h
  have hsq2 : (a.length + b.length) * (a.length + b.length) ≤ 10000 * 10000 := Nat.mul_le_mul hl hl
  obtain ⟨s, es, hs, hsl⟩ := Pairs_ok (k := k) (a ++ b) (by rw [List.length_append]; omega) (by rw [List.length_append]; omega)
  rw [List.length_append] at hsl
  have ls : len s = (s.length : Int) := rfl
  have hb : ∀ p, p ∈ s → ∃ i j : Int, 0 ≤ i ∧ i < j ∧ j < len (a ++ b) ∧ mbx (bx (a ++ b) i) (bx (a ++ b) j) ∧ p = [i, j] := fun p hp => (hs.2 p).1 hp
  have H := fm_loop (List.replicate 2 (0 : Int)) s (btw (len a)) (fun n v acc => sweep_Between.c1 k a s n v acc)
    (by
      intro n v acc hv hacc
      show sweep_Between.c1 k a s (n + 1) v acc = sweep_Between.c1 k a s n _ _
      have hv' : (v : Int) < len s := by omega
      obtain ⟨i, j, h0, h1, h2, _, hp⟩ := hb _ (el_in (List.replicate 2 (0 : Int)) s (by omega) hv')
      rw [sweep_Between.c1, ilt_pos hv', bif_true, req_pos (inL_of (by omega) hv')]
      unfold sweep_Between.c2
      rw [hp]
      have p0 : el 0 [i, j] 0 = i := rfl
      have p1 : el 0 [i, j] 1 = j := rfl
      rw [p0, p1, iadd_i64 (x := (v : Int)) (y := 1) (by omega) (by omega), isub_i64 (x := j) (by omega) (by omega)]
      have g0 : ([i, j] : List Int).getD 0 0 = i := rfl
      have g1 : ([i, j] : List Int).getD 1 0 = j := rfl
      unfold btw
      rw [g0, g1]
      have hr : room 16 acc [[i, j - len a]] := by unfold room roomFor; simp only [List.length_singleton]; omega
      by_cases c1 : i < len a
      · rw [ilt_pos c1, bif_true, bnd_some]
        by_cases c2 : len a ≤ j
        · rw [ige_pos c2, bif_true, req_pos hr, if_pos ⟨c1, c2⟩]
          rfl
        · rw [ige_neg (by omega), bif_false, if_neg (fun h => c2 h.2)]
          simp
      · rw [ilt_neg (by omega), bif_false, bnd_some, bif_false, if_neg (fun h => c1 h.1)]
        simp)
    (by
      intro n acc _
      show sweep_Between.c1 k a s (n + 1) _ acc = _
      rw [sweep_Between.c1, ilt_neg (by omega), bif_false])
    k 0 [] (Nat.zero_le _) (Nat.zero_le _) (by omega)
  refine ⟨s.filterMap (btw (len a)), ?_, ⟨?_, ?_⟩, ?_⟩
  · unfold sweep_Between
    rw [Concat_ok a b (by omega) (by omega), bnd_some, es, bnd_some]
    have H : sweep_Between.c1 k a s k 0 [] = some ([] ++ (s.drop 0).filterMap (btw (len a))) := H
    rw [H, bnd_some, List.drop_zero, List.nil_append]
  · rw [List.pairwise_filterMap]
    refine hs.1.imp_of_mem fun {p q} hp hq h x hx y hy => ?_
    obtain ⟨i, j, _, _, _, _, rfl⟩ := hb p hp
    obtain ⟨i', j', _, _, _, _, rfl⟩ := hb q hq
    unfold btw at hx hy
    split at hx
    · split at hy
      · rename_i c d
        obtain rfl := Option.some.inj hx
        obtain rfl := Option.some.inj hy
        unfold plt at h ⊢
        simp only [decide_eq_true_eq, List.getD_cons_zero, List.getD_cons_succ] at h ⊢ c d
        omega
      · cases hy
    · cases hx
  · intro p
    rw [List.mem_filterMap]
    constructor
    · rintro ⟨q, hq, h⟩
      obtain ⟨i, j, h0, h1, h2, hm, rfl⟩ := hb q hq
      unfold btw at h
      split at h
      · rename_i c
        obtain rfl := Option.some.inj h
        simp only [List.getD_cons_zero, List.getD_cons_succ] at c ⊢
        rw [bx_left a b h0 c.1, bx_right a b c.2] at hm
        exact ⟨i, j - len a, h0, c.1, by omega, by omega, hm, rfl⟩
      · cases h
    · rintro ⟨i, j, h0, h1, h2, h3, hm, rfl⟩
      refine ⟨[i, j + len a], (hs.2 _).2 ⟨i, j + len a, h0, by omega, by omega, ?_, rfl⟩, ?_⟩
      · rw [bx_left a b h0 h1, bx_right a b (by omega), (show j + len a - len a = j by omega)]
        exact hm
      · unfold btw
        have g0 : ([i, j + len a] : List Int).getD 0 0 = i := rfl
        have g1 : ([i, j + len a] : List Int).getD 1 0 = j + len a := rfl
        rw [g0, g1, if_pos ⟨h1, by omega⟩, (show j + len a - len a = j by omega)]
  · exact Nat.le_trans (List.length_filterMap_le _ _) hsl
theorem BetweenOf_eq {a b : List V41} {r s : List (List Int)} (h1 : BetweenOf a b r) (h2 : BetweenOf a b s) : r = s :=
  sorted_eq h1.1 h2.1 fun p => (h1.2 p).trans (h2.2 p).symm
end Go.Proofs.T1
