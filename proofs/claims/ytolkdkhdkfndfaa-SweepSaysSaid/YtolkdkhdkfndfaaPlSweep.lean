/-
  Plain laws: no program in sight.
-/
import Derived.Test.YtolkdkhdkfndfaaPlBetween
import Derived.Test.YtolkdkhdkfndfaaG9
import Derived.Test.YtolkdkhdkfndfaaG4
namespace Go.Proofs.T1
open Go Go.Sx Go.Sort

/-! What the reference says of boxes -/
theorem RBox_eq (k : Nat) (b : V41) : tourref2_Box k b = some (decide (vbx b)) := by
  unfold tourref2_Box vbx
  by_cases h : b.1.1 ≤ b.2.1.1
  · rw [ile_pos h, bif_true]
    unfold ile
    simp [h]
  · rw [ile_neg (by omega), bif_false]
    simp [h]
theorem Touch_eq (k : Nat) (a b : V41) : tourref2_Touch k a b = some (decide (mbx a b)) := by
  unfold tourref2_Touch
  rw [RBox_eq, RBox_eq, bnd_some]
  by_cases h1 : vbx a
  · rw [decide_eq_true h1, bif_true, bnd_some]
    by_cases h2 : vbx b
    · rw [decide_eq_true h2, bif_true]
      have e : mbx a b ↔ imax a.1.1 b.1.1 ≤ imin a.2.1.1 b.2.1.1 ∧ imax a.1.2.1 b.1.2.1 ≤ imin a.2.1.2.1 b.2.1.2.1 := by
        have := h1
        have := h2
        unfold mbx vbx imax imin at *
        omega
      by_cases h3 : imax a.1.1 b.1.1 ≤ imin a.2.1.1 b.2.1.1
      · rw [ile_pos h3, bif_true]
        unfold ile
        congr 1
        exact decide_eq_decide.2 ⟨fun h => e.2 ⟨h3, h⟩, fun h => (e.1 h).2⟩
      · rw [ile_neg (by omega), bif_false, decide_eq_false (fun h => h3 (e.1 h).1)]
    · rw [decide_eq_false h2, bif_false, decide_eq_false (fun h => h2 h.2.1)]
  · rw [decide_eq_false h1, bif_false, decide_eq_false (fun h => h1 h.1)]
theorem Min4 {k : Nat} (hk : 5 ≤ k) (a b c d : Int) : slices_Min k [a, b, c, d] = some (imin (imin (imin a b) c) d) := by
  obtain ⟨m, rfl⟩ : ∃ m, k = m + 5 := ⟨k - 5, by omega⟩
  unfold slices_Min
  have l4 : len [a, b, c, d] = 4 := rfl
  rw [ilt_neg (by omega), bif_false, req_pos (inL_of (by omega) (by omega)),
    slices_Min.c1, ilt_pos (by omega), bif_true, req_pos (inL_of (by omega) (by omega)), iadd_i64 (x := 1) (y := 1) (by omega) (by omega),
    slices_Min.c1, ilt_pos (by omega), bif_true, req_pos (inL_of (by omega) (by omega)), iadd_i64 (x := 1 + 1) (y := 1) (by omega) (by omega),
    slices_Min.c1, ilt_pos (by omega), bif_true, req_pos (inL_of (by omega) (by omega)), iadd_i64 (x := 1 + 1 + 1) (y := 1) (by omega) (by omega),
    slices_Min.c1, ilt_neg (by omega), bif_false, bnd_some]
  rfl
theorem Max4 {k : Nat} (hk : 5 ≤ k) (a b c d : Int) : slices_Max k [a, b, c, d] = some (imax (imax (imax a b) c) d) := by
  obtain ⟨m, rfl⟩ : ∃ m, k = m + 5 := ⟨k - 5, by omega⟩
  unfold slices_Max
  have l4 : len [a, b, c, d] = 4 := rfl
  rw [ilt_neg (by omega), bif_false, req_pos (inL_of (by omega) (by omega)),
    slices_Max.c1, ilt_pos (by omega), bif_true, req_pos (inL_of (by omega) (by omega)), iadd_i64 (x := 1) (y := 1) (by omega) (by omega),
    slices_Max.c1, ilt_pos (by omega), bif_true, req_pos (inL_of (by omega) (by omega)), iadd_i64 (x := 1 + 1) (y := 1) (by omega) (by omega),
    slices_Max.c1, ilt_pos (by omega), bif_true, req_pos (inL_of (by omega) (by omega)), iadd_i64 (x := 1 + 1 + 1) (y := 1) (by omega) (by omega),
    slices_Max.c1, ilt_neg (by omega), bif_false, bnd_some]
  rfl
theorem Min2 {k : Nat} (hk : 5 ≤ k) (a b : Int) : slices_Min k [a, b] = some (imin a b) := by
  obtain ⟨m, rfl⟩ : ∃ m, k = m + 5 := ⟨k - 5, by omega⟩
  unfold slices_Min
  have l4 : len [a, b] = 2 := rfl
  rw [ilt_neg (by omega), bif_false, req_pos (inL_of (by omega) (by omega)),
    slices_Min.c1, ilt_pos (by omega), bif_true, req_pos (inL_of (by omega) (by omega)), iadd_i64 (x := 1) (y := 1) (by omega) (by omega),
    slices_Min.c1, ilt_neg (by omega), bif_false, bnd_some]
  rfl
theorem Max2 {k : Nat} (hk : 5 ≤ k) (a b : Int) : slices_Max k [a, b] = some (imax a b) := by
  obtain ⟨m, rfl⟩ : ∃ m, k = m + 5 := ⟨k - 5, by omega⟩
  unfold slices_Max
  have l4 : len [a, b] = 2 := rfl
  rw [ilt_neg (by omega), bif_false, req_pos (inL_of (by omega) (by omega)),
    slices_Max.c1, ilt_pos (by omega), bif_true, req_pos (inL_of (by omega) (by omega)), iadd_i64 (x := 1) (y := 1) (by omega) (by omega),
    slices_Max.c1, ilt_neg (by omega), bif_false, bnd_some]
  rfl
theorem Around_c1 {k : Nat} (l : List V27) (hl : l.length ≤ 1000) : ∀ (n v : Nat) (x y : List Int), v ≤ l.length → x.length ≤ v → y.length ≤ v → l.length < v + n →
    tourref2_Around.c1 k l n v x y = some (x ++ (l.drop v).map (fun p => p.1), y ++ (l.drop v).map (fun p => p.2.1)) := by
  have ll : len l = (l.length : Int) := rfl
  intro n
  induction n with
  | zero => intro v x y h1 _ _ h2; omega
  | succ n ih =>
    intro v x y h1 h2 h3 h4
    rw [tourref2_Around.c1]
    by_cases hv : v < l.length
    · have e : el Z27 l (v : Int) = l[v] := el_get Z27 l hv
      rw [ilt_pos (by omega), bif_true, req_pos (inL_of (by omega) (by omega)), e, req_pos (show room 8 x [l[v].1] by unfold room roomFor; simp only [List.length_singleton]; omega), req_pos (show room 8 y [l[v].2.1] by unfold room roomFor; simp only [List.length_singleton]; omega),
        iadd_i64 (x := (v : Int)) (y := 1) (by omega) (by omega), (show (v : Int) + 1 = ((v + 1 : Nat) : Int) by omega), ih (v + 1) _ _ (by omega) (by rw [List.length_append, List.length_singleton]; omega) (by rw [List.length_append, List.length_singleton]; omega) (by omega), List.drop_eq_getElem_cons hv]
      simp only [List.map_cons, List.append_assoc, List.cons_append, List.nil_append]
    · rw [ilt_neg (by omega), bif_false, List.drop_of_length_le (by omega)]
      simp
theorem Around_ok {k : Nat} (l : List V27) (hk : l.length < k) (hl : l.length ≤ 1000) : tourref2_Around k l =
    bnd (slices_Min k (l.map (fun p => p.1))) fun y10 => bnd (slices_Min k (l.map (fun p => p.2.1))) fun y12 => bnd (slices_Max k (l.map (fun p => p.1))) fun y14 => bnd (slices_Max k (l.map (fun p => p.2.1))) fun y16 => some ((y10, y12, ()), (y14, y16, ()), ()) := by
  unfold tourref2_Around
  have := Around_c1 (k := k) l hl k 0 [] [] (Nat.zero_le _) (Nat.zero_le _) (Nat.zero_le _) (by omega)
  have e : tourref2_Around.c1 k l k 0 [] [] = some ([] ++ (l.drop 0).map (fun p => p.1), [] ++ (l.drop 0).map (fun p => p.2.1)) := this
  rw [e, bnd_some]
  rfl
theorem Both_eq {k : Nat} (hk : 6 ≤ k) (a b : V41) : tourref2_Both k a b = some (jnb a b) := by
  obtain ⟨m, rfl⟩ : ∃ m, k = m + 6 := ⟨k - 6, by omega⟩
  have l2 : len [a, b] = 2 := rfl
  have e0 : el Z41 [a, b] 0 = a := rfl
  have e1 : el Z41 [a, b] (0 + 1) = b := rfl
  have hr : ∀ (v : List V27) (x y : V27), v.length ≤ 2 → room 16 v [x, y] := fun v x y h => by unfold room roomFor; simp only [List.length_cons, List.length_nil]; omega
  unfold tourref2_Both
  have hb1 : ∀ (n : Nat) (v : List V27), v.length ≤ 2 → tourref2_Both.c1 (m + 6) a b (n + 2) (0 + 1) v = some (v ++ if vbx b then [b.1, b.2.1] else []) := by
    intro n v hv
    rw [tourref2_Both.c1, ilt_pos (by omega), bif_true, req_pos (inL_of (by omega) (by omega)), e1, RBox_eq, bnd_some, iadd_i64 (x := 0 + 1) (y := 1) (by omega) (by omega)]
    by_cases h : vbx b
    · rw [decide_eq_true h, bif_true, if_pos h, req_pos (hr _ _ _ hv), tourref2_Both.c1, ilt_neg (by omega), bif_false]
    · rw [decide_eq_false h, bif_false, if_neg h, List.append_nil, tourref2_Both.c1, ilt_neg (by omega), bif_false]
  have h1 : tourref2_Both.c1 (m + 6) a b (m + 6) 0 [] = some ((if vbx a then [a.1, a.2.1] else []) ++ if vbx b then [b.1, b.2.1] else []) := by
    rw [tourref2_Both.c1, ilt_pos (by omega), bif_true, req_pos (inL_of (by omega) (by omega)), e0, RBox_eq, bnd_some, iadd_i64 (x := 0) (y := 1) (by omega) (by omega)]
    by_cases h : vbx a
    · rw [decide_eq_true h, bif_true, if_pos h, req_pos (hr _ _ _ (by decide)), hb1 (m + 3) _ (by simp)]
      rfl
    · rw [decide_eq_false h, bif_false, if_neg h, hb1 (m + 3) _ (by simp)]
  rw [h1, bnd_some]
  unfold jnb
  by_cases ha : vbx a <;> by_cases hb : vbx b
  · rw [if_pos ha, if_pos ha, if_pos hb, if_pos hb]
    have l4 : len ([a.1, a.2.1] ++ [b.1, b.2.1]) = 4 := rfl
    rw [ieq_neg (by omega), bif_false, Around_ok _ (by simp) (by simp)]
    have m1 : ([a.1, a.2.1] ++ [b.1, b.2.1] : List V27).map (fun p => p.1) = [a.1.1, a.2.1.1, b.1.1, b.2.1.1] := rfl
    have m2 : ([a.1, a.2.1] ++ [b.1, b.2.1] : List V27).map (fun p => p.2.1) = [a.1.2.1, a.2.1.2.1, b.1.2.1, b.2.1.2.1] := rfl
    rw [m1, m2, Min4 (by omega), bnd_some, Min4 (by omega), bnd_some, Max4 (by omega), bnd_some, Max4 (by omega), bnd_some]
    show some _ = some _
    have r1 : ∀ x y z w : Int, x ≤ y → z ≤ w → imin (imin (imin x y) z) w = imin x z := by intro x y z w _ _; unfold imin; omega
    have r2 : ∀ x y z w : Int, x ≤ y → z ≤ w → imax (imax (imax x y) z) w = imax y w := by intro x y z w _ _; unfold imax; omega
    rw [r1 _ _ _ _ ha.1 hb.1, r1 _ _ _ _ ha.2 hb.2, r2 _ _ _ _ ha.1 hb.1, r2 _ _ _ _ ha.2 hb.2]
  · rw [if_pos ha, if_pos ha, if_neg hb, if_neg hb, List.append_nil]
    have l4 : len [a.1, a.2.1] = 2 := rfl
    rw [ieq_neg (by omega), bif_false, Around_ok _ (by simp) (by simp)]
    have m1 : ([a.1, a.2.1] : List V27).map (fun p => p.1) = [a.1.1, a.2.1.1] := rfl
    have m2 : ([a.1, a.2.1] : List V27).map (fun p => p.2.1) = [a.1.2.1, a.2.1.2.1] := rfl
    rw [m1, m2, Min2 (by omega), bnd_some, Min2 (by omega), bnd_some, Max2 (by omega), bnd_some, Max2 (by omega), bnd_some]
    show some _ = some _
    have r1 : ∀ x y : Int, x ≤ y → imin x y = x := by intro x y _; unfold imin; omega
    have r2 : ∀ x y : Int, x ≤ y → imax x y = y := by intro x y _; unfold imax; omega
    rw [r1 _ _ ha.1, r1 _ _ ha.2, r2 _ _ ha.1, r2 _ _ ha.2]
  · rw [if_neg ha, if_neg ha, if_pos hb, if_pos hb, List.nil_append]
    have l4 : len [b.1, b.2.1] = 2 := rfl
    rw [ieq_neg (by omega), bif_false, Around_ok _ (by simp) (by simp)]
    have m1 : ([b.1, b.2.1] : List V27).map (fun p => p.1) = [b.1.1, b.2.1.1] := rfl
    have m2 : ([b.1, b.2.1] : List V27).map (fun p => p.2.1) = [b.1.2.1, b.2.1.2.1] := rfl
    rw [m1, m2, Min2 (by omega), bnd_some, Min2 (by omega), bnd_some, Max2 (by omega), bnd_some, Max2 (by omega), bnd_some]
    show some _ = some _
    have r1 : ∀ x y : Int, x ≤ y → imin x y = x := by intro x y _; unfold imin; omega
    have r2 : ∀ x y : Int, x ≤ y → imax x y = y := by intro x y _; unfold imax; omega
    rw [r1 _ _ hb.1, r1 _ _ hb.2, r2 _ _ hb.1, r2 _ _ hb.2]
  · rw [if_neg ha, if_neg ha, if_neg hb, if_neg hb]
    rfl

theorem fm_loop2 {α β : Type} (z : α) (l : List α) (B : Nat) (g : α → Option β) (F : Nat → Int → List β → Option (List β))
    (hstep : ∀ (n v : Nat) (acc : List β), v < l.length → acc.length ≤ B + v → F (n + 1) (v : Int) acc = F n ((v + 1 : Nat) : Int) (acc ++ (g (el z l (v : Int))).toList))
    (hend : ∀ (n v : Nat) (acc : List β), l.length ≤ v → F (n + 1) (v : Int) acc = some acc) :
    ∀ (n v : Nat) (acc : List β), acc.length ≤ B + v → l.length < v + n → 0 < n → F n (v : Int) acc = some (acc ++ (l.drop v).filterMap g) := by
  intro n
  induction n with
  | zero => intro v acc _ _ h2; omega
  | succ n ih =>
    intro v acc h2 h3 _
    by_cases hv : v < l.length
    · have e : el z l (v : Int) = l[v] := el_get z l hv
      rw [hstep n v acc hv h2, ih (v + 1) _ ?_ (by omega) (by omega), List.drop_eq_getElem_cons hv, List.filterMap_cons, e]
      · cases h : g l[v] with
        | none => simp
        | some y => simp
      · rw [List.length_append]
        have : (g (el z l (v : Int))).toList.length ≤ 1 := by cases g (el z l (v : Int)) <;> simp
        omega
    · rw [hend n v acc (by omega), List.drop_of_length_le (by omega)]
      simp
theorem flat_loop {β : Type} (N B : Nat) (R : Nat → List β) (F : Nat → Int → List β → Option (List β)) (hR : ∀ v, (R v).length ≤ B)
    (hstep : ∀ (n v : Nat) (acc : List β), v < N → acc.length ≤ B * v → F (n + 1) (v : Int) acc = F n ((v + 1 : Nat) : Int) (acc ++ R v))
    (hend : ∀ (n : Nat) (acc : List β), F (n + 1) (N : Int) acc = some acc) :
    ∀ (n v : Nat) (acc : List β), v ≤ N → acc.length ≤ B * v → N < v + n → F n (v : Int) acc = some (acc ++ ((List.range N).drop v).flatMap R) := by
  intro n
  induction n with
  | zero => intro v acc h1 _ h2; omega
  | succ n ih =>
    intro v acc h1 h2 h3
    by_cases hv : v < N
    · have hr := hR v
      rw [hstep n v acc hv h2, ih (v + 1) _ (by omega) (by rw [List.length_append, Nat.mul_succ]; omega) (by omega), List.drop_eq_getElem_cons (show v < (List.range N).length by rw [List.length_range]; exact hv), List.flatMap_cons, List.getElem_range, List.append_assoc]
    · obtain rfl : v = N := by omega
      rw [hend n acc, List.drop_of_length_le (by rw [List.length_range]; omega)]
      simp
theorem mem_range_drop {N v j : Nat} : j ∈ (List.range N).drop v ↔ v ≤ j ∧ j < N := by
  rw [List.mem_iff_getElem]
  constructor
  · rintro ⟨i, hi, rfl⟩
    rw [List.length_drop, List.length_range] at hi
    rw [List.getElem_drop, List.getElem_range]
    omega
  · rintro ⟨h1, h2⟩
    refine ⟨j - v, by rw [List.length_drop, List.length_range]; omega, ?_⟩
    rw [List.getElem_drop, List.getElem_range]
    omega
theorem el_range {N v : Nat} (h : v < N) : el (0 : Nat) (List.range N) (v : Int) = v := by
  have h' : v < (List.range N).length := by rw [List.length_range]; exact h
  rw [el_get 0 _ h', List.getElem_range]
/-- The row of the pairs of i among the indices from v on. -/
def rowOf (N v : Nat) (i : Nat) (g : Nat → Bool) : List (List Int) := ((List.range N).drop v).filterMap (fun j => if g j then some [(i : Int), (j : Int)] else none)
theorem mem_rowOf {N v i : Nat} {g : Nat → Bool} {p : List Int} : p ∈ rowOf N v i g ↔ ∃ j : Nat, v ≤ j ∧ j < N ∧ g j = true ∧ p = [(i : Int), (j : Int)] := by
  unfold rowOf
  rw [List.mem_filterMap]
  constructor
  · rintro ⟨j, hj, h⟩
    obtain ⟨h1, h2⟩ := mem_range_drop.1 hj
    split at h
    · rename_i hg
      exact ⟨j, h1, h2, hg, (Option.some.inj h).symm⟩
    · cases h
  · rintro ⟨j, h1, h2, hg, rfl⟩
    exact ⟨j, mem_range_drop.2 ⟨h1, h2⟩, by rw [if_pos hg]⟩
theorem rowOf_len (N v i : Nat) (g : Nat → Bool) : (rowOf N v i g).length ≤ N := by
  unfold rowOf
  refine Nat.le_trans (List.length_filterMap_le _ _) ?_
  rw [List.length_drop, List.length_range]
  omega
theorem rowOf_sorted (N v i : Nat) (g : Nat → Bool) : (rowOf N v i g).Pairwise (fun p s => plt p s = true) := by
  unfold rowOf
  rw [List.pairwise_filterMap]
  refine (List.pairwise_lt_range.sublist (List.drop_sublist v (List.range N))).imp ?_
  intro a b h x hx y hy
  split at hx
  · split at hy
    · obtain rfl := Option.some.inj hx
      obtain rfl := Option.some.inj hy
      exact decide_eq_true (.inr ⟨rfl, Int.ofNat_lt.2 h⟩)
    · cases hy
  · cases hx
theorem rows_sorted (M N : Nat) (V : Nat → Nat) (g : Nat → Nat → Bool) : ((List.range M).flatMap (fun i => rowOf N (V i) i (g i))).Pairwise (fun p s => plt p s = true) := by
  rw [List.pairwise_flatMap]
  refine ⟨fun i _ => rowOf_sorted _ _ _ _, List.pairwise_lt_range.imp ?_⟩
  intro a b h x hx y hy
  obtain ⟨j, _, _, _, rfl⟩ := mem_rowOf.1 hx
  obtain ⟨j', _, _, _, rfl⟩ := mem_rowOf.1 hy
  exact decide_eq_true (.inl (Int.ofNat_lt.2 h))
theorem RPairs_ok {k : Nat} (l : List V41) (hk : l.length + 1 < k) (hl : l.length ≤ 100) : ∃ r, tourref2_Pairs k l = some r ∧ PairsOf l r := by
  have ll : len l = (l.length : Int) := rfl
  let g : Nat → Nat → Bool := fun i j => decide (mbx (bx l i) (bx l j))
  have H := flat_loop l.length l.length (fun i => rowOf l.length (i + 1) i (g i)) (fun n v acc => tourref2_Pairs.c1 k l n v acc) (fun v => rowOf_len _ _ _ _)
    (by
      intro n v acc hv hacc
      show tourref2_Pairs.c1 k l (n + 1) v acc = tourref2_Pairs.c1 k l n _ _
      have hB : l.length * v ≤ 100 * 100 := Nat.mul_le_mul hl (by omega)
      rw [tourref2_Pairs.c1, ilt_pos (by omega), bif_true, iadd_i64 (x := (v : Int)) (y := 1) (by omega) (by omega)]
      have H := fm_loop2 (0 : Nat) (List.range l.length) acc.length (fun j => if g v j then some [(v : Int), (j : Int)] else none) (fun n u a => tourref2_Pairs.c2 k l v n u a)
        (by
          intro n u a hu ha
          rw [List.length_range] at hu
          show tourref2_Pairs.c2 k l v (n + 1) u a = tourref2_Pairs.c2 k l v n _ _
          rw [el_range hu, tourref2_Pairs.c2, ilt_pos (by omega), bif_true, req_pos (inL_of (by omega) (by omega)), req_pos (inL_of (by omega) (by omega)), Touch_eq, bnd_some]
          unfold tourref2_Pairs.c3
          have eg : decide (mbx (el Z41 l (v : Int)) (el Z41 l (u : Int))) = g v u := rfl
          rw [eg, iadd_i64 (x := (u : Int)) (y := 1) (by omega) (by omega)]
          cases hg : g v u with
          | true =>
            rw [bif_true, req_pos (show room 16 a [[(v : Int), (u : Int)]] by unfold room roomFor; simp only [List.length_singleton]; omega), bnd_some, if_pos rfl]
            rfl
          | false =>
            rw [bif_false, bnd_some, if_neg (by simp)]
            simp)
        (by
          intro n u a hu
          rw [List.length_range] at hu
          show tourref2_Pairs.c2 k l v (n + 1) u a = _
          rw [tourref2_Pairs.c2, ilt_neg (by omega), bif_false])
        k (v + 1) acc (by omega) (by rw [List.length_range]; omega) (by omega)
      have H : tourref2_Pairs.c2 k l v k ((v : Int) + 1) acc = some (acc ++ rowOf l.length (v + 1) v (g v)) := H
      rw [H, bnd_some]
      rfl)
    (by
      intro n acc
      show tourref2_Pairs.c1 k l (n + 1) _ acc = _
      rw [tourref2_Pairs.c1, ilt_neg (by omega), bif_false])
    k 0 [] (Nat.zero_le _) (Nat.zero_le _) (by omega)
  have H : tourref2_Pairs.c1 k l k 0 [] = some ([] ++ ((List.range l.length).drop 0).flatMap (fun i => rowOf l.length (i + 1) i (g i))) := H
  rw [List.drop_zero, List.nil_append] at H
  refine ⟨_, ?_, rows_sorted l.length l.length (fun i => i + 1) g, fun p => ?_⟩
  · unfold tourref2_Pairs
    rw [H, bnd_some]
  · rw [List.mem_flatMap]
    constructor
    · rintro ⟨i, hi, hp⟩
      obtain ⟨j, h1, h2, h3, rfl⟩ := mem_rowOf.1 hp
      exact ⟨i, j, by omega, by omega, by omega, of_decide_eq_true h3, rfl⟩
    · rintro ⟨i, j, h0, h1, h2, h3, rfl⟩
      obtain ⟨i, rfl⟩ := Int.eq_ofNat_of_zero_le h0
      obtain ⟨j, rfl⟩ := Int.eq_ofNat_of_zero_le (show 0 ≤ j by omega)
      exact ⟨i, List.mem_range.2 (by omega), mem_rowOf.2 ⟨j, by omega, by omega, decide_eq_true h3, rfl⟩⟩
theorem SaysB_ok {k : Nat} (l m : List V41) (hk : l.length + m.length + 1 < k) (hl : l.length ≤ 100) (hm : m.length ≤ 100) : ∃ r, tourlaw2_SweepSays.c5 k l m k 0 [] = some r ∧ BetweenOf l m r := by
  have ll : len l = (l.length : Int) := rfl
  have lm : len m = (m.length : Int) := rfl
  let g : Nat → Nat → Bool := fun i j => decide (mbx (bx l i) (bx m j))
  have H := flat_loop l.length m.length (fun i => rowOf m.length 0 i (g i)) (fun n v acc => tourlaw2_SweepSays.c5 k l m n v acc) (fun v => rowOf_len _ _ _ _)
    (by
      intro n v acc hv hacc
      show tourlaw2_SweepSays.c5 k l m (n + 1) v acc = tourlaw2_SweepSays.c5 k l m n _ _
      have hB : m.length * v ≤ 100 * 100 := Nat.mul_le_mul hm (by omega)
      rw [tourlaw2_SweepSays.c5, ilt_pos (by omega), bif_true, iadd_i64 (x := (v : Int)) (y := 1) (by omega) (by omega), req_pos (inL_of (by omega) (by omega))]
      have H := fm_loop2 (0 : Nat) (List.range m.length) acc.length (fun j => if g v j then some [(v : Int), (j : Int)] else none) (fun n u a => tourlaw2_SweepSays.c6 k l m v n u a)
        (by
          intro n u a hu ha
          rw [List.length_range] at hu
          show tourlaw2_SweepSays.c6 k l m v (n + 1) u a = tourlaw2_SweepSays.c6 k l m v n _ _
          rw [el_range hu, tourlaw2_SweepSays.c6, ilt_pos (by omega), bif_true, req_pos (inL_of (by omega) (by omega)), Touch_eq, bnd_some]
          have eg : decide (mbx (el Z41 l (v : Int)) (el Z41 m (u : Int))) = g v u := rfl
          rw [eg, iadd_i64 (x := (u : Int)) (y := 1) (by omega) (by omega)]
          cases hg : g v u with
          | true =>
            rw [bif_true, req_pos (show room 16 a [[(v : Int), (u : Int)]] by unfold room roomFor; simp only [List.length_singleton]; omega), if_pos rfl]
            rfl
          | false =>
            rw [bif_false, if_neg (by simp)]
            simp)
        (by
          intro n u a hu
          rw [List.length_range] at hu
          show tourlaw2_SweepSays.c6 k l m v (n + 1) u a = _
          rw [tourlaw2_SweepSays.c6, ilt_neg (by omega), bif_false])
        k 0 acc (by omega) (by rw [List.length_range]; omega) (by omega)
      have H : tourlaw2_SweepSays.c6 k l m v k 0 acc = some (acc ++ rowOf m.length 0 v (g v)) := H
      rw [H, bnd_some]
      rfl)
    (by
      intro n acc
      show tourlaw2_SweepSays.c5 k l m (n + 1) _ acc = _
      rw [tourlaw2_SweepSays.c5, ilt_neg (by omega), bif_false])
    k 0 [] (Nat.zero_le _) (Nat.zero_le _) (by omega)
  have H : tourlaw2_SweepSays.c5 k l m k 0 [] = some ([] ++ ((List.range l.length).drop 0).flatMap (fun i => rowOf m.length 0 i (g i))) := H
  rw [List.drop_zero, List.nil_append] at H
  refine ⟨_, H, rows_sorted l.length m.length (fun _ => 0) g, fun p => ?_⟩
  rw [List.mem_flatMap]
  constructor
  · rintro ⟨i, hi, hp⟩
    rw [List.mem_range] at hi
    obtain ⟨j, h1, h2, h3, rfl⟩ := mem_rowOf.1 hp
    exact ⟨i, j, by omega, by omega, by omega, by omega, of_decide_eq_true h3, rfl⟩
  · rintro ⟨i, j, h0, h1, h2, h3, h4, rfl⟩
    obtain ⟨i, rfl⟩ := Int.eq_ofNat_of_zero_le h0
    obtain ⟨j, rfl⟩ := Int.eq_ofNat_of_zero_le h2
    exact ⟨i, List.mem_range.2 (by omega), mem_rowOf.2 ⟨j, by omega, by omega, decide_eq_true h4, rfl⟩⟩

theorem eqb4_self (b : Bool) : Ty.eqb T4 b b = true := by cases b <;> rfl
theorem Says_c4 {k : Nat} (hk : 6 ≤ k) (l m : List V41) (v u : Int) : tourlaw2_SweepSays.c4 k l m v u = some false := by
  unfold tourlaw2_SweepSays.c4
  rw [SMeet_eq, bnd_some, Touch_eq, bnd_some, eqb4_self, bif_true, Join_eq, bnd_some, Both_eq hk, bnd_some, eqbB_self]
  rfl
theorem Says_c3 {k : Nat} (hk : 6 ≤ k) (l m : List V41) (v : Int) : tourlaw2_SweepSays.c3 k l m v k 0 = some (.inr ()) := by
  have key : ∀ (n : Nat) (u : Int), 0 ≤ u → u ≤ 4 → 4 - u < (n : Int) → tourlaw2_SweepSays.c3 k l m v n u = some (.inr ()) := by
    intro n
    induction n with
    | zero => intro u a b c; omega
    | succ n ih =>
      intro u a b c
      have hlen : len (cut m 0 (imin (len m) 4)) ≤ 4 := by
        unfold len cut imin
        rw [List.length_drop, List.length_take]
        split <;> omega
      rw [tourlaw2_SweepSays.c3]
      by_cases h : u < len (cut m 0 (imin (len m) 4))
      · rw [ilt_pos h, bif_true, req_pos (inL_of a h), Says_c4 hk, bnd_some, bif_false, iadd_i64 (x := u) (y := 1) (by omega) (by omega)]
        exact ih (u + 1) (by omega) (by omega) (by omega)
      · rw [ilt_neg (by omega), bif_false]
  exact key k 0 (by omega) (by omega) (by omega)
theorem Says_c2 {k : Nat} (l m : List V41) (hk : l.length + 6 ≤ k) (hl : l.length ≤ 100) : tourlaw2_SweepSays.c2 k l m k 0 = some (.inr ()) := by
  have ll : len l = (l.length : Int) := rfl
  have key : ∀ (n : Nat) (v : Int), 0 ≤ v → v ≤ len l → len l - v < (n : Int) → tourlaw2_SweepSays.c2 k l m n v = some (.inr ()) := by
    intro n
    induction n with
    | zero => intro v a b c; omega
    | succ n ih =>
      intro v a b c
      rw [tourlaw2_SweepSays.c2]
      by_cases h : v < len l
      · have hc : cutOk m 0 (imin (len m) 4) := by
          have : len m = (m.length : Int) := rfl
          unfold imin
          refine ⟨by omega, ?_, ?_⟩ <;> split <;> omega
        rw [ilt_pos h, bif_true, req_pos (inL_of a h), req_pos hc, Says_c3 (by omega), bnd_some, two_inr, Valid_eq, bnd_some, RBox_eq, bnd_some, eqb4_self, bif_true, iadd_i64 (x := v) (y := 1) (by omega) (by omega)]
        exact ih (v + 1) (by omega) (by omega) (by omega)
      · rw [ilt_neg (by omega), bif_false]
  exact key k 0 (by omega) (by omega) (by omega)
theorem SweepSays_plain {k : Nat} (hk : 30000 ≤ k) (l m : List V41) : tourlaw2_SweepSays k l m = some true := by
  have ll : len l = (l.length : Int) := rfl
  have lm : len m = (m.length : Int) := rfl
  obtain ⟨r, e, hr, _⟩ := Pairs_ok (k := k) [((0, 0, ()), (2, 2, ()), ()), ((5, 0, ()), (6, 1, ()), ()), ((2, 1, ()), (4, 4, ()), ())] (by simp; omega) (by simp)
  have h2 : PairsOf [((0, 0, ()), (2, 2, ()), ()), ((5, 0, ()), (6, 1, ()), ()), ((2, 1, ()), (4, 4, ()), ())] [[0, 2]] := by
    refine ⟨by simp, fun p => ?_⟩
    rw [List.mem_singleton]
    constructor
    · intro h
      exact ⟨0, 2, by decide, by decide, by decide, by decide, h⟩
    · rintro ⟨a, b, h0, h1, h2, h3, h⟩
      have h2 : b < 3 := h2
      have : a = 0 ∧ b = 1 ∨ a = 0 ∧ b = 2 ∨ a = 1 ∧ b = 2 := by omega
      rcases this with ⟨rfl, rfl⟩ | ⟨rfl, rfl⟩ | ⟨rfl, rfl⟩
      · exact absurd h3 (by decide)
      · exact h
      · exact absurd h3 (by decide)
  rw [PairsOf_eq hr h2] at e
  unfold tourlaw2_SweepSays
  have b1 : ∀ a b c d, tourlaw2_box k a b c d = some ((a, b, ()), (c, d, ()), ()) := fun _ _ _ _ => rfl
  rw [b1, bnd_some, b1, bnd_some, b1, bnd_some, e, bnd_some, PEqual_self (by simp; omega) (by simp), bnd_some, bif_true]
  unfold tourlaw2_SweepSays.c1
  by_cases c1 : 80 < len l
  · rw [igt_pos c1, bif_true, bnd_some, bif_true]
  rw [igt_neg (by omega), bif_false, bnd_some]
  by_cases c2 : 80 < len m
  · rw [igt_pos c2, bif_true]
  rw [igt_neg (by omega), bif_false, Says_c2 l m (by omega) (by omega), bnd_some, two_inr]
  obtain ⟨w, ew, hw⟩ := SaysB_ok (k := k) l m (by omega) (by omega) (by omega)
  have sq1 : l.length * l.length ≤ 80 * 80 := Nat.mul_le_mul (by omega) (by omega)
  have sq2 : (l.length + m.length) * (l.length + m.length) ≤ 160 * 160 := Nat.mul_le_mul (by omega) (by omega)
  obtain ⟨p, ep, hp, lp⟩ := Pairs_ok (k := k) l (by omega) (by omega)
  obtain ⟨q, eq, hq⟩ := RPairs_ok (k := k) l (by omega) (by omega)
  obtain ⟨u, eu, hu, lu⟩ := Between_ok (k := k) l m (by omega) (by omega)
  obtain rfl := PairsOf_eq hp hq
  obtain rfl := BetweenOf_eq hu hw
  rw [ew, bnd_some, ep, bnd_some, eq, bnd_some, PEqual_self (by omega) (by omega), bnd_some, bif_true, eu, bnd_some, PEqual_self (by omega) (by omega), bnd_some]
theorem tourlaw2_SweepSays_plain : ∀ x : (Ty.pair (.slice T41) (.pair (.slice T41) .unit)).den, Ty.wf (.pair (.slice T41) (.pair (.slice T41) .unit)) x → ∃ k, (tourlaw2_SweepSays.sp k).f x = some true := by
  intro x _
  obtain ⟨K, hK⟩ : ∃ K, K = 30000 := ⟨30000, rfl⟩
  exact ⟨K, SweepSays_plain (by omega) x.1 x.2.1⟩
end Go.Proofs.T1
