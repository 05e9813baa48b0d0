/-
  Plain laws: no program in sight.
-/
import Derived.Test.YtolkdkhdkfndfaaPlBetween
import Derived.Test.YtolkdkhdkfndfaaG8
namespace Go.Proofs.T1
open Go Go.Sx Go.Sort

/-! Boxes in reverse order -/
theorem rev_loop {α : Type} (z : α) (l : List α) (F : Nat → Int → Int → List α → Option (List α))
    (hstep : ∀ (n i j : Nat) (v : List α), i < j → j < l.length → v.length = l.length → F (n + 1) (i : Int) (j : Int) v = F n ((i + 1 : Nat) : Int) ((j - 1 : Nat) : Int) ((v.set i (v.getD j z)).set j (v.getD i z)))
    (hend : ∀ (n : Nat) (i j : Int) (v : List α), j ≤ i → F (n + 1) i j v = some v) :
    ∀ (n i j : Nat) (v : List α), i + j + 1 = l.length → i ≤ j + 1 → v.length = l.length → l.length < i + n + 1 →
      (∀ m, m < l.length → v[m]? = if m < i ∨ j < m then l[l.length - 1 - m]? else l[m]?) → F n (i : Int) (j : Int) v = some l.reverse := by
  intro n
  induction n with
  | zero => intro i j v h1 h2 _ h3; omega
  | succ n ih =>
    intro i j v h1 h2 hv h3 H
    by_cases h : i < j
    · rw [hstep n i j v h (by omega) hv]
      refine ih (i + 1) (j - 1) _ (by omega) (by omega) (by rw [List.length_set, List.length_set]; exact hv) (by omega) ?_
      intro m hm
      have g : ∀ q, q < l.length → i ≤ q → q ≤ j → v.getD q z = l[q]?.getD z := by
        intro q hq q1 q2
        rw [List.getD_eq_getElem?_getD, H q hq, if_neg (by omega)]
      rw [g i (by omega) (by omega) (by omega), g j (by omega) (by omega) (by omega)]
      by_cases hmj : m = j
      · subst hmj
        rw [List.getElem?_set_self (by rw [List.length_set]; omega), if_pos (by omega), (show l.length - 1 - m = i by omega), List.getElem?_eq_getElem (show i < l.length by omega)]
        rfl
      · rw [List.getElem?_set_ne (by omega)]
        by_cases hmi : m = i
        · subst hmi
          rw [List.getElem?_set_self (by omega), if_pos (by omega), (show l.length - 1 - m = j by omega), List.getElem?_eq_getElem (show j < l.length by omega)]
          rfl
        · rw [List.getElem?_set_ne (by omega), H m hm]
          by_cases hc : m < i ∨ j < m
          · rw [if_pos hc, if_pos (by omega)]
          · rw [if_neg hc, if_neg (by omega)]
    · rw [hend n _ _ v (by omega)]
      congr 1
      refine List.ext_getElem? fun m => ?_
      by_cases hm : m < l.length
      · rw [H m hm, List.getElem?_reverse hm]
        by_cases hc : m < i ∨ j < m
        · rw [if_pos hc]
        · rw [if_neg hc, (show l.length - 1 - m = m by omega)]
      · rw [List.getElem?_eq_none (by omega), List.getElem?_eq_none (by rw [List.length_reverse]; omega)]
theorem Reverse_ok {k : Nat} (l : List V41) (hk : l.length < k) (hl : l.length ≤ 100000) : slices_Reverse_32 k l = some l.reverse := by
  have ll : len l = (l.length : Int) := rfl
  unfold slices_Reverse_32
  rw [isub_i64 (by omega) (by omega)]
  have hend : ∀ (n : Nat) (i j : Int) (v : List V41), j ≤ i → slices_Reverse_32.c1 k (n + 1) i j v = some v := by
    intro n i j v h
    rw [slices_Reverse_32.c1, ilt_neg h, bif_false]
  rcases Nat.eq_zero_or_pos l.length with h0 | h0
  · obtain rfl := List.eq_nil_of_length_eq_zero h0
    obtain ⟨m, rfl⟩ : ∃ m, k = m + 1 := ⟨k - 1, by omega⟩
    rw [hend _ _ _ _ (by omega), bnd_some]
    rfl
  have H := rev_loop Z41 l (fun n i j v => slices_Reverse_32.c1 k n i j v)
    (by
      intro n i j v h1 h2 hv
      show slices_Reverse_32.c1 k (n + 1) i j v = slices_Reverse_32.c1 k n _ _ _
      have lv : len v = (v.length : Int) := rfl
      have ls : len (st v (i : Int) (el Z41 v (j : Int))) = (v.length : Int) := by unfold len st; rw [List.length_set]
      rw [slices_Reverse_32.c1, ilt_pos (by omega), bif_true, req_pos (inL_of (by omega) (by omega)), req_pos (inL_of (by omega) (by omega)), req_pos (inL_of (by omega) (by omega)),
        iadd_i64 (by omega) (by omega), isub_i64 (by omega) (by omega), (show (i : Int) + 1 = ((i + 1 : Nat) : Int) by omega), (show (j : Int) - 1 = ((j - 1 : Nat) : Int) by omega)]
      rfl)
    hend k 0 (l.length - 1) l (by omega) (by omega) rfl (by omega) (fun m hm => by rw [if_neg (by omega)])
  rw [(show len l - 1 = ((l.length - 1 : Nat) : Int) by omega)]
  have H : slices_Reverse_32.c1 k k 0 ((l.length - 1 : Nat) : Int) l = some l.reverse := H
  rw [H, bnd_some]
theorem bx_rev (l : List V41) {i : Int} (h0 : 0 ≤ i) (h1 : i < len l) : bx l.reverse i = bx l (len l - 1 - i) := by
  have ll : len l = (l.length : Int) := rfl
  unfold bx el
  rw [List.getD_eq_getElem?_getD, List.getD_eq_getElem?_getD, List.getElem?_reverse (by omega), (show l.length - 1 - i.toNat = (len l - 1 - i).toNat by omega)]
theorem Compare2_ok {k : Nat} (hk : 3 ≤ k) (a b c d : Int) : slices_Compare k [a, b] [c, d] = some (if cmpI a c = 0 then cmpI b d else cmpI a c) := by
  obtain ⟨m, rfl⟩ : ∃ m, k = m + 3 := ⟨k - 3, by omega⟩
  have l1 : len [a, b] = 2 := rfl
  have l2 : len [c, d] = 2 := rfl
  have e0 : el (0 : Int) [a, b] 0 = a := rfl
  have e1 : el (0 : Int) [a, b] (0 + 1) = b := rfl
  have f0 : el (0 : Int) [c, d] 0 = c := rfl
  have f1 : el (0 : Int) [c, d] (0 + 1) = d := rfl
  unfold slices_Compare
  rw [slices_Compare.c1, ilt_pos (by omega), bif_true, req_pos (inL_of (by omega) (by omega)), ige_neg (by omega), bif_false, req_pos (inL_of (by omega) (by omega)), e0, f0, Compare_eq, bnd_some]
  by_cases h : cmpI a c = 0
  · rw [ine_neg h, bif_false, iadd_i64 (x := 0) (y := 1) (by omega) (by omega), slices_Compare.c1, ilt_pos (by omega), bif_true, req_pos (inL_of (by omega) (by omega)), ige_neg (by omega), bif_false, req_pos (inL_of (by omega) (by omega)), e1, f1, Compare_eq, bnd_some, if_pos h]
    by_cases h' : cmpI b d = 0
    · rw [ine_neg h', bif_false, iadd_i64 (x := 0 + 1) (y := 1) (by omega) (by omega), slices_Compare.c1, ilt_neg (by omega), bif_false, bnd_some, two_inr, ilt_neg (by omega), bif_false, h']
    · rw [ine_pos h', bif_true, bnd_some, two_inl]
  · rw [ine_pos h, bif_true, bnd_some, two_inl, if_neg h]
theorem Turned_1_eq {k : Nat} (hk : 3 ≤ k) (a b c d : Int) : tourkeep2_SweepTurned_1 k [a, b] [c, d] = some (if cmpI a c = 0 then cmpI b d else cmpI a c) := by
  unfold tourkeep2_SweepTurned_1
  have e : ∀ x y : Int, List.take 2 (List.drop 0 [x, y]) = [x, y] := fun _ _ => rfl
  rw [e, e, Compare2_ok hk, bnd_some]
/-- Sorting pairs of which none occurs twice. -/
theorem Sort3_ok {k : Nat} (hk : 3 ≤ k) {s : List (List Int)} (hl : s.length ≤ 1000000000000) (h2 : ∀ p, p ∈ s → ∃ a b : Int, p = [a, b]) (hn : s.Nodup) :
    ∃ r, slices_SortFunc_35_2 k s = some r ∧ (∀ p, p ∈ r ↔ p ∈ s) ∧ r.Pairwise (fun p s => plt p s = true) := by
  obtain ⟨r, e, hp, hs⟩ := sort_of (e := .arr 2 T2) (l := s) (cmp := fun z => tourkeep2_SweepTurned_1 k z.1 z.2.1) (lt := plt)
    (fun a ha b hb => by
      obtain ⟨a0, a1, rfl⟩ := h2 a ha
      obtain ⟨b0, b1, rfl⟩ := h2 b hb
      exact ⟨_, Turned_1_eq hk a0 a1 b0 b1, cmp2_lt [a0, a1] [b0, b1]⟩)
    (fun a _ => plt_irr a) (fun a b c => plt_tr) (fun a b c => plt_ntr) hl
  refine ⟨r, e, fun p => hp.mem_iff, ?_⟩
  exact strict_of (hp.nodup_iff.2 hn) hs (fun p hp' => h2 p (hp.mem_iff.1 hp'))
theorem map_nodup {α β : Type} (f : α → β) {l : List α} (hn : l.Nodup) (inj : ∀ a, a ∈ l → ∀ b, b ∈ l → f a = f b → a = b) : (l.map f).Nodup := by
  rw [List.Nodup, List.pairwise_map]
  exact hn.imp_of_mem fun ha hb h e => h (inj _ ha _ hb e)
theorem plt_nodup {l : List (List Int)} (h : l.Pairwise (fun p s => plt p s = true)) : l.Nodup :=
  h.imp fun {a b} h e => by subst e; rw [plt_irr] at h; cases h

theorem SweepTurned_plain {k : Nat} (hk : 3000 ≤ k) (raw more : List Int) : tourkeep2_SweepTurned k raw more = some true := by
  obtain ⟨l, el1, ll24, _⟩ := boxes_ok (k := k) (by omega) raw
  obtain ⟨m, em1, lm24, _⟩ := boxes_ok (k := k) (by omega) more
  have hll : len l = (l.length : Int) := rfl
  have hlm : len m = (m.length : Int) := rfl
  have sq : ∀ n : Nat, n ≤ 48 → n * n ≤ 2304 := fun n h => Nat.mul_le_mul h h
  have sq1 := sq l.length (by omega)
  have sq2 := sq (l.length + m.length) (by omega)
  have sq3 := sq (m.length + l.length) (by omega)
  obtain ⟨p, ep, hp, lp⟩ := Pairs_ok (k := k) l (by omega) (by omega)
  obtain ⟨q, eq, hq, lq⟩ := Pairs_ok (k := k) l.reverse (by rw [List.length_reverse]; omega) (by rw [List.length_reverse]; omega)
  rw [List.length_reverse] at lq
  obtain ⟨u, eu, hu, lu⟩ := Between_ok (k := k) m l (by omega) (by omega)
  obtain ⟨w, ew, hw, lw⟩ := Between_ok (k := k) l m (by omega) (by omega)
  have lrev : len l.reverse = len l := by unfold len; rw [List.length_reverse]
  have hlq : len q = (q.length : Int) := rfl
  have hlu : len u = (u.length : Int) := rfl
  -- turned
  have H1 := fm_loop (List.replicate 2 (0 : Int)) q (fun x => some [len l - 1 - x.getD 1 0, len l - 1 - x.getD 0 0]) (fun n v acc => tourkeep2_SweepTurned.c1 k l q n v acc)
    (by
      intro n v acc hv hacc
      show tourkeep2_SweepTurned.c1 k l q (n + 1) v acc = tourkeep2_SweepTurned.c1 k l q n _ _
      have hv' : (v : Int) < len q := by omega
      obtain ⟨i, j, h0, h1, h2, _, hx⟩ := (hq.2 _).1 (el_in (List.replicate 2 (0 : Int)) q (by omega) hv')
      rw [lrev] at h2
      have hr : ∀ x, room 16 acc [x] := fun x => by unfold room roomFor; simp only [List.length_singleton]; omega
      rw [tourkeep2_SweepTurned.c1, ilt_pos hv', bif_true, req_pos (inL_of (by omega) hv'), req_pos (hr _), hx]
      have p0 : el 0 [i, j] 0 = i := rfl
      have p1 : el 0 [i, j] 1 = j := rfl
      rw [p0, p1, iadd_i64 (x := (v : Int)) (y := 1) (by omega) (by omega), isub_i64 (x := len l) (y := 1) (by omega) (by omega), isub_i64 (x := len l - 1) (by omega) (by omega), isub_i64 (x := len l - 1) (y := i) (by omega) (by omega)]
      rfl)
    (by
      intro n acc _
      show tourkeep2_SweepTurned.c1 k l q (n + 1) _ acc = _
      rw [tourkeep2_SweepTurned.c1, ilt_neg (by omega), bif_false])
    k 0 [] (Nat.zero_le _) (Nat.zero_le _) (by omega)
  have H1 : tourkeep2_SweepTurned.c1 k l q k 0 [] = some ([] ++ (q.drop 0).filterMap (fun x => some [len l - 1 - x.getD 1 0, len l - 1 - x.getD 0 0])) := H1
  rw [List.drop_zero, List.nil_append, List.filterMap_eq_map'] at H1
  have H2 := fm_loop (List.replicate 2 (0 : Int)) u (fun x => some [x.getD 1 0, x.getD 0 0]) (fun n v acc => tourkeep2_SweepTurned.c2 k u n v acc)
    (by
      intro n v acc hv hacc
      show tourkeep2_SweepTurned.c2 k u (n + 1) v acc = tourkeep2_SweepTurned.c2 k u n _ _
      have hv' : (v : Int) < len u := by omega
      have hr : ∀ x, room 16 acc [x] := fun x => by unfold room roomFor; simp only [List.length_singleton]; omega
      rw [tourkeep2_SweepTurned.c2, ilt_pos hv', bif_true, req_pos (inL_of (by omega) hv'), req_pos (hr _), iadd_i64 (x := (v : Int)) (y := 1) (by omega) (by omega)]
      rfl)
    (by
      intro n acc _
      show tourkeep2_SweepTurned.c2 k u (n + 1) _ acc = _
      rw [tourkeep2_SweepTurned.c2, ilt_neg (by omega), bif_false])
    k 0 [] (Nat.zero_le _) (Nat.zero_le _) (by omega)
  have H2 : tourkeep2_SweepTurned.c2 k u k 0 [] = some ([] ++ (u.drop 0).filterMap (fun x => some [x.getD 1 0, x.getD 0 0])) := H2
  rw [List.drop_zero, List.nil_append, List.filterMap_eq_map'] at H2
  have hq2 : ∀ x, x ∈ q → ∃ i j : Int, 0 ≤ i ∧ i < j ∧ j < len l ∧ mbx (bx l.reverse i) (bx l.reverse j) ∧ x = [i, j] := fun x hx => by
    obtain ⟨i, j, h0, h1, h2, h3⟩ := (hq.2 x).1 hx
    rw [lrev] at h2
    exact ⟨i, j, h0, h1, h2, h3⟩
  obtain ⟨t, et, ht, hts⟩ := Sort3_ok (k := k) (by omega) (s := q.map (fun x => [len l - 1 - x.getD 1 0, len l - 1 - x.getD 0 0])) (by rw [List.length_map]; omega)
    (fun x hx => by obtain ⟨y, _, rfl⟩ := List.mem_map.1 hx; exact ⟨_, _, rfl⟩)
    (map_nodup _ (plt_nodup hq.1) fun a ha b hb e => by
      obtain ⟨i, j, _, _, _, _, rfl⟩ := hq2 a ha
      obtain ⟨i', j', _, _, _, _, rfl⟩ := hq2 b hb
      simp only [List.getD_cons_zero, List.getD_cons_succ, List.cons.injEq, and_true] at e
      rw [(show i = i' by omega), (show j = j' by omega)])
  obtain ⟨s, es, hs, hss⟩ := Sort3_ok (k := k) (by omega) (s := u.map (fun x => [x.getD 1 0, x.getD 0 0])) (by rw [List.length_map]; omega)
    (fun x hx => by obtain ⟨y, _, rfl⟩ := List.mem_map.1 hx; exact ⟨_, _, rfl⟩)
    (map_nodup _ (plt_nodup hu.1) fun a ha b hb e => by
      obtain ⟨i, j, _, _, _, _, _, rfl⟩ := (hu.2 a).1 ha
      obtain ⟨i', j', _, _, _, _, _, rfl⟩ := (hu.2 b).1 hb
      simp only [List.getD_cons_zero, List.getD_cons_succ, List.cons.injEq, and_true] at e
      rw [(show i = i' by omega), (show j = j' by omega)])
  have e1 : p = t := by
    refine PairsOf_eq hp ⟨hts, fun x => ?_⟩
    rw [ht, List.mem_map]
    constructor
    · rintro ⟨y, hy, rfl⟩
      obtain ⟨i, j, h0, h1, h2, h3, rfl⟩ := hq2 y hy
      rw [bx_rev l h0 (by omega), bx_rev l (by omega) h2] at h3
      exact ⟨len l - 1 - j, len l - 1 - i, by omega, by omega, by omega, mbx_comm.1 h3, rfl⟩
    · rintro ⟨i, j, h0, h1, h2, h3, rfl⟩
      refine ⟨[len l - 1 - j, len l - 1 - i], (hq.2 _).2 ⟨_, _, by omega, by omega, by rw [lrev]; omega, ?_, rfl⟩, ?_⟩
      · rw [bx_rev l (by omega) (by omega), bx_rev l (by omega) (by omega), (show len l - 1 - (len l - 1 - j) = j by omega), (show len l - 1 - (len l - 1 - i) = i by omega)]
        exact mbx_comm.1 h3
      · simp only [List.getD_cons_zero, List.getD_cons_succ]
        rw [(show len l - 1 - (len l - 1 - j) = j by omega), (show len l - 1 - (len l - 1 - i) = i by omega)]
  have e2 : w = s := by
    refine BetweenOf_eq hw ⟨hss, fun x => ?_⟩
    rw [hs, List.mem_map]
    constructor
    · rintro ⟨y, hy, rfl⟩
      obtain ⟨i, j, h0, h1, h2, h3, h4, rfl⟩ := (hu.2 y).1 hy
      exact ⟨j, i, h2, h3, h0, h1, mbx_comm.1 h4, rfl⟩
    · rintro ⟨i, j, h0, h1, h2, h3, h4, rfl⟩
      exact ⟨[j, i], (hu.2 _).2 ⟨j, i, h2, h3, h0, h1, mbx_comm.1 h4, rfl⟩, rfl⟩
  have hclone : slices_Clone_31 k l = some l := by
    unfold slices_Clone_31
    rw [req_pos (show room0 32 l by unfold room0 roomFor; omega)]
  subst e1 e2
  unfold tourkeep2_SweepTurned
  rw [el1, bnd_some, em1, bnd_some, ep, bnd_some, hclone, bnd_some, Reverse_ok l (by omega) (by omega), bnd_some, eq, bnd_some, H1, bnd_some, et, bnd_some, eu, bnd_some, H2, bnd_some, es, bnd_some, sweeps_ok (by omega), bnd_some, bif_true,
    PEqual_self (by omega) (by omega), bnd_some, bif_true, ew, bnd_some, PEqual_self (by omega) (by omega), bnd_some]
theorem tourkeep2_SweepTurned_plain : ∀ x : (Ty.pair T31 (.pair T31 .unit)).den, Ty.wf (.pair T31 (.pair T31 .unit)) x → ∃ k, (tourkeep2_SweepTurned.sp k).f x = some true := by
  intro x _
  obtain ⟨K, hK⟩ : ∃ K, K = 3000 := ⟨3000, rfl⟩
  exact ⟨K, SweepTurned_plain (by omega) x.1 x.2.1⟩
end Go.Proofs.T1
