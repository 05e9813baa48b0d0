/-
  Plain laws: no program in sight.
-/
import Derived.Test.YtolkdkhdkfndfaaPlDirs
namespace Go.Proofs.T1
open Go Go.Sx
theorem eqb24 (a b : V27) : Ty.eqb T27 a b = decide (a = b) := by
  obtain ⟨a1, a2, u⟩ := a
  obtain ⟨b1, b2, u'⟩ := b
  show (ieq a1 b1 && (ieq a2 b2 && true)) = _
  by_cases h1 : a1 = b1
  · by_cases h2 : a2 = b2
    · rw [ieq_pos h1, ieq_pos h2]; subst h1 h2; exact (decide_eq_true rfl).symm
    · rw [ieq_pos h1, ieq_neg h2]; exact (decide_eq_false (fun h => h2 (congrArg (fun v => v.2.1) h))).symm
  · rw [ieq_neg h1]; exact (decide_eq_false (fun h => h1 (congrArg Prod.fst h))).symm
end Go.Proofs.T1
namespace Go.Proofs.T1
open Go Go.Sx

/-! SolveSays -/
theorem el_app_lt {α : Type} (z : α) (l : List α) (y : α) {j : Int} (j0 : 0 ≤ j) (j1 : j < len l) : el z (l ++ [y]) j = el z l j := by
  obtain ⟨j, rfl⟩ := Int.eq_ofNat_of_zero_le j0
  have hj : j < l.length := by unfold len at j1; omega
  show (l ++ [y]).getD j z = l.getD j z
  rw [List.getD_eq_getElem?_getD, List.getD_eq_getElem?_getD, List.getElem?_append_left hj]
theorem el_app_eq {α : Type} (z : α) (l : List α) (y : α) {j : Int} (h : len l = j) : el z (l ++ [y]) j = y := by
  subst h
  show (l ++ [y]).getD l.length z = y
  rw [List.getD_eq_getElem?_getD, List.getElem?_append_right (Nat.le_refl _), Nat.sub_self]
  rfl
theorem len_app {α : Type} (l : List α) (y : α) : len (l ++ [y]) = len l + 1 := by
  unfold len
  rw [List.length_append]
  rfl
end Go.Proofs.T1
namespace Go.Proofs.T1
open Go Go.Sx

/-! Lists of valid bodies: what the program computes with them, and what the reference computes -/
theorem el_set {α : Type} (z : α) (l : List α) {i j : Int} (y : α) (i0 : 0 ≤ i) (i1 : i < len l) (j0 : 0 ≤ j) : el z (st l i y) j = if j = i then y else el z l j := by
  obtain ⟨i, rfl⟩ := Int.eq_ofNat_of_zero_le i0
  obtain ⟨j, rfl⟩ := Int.eq_ofNat_of_zero_le j0
  have hi : i < l.length := by unfold len at i1; omega
  show (l.set i y).getD j z = if (j : Int) = (i : Int) then y else l.getD j z
  rw [List.getD_eq_getElem?_getD, List.getD_eq_getElem?_getD, List.getElem?_set]
  by_cases c : j = i
  · subst c
    rw [if_pos rfl, if_pos hi, if_pos rfl]
    rfl
  · rw [if_neg (fun h => c h.symm), if_neg (by omega)]
theorem len_set {α : Type} (l : List α) (i : Int) (y : α) : len (st l i y) = len l := by
  unfold len st
  rw [List.length_set]
section
variable {p v : V27} {ang spin mass inertia bounce rub : Int} {l : List V27} {asleep : Bool} {calm : Int}
end
theorem find_any {α : Type} (F : Nat → Int → Option (α ⊕ Unit)) (N : Int) (g : Int → Option α)
    (hstep : ∀ n v, 0 ≤ v → v < N → F (n + 1) v = match g v with | some y => some (.inl y) | none => F n (v + 1))
    (hend : ∀ n v, 0 ≤ v → N ≤ v → F (n + 1) v = some (.inr ())) :
    ∀ (n : Nat) (v : Int), 0 ≤ v → v ≤ N → N - v < (n : Int) → (∃ j y, v ≤ j ∧ j < N ∧ g j = some y ∧ F n v = some (.inl y)) ∨ ((∀ j, v ≤ j → j < N → g j = none) ∧ F n v = some (.inr ())) := by
  intro n
  induction n with
  | zero => intro v h1 h2 h3; omega
  | succ n ih =>
    intro v h1 h2 h3
    by_cases hv : v < N
    · have hs := hstep n v h1 hv
      cases hg : g v with
      | some y =>
        rw [hg] at hs
        exact Or.inl ⟨v, y, by omega, hv, hg, hs⟩
      | none =>
        rw [hg] at hs
        have hs : F (n + 1) v = F n (v + 1) := hs
        rw [hs]
        rcases ih (v + 1) (by omega) (by omega) (by omega) with ⟨j, y, a, b, c, d⟩ | ⟨a, b⟩
        · exact Or.inl ⟨j, y, by omega, b, c, d⟩
        · refine Or.inr ⟨fun j j0 j1 => ?_, b⟩
          by_cases e : j = v
          · rw [e]; exact hg
          · exact a j (by omega) j1
    · exact Or.inr ⟨fun j a b => by omega, hend n v h1 (by omega)⟩
end Go.Proofs.T1
namespace Go.Proofs.T1
open Go Go.Sx Go.Sort

/-! slices.DeleteFunc -/
theorem take_succ_getD {α : Type} (z : α) (l : List α) {j : Nat} (h : j < l.length) : l.take (j + 1) = l.take j ++ [l.getD j z] := by
  rw [List.take_add_one, List.getD_eq_getElem?_getD, List.getElem?_eq_getElem h]
  rfl
theorem take_set {α : Type} (l : List α) (i : Nat) (y : α) (h : i < l.length) : (l.set i y).take (i + 1) = l.take i ++ [y] := by
  rw [take_succ_getD y _ (by rw [List.length_set]; exact h), List.getD_eq_getElem?_getD, List.getElem?_set_self h, List.take_set_of_le (Nat.le_refl i)]
  rfl
theorem drop_set {α : Type} (l : List α) (i j : Nat) (y : α) (h : i < j) : (l.set i y).drop j = l.drop j := List.drop_set_of_lt h
theorem getD_drop {α : Type} (z : α) (l : List α) (j : Nat) : l.getD j z = (l.drop j).getD 0 z := by
  rw [List.getD_eq_getElem?_getD, List.getD_eq_getElem?_getD, List.getElem?_drop]; rfl
theorem drop_next {α : Type} {l m : List α} {j : Nat} (h : l.drop j = m.drop j) : l.drop (j + 1) = m.drop (j + 1) := by
  rw [← List.drop_drop, ← List.drop_drop, h]

theorem clr_take {α : Type} (z : α) (l : List α) (n : Nat) (h : n ≤ l.length) : (clr z l n).take n = l.take n := by
  unfold clr
  rw [List.take_append_of_le_length (by rw [List.length_take]; omega), List.take_take, Nat.min_self]
theorem clr_length {α : Type} (z : α) (l : List α) (n : Nat) (h : n ≤ l.length) : (clr z l n).length = l.length := by
  unfold clr
  rw [List.length_append, List.length_take, List.length_replicate]
  omega

/-! Sorts -/
theorem sort_of {e : Ty} {l : List e.den} {cmp : CmpF e} (lt : e.den → e.den → Bool) (tot : ∀ a, a ∈ l → ∀ b, b ∈ l → ∃ r, cmp (a, b, ()) = some r ∧ (r < 0 ↔ lt a b = true))
    (irr : ∀ a, a ∈ l → lt a a = false) (tr : ∀ a b c, lt a b = true → lt b c = true → lt a c = true) (ntr : ∀ a b c, lt a b = false → lt b c = false → lt a c = false) (hl : l.length ≤ 1000000000000) :
    ∃ y, sortG e l cmp = some y ∧ y.Perm l ∧ y.Pairwise (fun a b => lt b a = false) := by
  have key : ∀ a b : {a // a ∈ l}, ltOf (cfOf l cmp) a b = lt a.1 b.1 := by
    intro a b
    obtain ⟨r, h1, h2⟩ := tot a.1 a.2 b.1 b.2
    unfold ltOf cfOf
    rw [h1]
    show decide (r < 0) = _
    cases h : lt a.1 b.1 with
    | true => exact decide_eq_true (h2.2 h)
    | false => exact decide_eq_false fun g => by rw [h2.1 g] at h; cases h
  have ok : SortOk l cmp := by
    refine ⟨fun a ha b hb => ?_, ⟨fun a => ?_, fun a b c => ?_, fun a b c => ?_⟩, by omega⟩
    · obtain ⟨r, h, _⟩ := tot a ha b hb
      exact ⟨r, h⟩
    · rw [key]; exact irr a.1 a.2
    · rw [key, key, key]; exact tr _ _ _
    · rw [key, key, key]; exact ntr _ _ _
  obtain ⟨hp, hs⟩ := sortL_spec ok
  refine ⟨sortL l cmp, if_pos ok, hp, ?_⟩
  refine hs.imp_of_mem fun {a b} ha hb h => ?_
  obtain ⟨r, h1, h2⟩ := tot b (hp.mem_iff.1 hb) a (hp.mem_iff.1 ha)
  have h3 := h r h1
  cases h4 : lt b a with
  | true => exact absurd (h2.2 h4) h3
  | false => rfl

/-! Boxes -/
/-! The pairs -/
end Go.Proofs.T1
namespace Go.Proofs.T1
open Go Go.Sx Go.Sort

/-! sweep.Pairs -/
theorem el_get {α : Type} (z : α) (l : List α) {j : Nat} (h : j < l.length) : el z l (j : Int) = l[j] := by
  show l.getD j z = _
  rw [List.getD_eq_getElem?_getD, List.getElem?_eq_getElem h]
  rfl
theorem el_in {α : Type} (z : α) (l : List α) {j : Int} (h0 : 0 ≤ j) (h1 : j < len l) : el z l j ∈ l := by
  obtain ⟨j, rfl⟩ := Int.eq_ofNat_of_zero_le h0
  rw [el_get z l (by unfold len at h1; omega)]
  exact List.getElem_mem _
end Go.Proofs.T1
namespace Go.Proofs.T1
open Go Go.Sx Go.Sort

/-! Boxes in reverse order -/
theorem rev_loop {α : Type} (z : α) (l : List α) (F : Nat → Int → Int → List α → Option (List α))
    (hstep : ∀ (n i j : Nat) (v : List α), i < j → j < l.length → v.length = l.length → F (n + 1) (i : Int) (j : Int) v = F n ((i + 1 : Nat) : Int) ((j - 1 : Nat) : Int) ((v.set i (v.getD j z)).set j (v.getD i z)))
    (hend : ∀ (n : Nat) (i j : Int) (v : List α), j ≤ i → F (n + 1) i j v = some v) :
    ∀ (n i j : Nat) (v : List α), i + j + 1 = l.length → i ≤ j + 1 → v.length = l.length → l.length < i + n + 1 →
      (∀ m, m < l.length → v[m]? = if m < i ∨ j < m then l[l.length - 1 - m]? else l[m]?) → F n (i : Int) (j : Int) v = some l.reverse := by
  intro n
  induction n with
  | zero => intro i j v h1 h2 _ h3; omega
  | succ n ih =>
    intro i j v h1 h2 hv h3 H
    by_cases h : i < j
    · rw [hstep n i j v h (by omega) hv]
      refine ih (i + 1) (j - 1) _ (by omega) (by omega) (by rw [List.length_set, List.length_set]; exact hv) (by omega) ?_
      intro m hm
      have g : ∀ q, q < l.length → i ≤ q → q ≤ j → v.getD q z = l[q]?.getD z := by
        intro q hq q1 q2
        rw [List.getD_eq_getElem?_getD, H q hq, if_neg (by omega)]
      rw [g i (by omega) (by omega) (by omega), g j (by omega) (by omega) (by omega)]
      by_cases hmj : m = j
      · subst hmj
        rw [List.getElem?_set_self (by rw [List.length_set]; omega), if_pos (by omega), (show l.length - 1 - m = i by omega), List.getElem?_eq_getElem (show i < l.length by omega)]
        rfl
      · rw [List.getElem?_set_ne (by omega)]
        by_cases hmi : m = i
        · subst hmi
          rw [List.getElem?_set_self (by omega), if_pos (by omega), (show l.length - 1 - m = j by omega), List.getElem?_eq_getElem (show j < l.length by omega)]
          rfl
        · rw [List.getElem?_set_ne (by omega), H m hm]
          by_cases hc : m < i ∨ j < m
          · rw [if_pos hc, if_pos (by omega)]
          · rw [if_neg hc, if_neg (by omega)]
    · rw [hend n _ _ v (by omega)]
      congr 1
      refine List.ext_getElem? fun m => ?_
      by_cases hm : m < l.length
      · rw [H m hm, List.getElem?_reverse hm]
        by_cases hc : m < i ∨ j < m
        · rw [if_pos hc]
        · rw [if_neg hc, (show l.length - 1 - m = m by omega)]
      · rw [List.getElem?_eq_none (by omega), List.getElem?_eq_none (by rw [List.length_reverse]; omega)]
end Go.Proofs.T1
namespace Go.Proofs.T1
open Go Go.Sx Go.Sort

/-! The hull: sort, compact, two chains -/
def Lq (a b : V27) : Prop := a = b ∨ Fw true a b
theorem Lq_Fw {a b c : V27} (h : Lq a b) (g : Fw true b c) : Fw true a c := by
  rcases h with h | h
  · rw [h]; exact g
  · exact Fw_tr h g
theorem pw_gt {R : V27 → V27 → Prop} {l : List V27} (h : l.Pairwise R) {i j : Nat} (hij : i < j) (hj : j < l.length) : R (gt l i) (gt l j) := by
  rw [gt_get (show i < l.length by omega), gt_get hj]
  exact List.pairwise_iff_getElem.1 h i j (by omega) hj hij
theorem mem_take_gt {l : List V27} {m : Nat} {x : V27} : x ∈ l.take m ↔ ∃ i, i < m ∧ i < l.length ∧ x = gt l i := by
  rw [List.mem_take_iff_getElem]
  constructor
  · rintro ⟨i, hi, rfl⟩
    exact ⟨i, by omega, by omega, (gt_get (by omega)).symm⟩
  · rintro ⟨i, h1, h2, rfl⟩
    exact ⟨i, by omega, (gt_get h2).symm⟩
theorem mem_take_succ {l : List V27} {m : Nat} (hm : m < l.length) {x : V27} : x ∈ l.take (m + 1) ↔ x ∈ l.take m ∨ x = gt l m := by
  rw [List.take_succ_eq_append_getElem hm, List.mem_append, List.mem_singleton, gt_get hm]
theorem Compact_c2 {k : Nat} {l : List V27} (hs : l.Pairwise Lq) (hl : l.length ≤ 1000) {s : Nat} (hs1 : 1 ≤ s) : ∀ (n i j : Nat) (v : List V27), l.length < s + j + n → s + j ≤ l.length → 1 ≤ j → 0 < i → i < s + j → v.length = l.length → v.drop (s + j - 1) = l.drop (s + j - 1) →
    (v.take i).Pairwise (Fw true) → (∀ x, x ∈ v.take i ↔ x ∈ l.take (s + j)) →
    ∃ (i' : Nat) (v' : List V27), slices_Compact.c2 k (s : Int) n (i : Int) (j : Int) v = some ((i' : Int), v') ∧ i' ≤ l.length ∧ v'.length = l.length ∧ (v'.take i').Pairwise (Fw true) ∧ ∀ x, x ∈ v'.take i' ↔ x ∈ l := by
  intro n
  induction n with
  | zero => intro i j v h1 h2; omega
  | succ n ih =>
    intro i j v h1 h2 h3 h4 h5 hv hd hp hm
    have lv : len v = (v.length : Int) := rfl
    have e0 : ((List.length v - Int.toNat (s : Int) : Nat) : Int) = (l.length : Int) - s := by rw [hv]; omega
    rw [slices_Compact.c2, e0]
    by_cases c : s + j < l.length
    · have o1 : ofs (Int.toNat (s : Int)) (j : Int) = ((s + j : Nat) : Int) := by unfold ofs; omega
      have o2 : ofs (Int.toNat (s : Int)) (isub .i64 (j : Int) 1) = ((s + j - 1 : Nat) : Int) := by rw [isub_i64 (by omega) (by omega)]; unfold ofs; omega
      have hj1 : isub .i64 (j : Int) 1 = (j : Int) - 1 := isub_i64 (by omega) (by omega)
      rw [ilt_pos (by omega), bif_true, req_pos (show inR (j : Int) ((l.length : Int) - s) from ⟨by omega, by omega⟩), o1, req_pos (inL_of (by omega) (by omega)), req_pos (show inR (isub .i64 (j : Int) 1) ((l.length : Int) - s) by rw [hj1]; exact ⟨by omega, by omega⟩), o2, req_pos (inL_of (by omega) (by omega))]
      have g1 : el Z27 v ((s + j : Nat) : Int) = gt l (s + j) := by
        show v.getD (s + j) Z27 = l.getD (s + j) Z27
        have : v.drop (s + j) = l.drop (s + j) := by have := drop_next hd; rw [(show s + j - 1 + 1 = s + j by omega)] at this; exact this
        rw [getD_drop, getD_drop Z27 l, this]
      have g2 : el Z27 v ((s + j - 1 : Nat) : Int) = gt l (s + j - 1) := by
        show v.getD (s + j - 1) Z27 = l.getD (s + j - 1) Z27
        rw [getD_drop, getD_drop Z27 l, hd]
      have hd' : v.drop (s + (j + 1) - 1) = l.drop (s + (j + 1) - 1) := by
        have := drop_next hd
        rw [(show s + j - 1 + 1 = s + (j + 1) - 1 by omega)] at this
        exact this
      have eqt : Ty.eqb T27 (el Z27 v ((s + j : Nat) : Int)) (el Z27 v ((s + j - 1 : Nat) : Int)) = decide (gt l (s + j) = gt l (s + j - 1)) := (eqb24 (el Z27 v ((s + j : Nat) : Int)) (el Z27 v ((s + j - 1 : Nat) : Int))).trans (by rw [g1, g2])
      unfold slices_Compact.c3
      rw [e0, o1, o2, eqt, g1]
      have cast1 : iadd .i64 (j : Int) 1 = ((j + 1 : Nat) : Int) := by rw [iadd_i64 (by omega) (by omega)]; omega
      have cast2 : iadd .i64 (i : Int) 1 = ((i + 1 : Nat) : Int) := by rw [iadd_i64 (by omega) (by omega)]; omega
      by_cases ce : gt l (s + j) = gt l (s + j - 1)
      · obtain ⟨i', v', e1, r1, r2, r3, r4⟩ := ih i (j + 1) v (by omega) (by omega) (by omega) h4 (by omega) hv hd' hp (by
          intro x
          rw [hm, (show s + (j + 1) = s + j + 1 by omega), mem_take_succ c]
          constructor
          · exact .inl
          · rintro (h | h)
            · exact h
            · rw [h, ce]
              exact mem_take_gt.2 ⟨s + j - 1, by omega, by omega, rfl⟩)
        refine ⟨i', v', ?_, r1, r2, r3, r4⟩
        rw [decide_eq_true ce, bif_true, bnd_some, cast1]
        exact e1
      · have hF : Fw true (gt l (s + j - 1)) (gt l (s + j)) := (pw_gt hs (show s + j - 1 < s + j by omega) c).resolve_left (fun e => ce e.symm)
        obtain ⟨i', v', e1, r1, r2, r3, r4⟩ := ih (i + 1) (j + 1) (v.set i (gt l (s + j))) (by omega) (by omega) (by omega) (by omega) (by omega) (by rw [List.length_set]; exact hv) (by rw [drop_set _ _ _ _ (by omega)]; exact hd') (by
          rw [take_set _ _ _ (by omega), List.pairwise_append]
          refine ⟨hp, List.pairwise_singleton _ _, ?_⟩
          intro x hx y hy
          rw [List.mem_singleton.1 hy]
          obtain ⟨a, a1, a2, rfl⟩ := mem_take_gt.1 ((hm x).1 hx)
          by_cases ea : a = s + j - 1
          · rw [ea]; exact hF
          · exact Lq_Fw (pw_gt hs (show a < s + j - 1 by omega) (by omega)) hF) (by
          intro x
          rw [take_set _ _ _ (by omega), List.mem_append, List.mem_singleton, hm, (show s + (j + 1) = s + j + 1 by omega), mem_take_succ c])
        refine ⟨i', v', ?_, r1, r2, r3, r4⟩
        rw [decide_eq_false ce, bif_false, req_pos (show inR (j : Int) ((l.length : Int) - s) from ⟨by omega, by omega⟩), req_pos (inL_of (by omega) (by omega)), req_pos (inL_of (by omega) (by omega)), bnd_some]
        dsimp only
        rw [cast1, cast2]
        exact e1
    · have e : s + j = l.length := by omega
      refine ⟨i, v, ?_, by omega, hv, hp, ?_⟩
      · rw [ilt_neg (by omega), bif_false]
      · intro x
        rw [hm, e, List.take_length]
theorem Compact_ok {k : Nat} {l : List V27} (hs : l.Pairwise Lq) (hl : l.length ≤ 1000) (hk : l.length + 1 < k) : ∃ r, slices_Compact k l = some r ∧ r.Pairwise (Fw true) ∧ ∀ x, x ∈ r ↔ x ∈ l := by
  have ll : len l = (l.length : Int) := rfl
  unfold slices_Compact
  by_cases c : len l < 2
  · rw [ilt_pos c, bif_true]
    refine ⟨l, rfl, ?_, fun _ => Iff.rfl⟩
    match l, ll, c with
    | [], _, _ => exact List.Pairwise.nil
    | [a], _, _ => exact List.pairwise_singleton _ _
    | a :: b :: l, _, c => unfold len at c; simp only [List.length_cons] at c; omega
  rw [ilt_neg (by omega), bif_false]
  have key : ∀ (n v : Nat), l.length < v + n → 1 ≤ v → v ≤ l.length → (l.take v).Pairwise (Fw true) →
      (slices_Compact.c1 k l n (v : Int) = some (.inr ()) ∧ l.Pairwise (Fw true)) ∨ ∃ r, slices_Compact.c1 k l n (v : Int) = some (.inl r) ∧ r.Pairwise (Fw true) ∧ ∀ x, x ∈ r ↔ x ∈ l := by
    intro n
    induction n with
    | zero => intro v h1 h2 h3; omega
    | succ n ih =>
      intro v h1 h2 h3 hp
      rw [slices_Compact.c1]
      by_cases c : v < l.length
      · have i1 : isub .i64 (v : Int) 1 = ((v - 1 : Nat) : Int) := by rw [isub_i64 (by omega) (by omega)]; omega
        have g1 : el Z27 l (v : Int) = gt l v := rfl
        have g2 : el Z27 l ((v - 1 : Nat) : Int) = gt l (v - 1) := rfl
        have eqt : Ty.eqb T27 (el Z27 l (v : Int)) (el Z27 l ((v - 1 : Nat) : Int)) = decide (gt l v = gt l (v - 1)) := (eqb24 (el Z27 l (v : Int)) (el Z27 l ((v - 1 : Nat) : Int))).trans (by rw [g1, g2])
        rw [ilt_pos (by omega), bif_true, req_pos (inL_of (by omega) (by omega)), i1, req_pos (inL_of (by omega) (by omega)), eqt]
        by_cases ce : gt l v = gt l (v - 1)
        · obtain ⟨i', v', e1, r1, r2, r3, r4⟩ := Compact_c2 (k := k) hs hl h2 k v 1 l (by omega) (by omega) (by omega) (by omega) (by omega) rfl rfl hp (by
            intro x
            rw [mem_take_succ c]
            constructor
            · exact .inl
            · rintro (h | h)
              · exact h
              · rw [h, ce]
                exact mem_take_gt.2 ⟨v - 1, by omega, by omega, rfl⟩)
          have e1 : slices_Compact.c2 k (v : Int) k (v : Int) 1 l = some ((i' : Int), v') := e1
          refine .inr ⟨v'.take i', ?_, r3, r4⟩
          rw [decide_eq_true ce, bif_true, req_pos (show sufIn (v : Int) l.length from ⟨by omega, by omega⟩), e1, bnd_some]
          dsimp only
          rw [req_pos (show sufIn (i' : Int) v'.length from ⟨by omega, by omega⟩), req_pos (show Int.toNat (i' : Int) ≤ v'.length by omega), req_pos (show tkOk (clr Z27 v' (Int.toNat (i' : Int))) (i' : Int) from ⟨by omega, by rw [clr_length _ _ _ (by omega)]; omega⟩)]
          show some (Sum.inl ((clr Z27 v' i').take i')) = _
          rw [clr_take _ _ _ (by omega)]
        · have hF : Fw true (gt l (v - 1)) (gt l v) := (pw_gt hs (show v - 1 < v by omega) c).resolve_left (fun e => ce e.symm)
          have cast1 : iadd .i64 (v : Int) 1 = ((v + 1 : Nat) : Int) := by rw [iadd_i64 (by omega) (by omega)]; omega
          rw [decide_eq_false ce, bif_false, cast1]
          refine ih (v + 1) (by omega) (by omega) (by omega) ?_
          rw [List.take_succ_eq_append_getElem c, List.pairwise_append]
          refine ⟨hp, List.pairwise_singleton _ _, ?_⟩
          intro x hx y hy
          rw [List.mem_singleton.1 hy, ← gt_get c]
          obtain ⟨a, a1, a2, rfl⟩ := mem_take_gt.1 hx
          by_cases ea : a = v - 1
          · rw [ea]; exact hF
          · exact Lq_Fw (pw_gt hs (show a < v - 1 by omega) (by omega)) hF
      · rw [ilt_neg (by omega), bif_false]
        refine .inl ⟨rfl, ?_⟩
        rw [(show v = l.length by omega), List.take_length] at hp
        exact hp
  have one : (l.take 1).Pairwise (Fw true) := by
    match l with
    | [] => exact List.Pairwise.nil
    | a :: l => exact List.pairwise_singleton _ _
  rcases key k 1 (by omega) (by omega) (by omega) one with ⟨e, h⟩ | ⟨r, e, h1, h2⟩
  · have e : slices_Compact.c1 k l k 1 = some (.inr ()) := e
    rw [e, bnd_some, two_inr]
    exact ⟨l, rfl, h, fun _ => Iff.rfl⟩
  · have e : slices_Compact.c1 k l k 1 = some (.inl r) := e
    rw [e, bnd_some, two_inl]
    exact ⟨r, rfl, h1, h2⟩
theorem VReverse_ok {k : Nat} (l : List V27) (hk : l.length < k) (hl : l.length ≤ 100000) : slices_Reverse k l = some l.reverse := by
  have ll : len l = (l.length : Int) := rfl
  unfold slices_Reverse
  rw [isub_i64 (by omega) (by omega)]
  have hend : ∀ (n : Nat) (i j : Int) (v : List V27), j ≤ i → slices_Reverse.c1 k (n + 1) i j v = some v := by
    intro n i j v h
    rw [slices_Reverse.c1, ilt_neg h, bif_false]
  rcases Nat.eq_zero_or_pos l.length with h0 | h0
  · obtain rfl := List.eq_nil_of_length_eq_zero h0
    obtain ⟨m, rfl⟩ : ∃ m, k = m + 1 := ⟨k - 1, by omega⟩
    rw [hend _ _ _ _ (by omega), bnd_some]
    rfl
  have H := rev_loop Z27 l (fun n i j v => slices_Reverse.c1 k n i j v)
    (by
      intro n i j v h1 h2 hv
      show slices_Reverse.c1 k (n + 1) i j v = slices_Reverse.c1 k n _ _ _
      have lv : len v = (v.length : Int) := rfl
      have ls : len (st v (i : Int) (el Z27 v (j : Int))) = (v.length : Int) := by unfold len st; rw [List.length_set]
      rw [slices_Reverse.c1, ilt_pos (by omega), bif_true, req_pos (inL_of (by omega) (by omega)), req_pos (inL_of (by omega) (by omega)), req_pos (inL_of (by omega) (by omega)),
        iadd_i64 (by omega) (by omega), isub_i64 (by omega) (by omega), (show (i : Int) + 1 = ((i + 1 : Nat) : Int) by omega), (show (j : Int) - 1 = ((j - 1 : Nat) : Int) by omega)]
      rfl)
    hend k 0 (l.length - 1) l (by omega) (by omega) rfl (by omega) (fun m hm => by rw [if_neg (by omega)])
  rw [(show len l - 1 = ((l.length - 1 : Nat) : Int) by omega)]
  have H : slices_Reverse.c1 k k 0 ((l.length - 1 : Nat) : Int) l = some l.reverse := H
  rw [H, bnd_some]

def blt (a b : V27) : Bool := decide (a.2.1 < b.2.1 ∨ a.2.1 = b.2.1 ∧ a.1 < b.1)
theorem blt_Lq {a b : V27} (h : blt b a = false) : Lq a b := by
  have h : ¬ (b.2.1 < a.2.1 ∨ b.2.1 = a.2.1 ∧ b.1 < a.1) := of_decide_eq_false h
  rcases Fw_tri true a b with e | e | e
  · exact .inl e
  · exact .inr e
  · have e : Up (sb a b) := e
    unfold Up sb at e
    dsimp only at e
    exact absurd (show b.2.1 < a.2.1 ∨ b.2.1 = a.2.1 ∧ b.1 < a.1 by omega) h
theorem before_lt {k : Nat} {a b : V27} (wa : Wn a) (wb : Wn b) : ∃ r, poly_before k a b = some r ∧ (r < 0 ↔ blt a b = true) := by
  unfold Wn at wa wb
  unfold poly_before blt
  by_cases c : a.2.1 = b.2.1
  · rw [ine_neg c, bif_false, isub_i64 (by omega) (by omega)]
    exact ⟨_, rfl, by rw [decide_eq_true_iff]; omega⟩
  · rw [ine_pos c, bif_true, isub_i64 (by omega) (by omega)]
    exact ⟨_, rfl, by rw [decide_eq_true_iff]; omega⟩
theorem blt_irr (a : V27) : blt a a = false := by unfold blt; exact decide_eq_false (by omega)
theorem blt_tr {a b c : V27} (h1 : blt a b = true) (h2 : blt b c = true) : blt a c = true := by
  unfold blt at *
  rw [decide_eq_true_iff] at *
  omega
theorem blt_ntr {a b c : V27} (h1 : blt a b = false) (h2 : blt b c = false) : blt a c = false := by
  unfold blt at *
  rw [decide_eq_false_iff_not] at *
  omega
theorem VSort_ok {k : Nat} {l : List V27} (hl : l.length ≤ 1000) (hw : ∀ x, x ∈ l → Wn x) : ∃ r, slices_SortFunc k l = some r ∧ r.Perm l ∧ r.Pairwise Lq := by
  obtain ⟨r, e, hp, hs⟩ := sort_of (e := T27) (l := l) (cmp := fun z => poly_before k z.1 z.2.1) (lt := blt)
    (fun a ha b hb => before_lt (hw a ha) (hw b hb)) (fun a _ => blt_irr a) (fun _ _ _ => blt_tr) (fun _ _ _ => blt_ntr) (Nat.le_trans hl (by decide))
  exact ⟨r, e, hp, hs.imp blt_Lq⟩

/-! The chains -/
theorem Pop_ok {k : Nat} {u : Bool} {P : V27 → Prop} (hW : ∀ w, P w → Wn w) (pre ps : List V27) {v : Int} {pt : V27} (hpt : el Z27 ps v = pt) (hw : Wn pt) : ∀ (n : Nat) (S : List V27), Pend u P S pt → pre.length + S.length ≤ 1000 → S.length < n →
    ∃ S', poly_Hull.c3 k ps pre v n (pre ++ S) = some (pre ++ S') ∧ Pend u P S' pt ∧ (S'.length = 1 ∨ ∃ m, S'.length = m + 2 ∧ 0 < tri (gt S' m) (gt S' (m + 1)) pt) ∧ S'.length ≤ S.length := by
  intro n
  induction n with
  | zero => intro S _ _ h; omega
  | succ n ih =>
    intro S hS hl hn
    have lS : len (pre ++ S) = (pre.length : Int) + S.length := by unfold len; rw [List.length_append]; omega
    have lp : len pre = (pre.length : Int) := rfl
    have ne := hS.ch.ne
    rw [poly_Hull.c3]
    unfold poly_Hull.c4
    rw [iadd_i64 (x := len pre) (y := 2) (by omega) (by omega)]
    by_cases c : 2 ≤ S.length
    · obtain ⟨m, hm⟩ : ∃ m, S.length = m + 2 := ⟨S.length - 2, by omega⟩
      have i2 : isub .i64 (len (pre ++ S)) 2 = ((pre.length + m : Nat) : Int) := by rw [isub_i64 (by omega) (by omega)]; omega
      have i1 : isub .i64 (len (pre ++ S)) 1 = ((pre.length + (m + 1) : Nat) : Int) := by rw [isub_i64 (by omega) (by omega)]; omega
      have g2 : el Z27 (pre ++ S) ((pre.length + m : Nat) : Int) = gt S m := by
        show gt (pre ++ S) (pre.length + m) = _
        rw [gt_right (by omega), Nat.add_sub_cancel_left]
      have g1 : el Z27 (pre ++ S) ((pre.length + (m + 1) : Nat) : Int) = gt S (m + 1) := by
        show gt (pre ++ S) (pre.length + (m + 1)) = _
        rw [gt_right (by omega), Nat.add_sub_cancel_left]
      rw [ige_pos (by omega), bif_true, i2, i1, req_pos (inL_of (by omega) (by omega)), req_pos (inL_of (by omega) (by omega)), g2, g1, hpt, side_eq k (hW _ (hS.ch.mem m (by omega))) (hW _ (hS.ch.mem (m + 1) (by omega))) hw, bnd_some, bnd_some]
      rcases Int.lt_or_le 0 (tri (gt S m) (gt S (m + 1)) pt) with g | g
      · rw [ile_neg g, bif_false]
        exact ⟨S, rfl, hS, .inr ⟨m, hm, g⟩, Nat.le_refl _⟩
      · have lt : (S.take (m + 1)).length = m + 1 := by rw [List.length_take]; omega
        obtain ⟨S', e, r1, r2, r3⟩ := ih (S.take (m + 1)) (pop hS hm g) (by omega) (by omega)
        refine ⟨S', ?_, r1, r2, by omega⟩
        rw [ile_pos g, bif_true, req_pos (show tkOk (pre ++ S) ((pre.length + (m + 1) : Nat) : Int) from ⟨by omega, by rw [List.length_append]; omega⟩)]
        have et : tk (pre ++ S) ((pre.length + (m + 1) : Nat) : Int) = pre ++ S.take (m + 1) := by
          show List.take (pre.length + (m + 1)) (pre ++ S) = _
          rw [List.take_append, List.take_of_length_le (by omega), Nat.add_sub_cancel_left]
        rw [et]
        exact e
    · rw [ige_neg (by omega), bif_false, bnd_some, bif_false]
      exact ⟨S, rfl, hS, .inl (by omega), Nat.le_refl _⟩
theorem Pass_ok {k : Nat} {u : Bool} (pre ps : List V27) (hs : ps.Pairwise (Fw u)) (hw : ∀ x, x ∈ ps → Wn x) (hl : pre.length + ps.length ≤ 900) (hk : ps.length + 2 < k) :
    ∃ S, poly_Hull.c2 k ps pre k 0 pre = some (pre ++ S) ∧ S.length ≤ ps.length ∧ ((ps = [] ∧ S = []) ∨ (Chn u (fun w => w ∈ ps) S ∧ gt S (S.length - 1) = gt ps (ps.length - 1))) := by
  have lp : len ps = (ps.length : Int) := rfl
  have lpre : len pre = (pre.length : Int) := rfl
  have key : ∀ (n v : Nat) (S : List V27), ps.length < v + n → v ≤ ps.length → S.length ≤ v → ((v = 0 ∧ S = []) ∨ (0 < v ∧ Chn u (fun w => w ∈ ps.take v) S ∧ gt S (S.length - 1) = gt ps (v - 1))) →
      ∃ S', poly_Hull.c2 k ps pre n (v : Int) (pre ++ S) = some (pre ++ S') ∧ S'.length ≤ ps.length ∧ ((ps = [] ∧ S' = []) ∨ (Chn u (fun w => w ∈ ps) S' ∧ gt S' (S'.length - 1) = gt ps (ps.length - 1))) := by
    intro n
    induction n with
    | zero => intro v S h1 h2; omega
    | succ n ih =>
      intro v S h1 h2 hSv hI
      rw [poly_Hull.c2]
      by_cases c : v < ps.length
      · have hpt : el Z27 ps (v : Int) = gt ps v := rfl
        have hwt : Wn (gt ps v) := hw _ (by rw [gt_get c]; exact List.getElem_mem c)
        rw [ilt_pos (by omega), bif_true, req_pos (inL_of (by omega) (by omega)), iadd_i64 (x := (v : Int)) (y := 1) (by omega) (by omega)]
        have hr : ∀ S' : List V27, S'.length ≤ v → room 16 (pre ++ S') [el Z27 ps (v : Int)] := fun S' h => by unfold room roomFor; rw [List.length_append, List.length_singleton]; omega
        have hv1 : ((v : Int) + 1) = ((v + 1 : Nat) : Int) := by omega
        rcases hI with ⟨rfl, rfl⟩ | ⟨v0, hC, hT⟩
        · have e3 : poly_Hull.c3 k ps pre ((0 : Nat) : Int) k (pre ++ []) = some (pre ++ []) := by
            obtain ⟨m, rfl⟩ : ∃ m, k = m + 1 := ⟨k - 1, by omega⟩
            rw [poly_Hull.c3]
            unfold poly_Hull.c4
            rw [iadd_i64 (x := len pre) (y := 2) (by omega) (by omega), List.append_nil, ige_neg (by omega), bif_false, bnd_some, bif_false]
          rw [e3, bnd_some, req_pos (hr _ (by simp)), hv1, List.append_assoc, hpt]
          refine ih 1 ([] ++ [gt ps 0]) (by omega) (by omega) (by simp) (.inr ⟨by omega, ?_, by simp [gt]⟩)
          refine (Chn_one u (gt ps 0)).mono fun w => ?_
          rw [mem_take_gt]
          constructor
          · intro h; exact ⟨0, by omega, c, h⟩
          · rintro ⟨i, i1, _, h⟩
            obtain rfl : i = 0 := by omega
            exact h
        · have hlt : ∀ w, w ∈ ps.take v → Fw u w (gt ps v) := by
            intro w hw
            obtain ⟨i, i1, i2, rfl⟩ := mem_take_gt.1 hw
            exact pw_gt hs i1 c
          have hP := Pend_of hC (by
            intro w hw
            obtain ⟨i, i1, i2, rfl⟩ := mem_take_gt.1 hw
            rw [hT]
            by_cases e : i = v - 1
            · rw [e]; exact .inl rfl
            · exact .inr (pw_gt hs (by omega) (by omega))) hlt
          obtain ⟨S', e, r1, r2, r3⟩ := Pop_ok (k := k) (fun w hw' => hw w (List.mem_of_mem_take hw')) pre ps hpt hwt k S hP (by omega) (by omega)
          rw [e, bnd_some, req_pos (hr _ (by omega)), hv1, List.append_assoc, hpt]
          refine ih (v + 1) (S' ++ [gt ps v]) (by omega) (by omega) (by rw [List.length_append, List.length_singleton]; omega) (.inr ⟨by omega, ?_, ?_⟩)
          · exact (push r1 r2).mono fun w => by rw [mem_take_succ c]
          · rw [List.length_append, List.length_singleton, Nat.add_sub_cancel, gt_right (Nat.le_refl _), Nat.sub_self, Nat.add_sub_cancel]
            rfl
      · obtain rfl : v = ps.length := by omega
        rw [ilt_neg (by omega), bif_false]
        refine ⟨S, rfl, hSv, ?_⟩
        rcases hI with ⟨h0, rfl⟩ | ⟨h0, hC, hT⟩
        · exact .inl ⟨List.eq_nil_of_length_eq_zero h0, rfl⟩
        · rw [List.take_length] at hC
          exact .inr ⟨hC, hT⟩
  obtain ⟨S, e, r⟩ := key k 0 [] (by omega) (by omega) (by simp) (.inl ⟨rfl, rfl⟩)
  rw [List.append_nil] at e
  exact ⟨S, e, r⟩
theorem gt_rev {l : List V27} {i : Nat} (h : i < l.length) : gt l.reverse i = gt l (l.length - 1 - i) := by
  unfold gt
  rw [List.getD_eq_getElem?_getD, List.getD_eq_getElem?_getD, List.getElem?_reverse h]
theorem nodup_sub {α : Type} [BEq α] [LawfulBEq α] : ∀ {H l : List α}, H.Nodup → (∀ x, x ∈ H → x ∈ l) → H.length ≤ l.length
  | [], _, _, _ => Nat.zero_le _
  | a :: H, l, hn, h => by
    rw [List.nodup_cons] at hn
    have ha := h a List.mem_cons_self
    have := nodup_sub (H := H) (l := l.erase a) hn.2 (fun x hx => by
      have hne : x ≠ a := fun e => by subst e; exact hn.1 hx
      rw [List.mem_erase_of_ne hne]
      exact h x (List.mem_cons_of_mem _ hx))
    rw [List.length_erase_of_mem ha] at this
    have := List.length_pos_of_mem ha
    rw [List.length_cons]
    omega
/-- All points on one line, between two of them. -/
def Flat (l : List V27) : Prop := l = [] ∨ ∃ a b, a ∈ l ∧ b ∈ l ∧ (a = b ∨ Fw true a b) ∧ ∀ x, x ∈ l → tri a b x = 0 ∧ Lq a x ∧ Lq x b
def HullOf (l H : List V27) : Prop := (∀ x, x ∈ H → x ∈ l) ∧ ((3 ≤ H.length ∧ H.length ≤ l.length ∧ EdgeP H ∧ LowP H 0 ∧ ∀ x, x ∈ l → InP H x) ∨ (H.length < 3 ∧ Flat l))
theorem Hull_ok {k : Nat} (hk : 1000 ≤ k) {l : List V27} (hl : len l ≤ 64) (hw : ∀ x, x ∈ l → Wn x) (hc : slices_Clone k l = some l) (hn : slices_ContainsFunc k l (fun x : (V27 × Unit) => poly_Hull_1 k (x.1)) = some false) :
    ∃ H, poly_Hull k l = some (if H.length < 3 then ([], 3) else if 8 < H.length then ([], 6) else (H, 0)) ∧ HullOf l H := by
  have ll : len l = (l.length : Int) := rfl
  obtain ⟨s, es, sp, ss⟩ := VSort_ok (k := k) (l := l) (by omega) hw
  have sl := sp.length_eq
  obtain ⟨p, ep, pp, pm⟩ := Compact_ok (k := k) ss (by omega) (by omega)
  have pm : ∀ x, x ∈ p ↔ x ∈ l := fun x => (pm x).trans sp.mem_iff
  have pn : p.Nodup := pp.imp fun {a b} h e => by subst e; exact Fw_irr _ _ h
  letI : BEq V27 := instBEqOfDecidableEq
  have pl : p.length ≤ l.length := nodup_sub pn fun x hx => (pm x).1 hx
  have pw : ∀ x, x ∈ p → Wn x := fun x hx => hw x ((pm x).1 hx)
  have rp : p.reverse.Pairwise (Fw false) := by
    rw [List.pairwise_reverse]
    exact pp.imp fun h => Fw_not h
  obtain ⟨A, eA, lA, hA⟩ := Pass_ok (k := k) [] p pp pw (by simp; omega) (by omega)
  rw [List.nil_append] at eA
  have lA' : len A = (A.length : Int) := rfl
  have tA : imax (isub .i64 (len A) 1) 0 = ((A.length - 1 : Nat) : Int) := by rw [isub_i64 (by omega) (by omega)]; unfold imax; omega
  have eT : ∀ X : List V27, ∀ m : Nat, tk X (m : Int) = X.take m := fun _ _ => rfl
  obtain ⟨B, eB, lB, hB⟩ := Pass_ok (k := k) (A.take (A.length - 1)) p.reverse rp (fun x hx => pw x (List.mem_reverse.1 hx)) (by rw [List.length_take, List.length_reverse]; omega) (by rw [List.length_reverse]; omega)
  rw [List.length_reverse] at lB
  have ltA : (A.take (A.length - 1)).length = A.length - 1 := by rw [List.length_take]; omega
  have lX : len (A.take (A.length - 1) ++ B) = ((A.length - 1 + B.length : Nat) : Int) := by unfold len; rw [List.length_append, ltA]
  have tB : imax (isub .i64 (len (A.take (A.length - 1) ++ B)) 1) 0 = ((A.length - 1 + B.length - 1 : Nat) : Int) := by rw [isub_i64 (by omega) (by omega)]; unfold imax; omega
  have hBp : p = [] → B = [] := fun h => by
    rcases hB with ⟨_, h2⟩ | ⟨h2, _⟩
    · exact h2
    · subst h
      have := h2.mem 0 h2.ne
      cases this
  have hAp : p = [] → A = [] := fun h => by
    rcases hA with ⟨_, h2⟩ | ⟨h2, _⟩
    · exact h2
    · subst h
      have := h2.mem 0 h2.ne
      cases this
  have hX : (A.take (A.length - 1) ++ B).take (A.length - 1 + B.length - 1) = A.take (A.length - 1) ++ B.take (B.length - 1) := by
    by_cases b0 : B.length = 0
    · obtain rfl := List.eq_nil_of_length_eq_zero b0
      have : p = [] := by
        rcases hB with ⟨h2, _⟩ | ⟨h2, _⟩
        · exact List.reverse_eq_nil_iff.1 h2
        · exact absurd h2.ne (by simp)
      rw [hAp this]
      rfl
    · rw [List.take_append, ltA, List.take_of_length_le (by omega), (show A.length - 1 + B.length - 1 - (A.length - 1) = B.length - 1 by omega)]
  have e1 : poly_Hull.c1 k k 0 p [] = some (A.take (A.length - 1) ++ B.take (B.length - 1)) := by
    obtain ⟨m, rfl⟩ : ∃ m, k = m + 3 := ⟨k - 3, by omega⟩
    rw [poly_Hull.c1, ilt_pos (by omega), bif_true, eA, bnd_some, tA, req_pos (show tkOk A ((A.length - 1 : Nat) : Int) from ⟨by omega, by omega⟩), VReverse_ok p (by omega) (by omega), bnd_some, eT, iadd_i64 (x := 0) (y := 1) (by omega) (by omega),
      poly_Hull.c1, ilt_pos (by omega), bif_true, eB, bnd_some, tB, req_pos (show tkOk (A.take (A.length - 1) ++ B) ((A.length - 1 + B.length - 1 : Nat) : Int) from ⟨by omega, by rw [List.length_append, ltA]; omega⟩), VReverse_ok p.reverse (by rw [List.length_reverse]; omega) (by rw [List.length_reverse]; omega), bnd_some, eT, hX, iadd_i64 (x := 0 + 1) (y := 1) (by omega) (by omega),
      poly_Hull.c1, ilt_neg (by omega), bif_false]
  refine ⟨A.take (A.length - 1) ++ B.take (B.length - 1), ?_, ?_⟩
  · have lH : ∀ H : List V27, len H = (H.length : Int) := fun _ => rfl
    unfold poly_Hull
    rw [igt_neg (by omega), bif_false, hn, bnd_some, bif_false, hc, bnd_some, es, bnd_some, ep, bnd_some, e1, bnd_some, lH]
    generalize A.take (A.length - 1) ++ B.take (B.length - 1) = H
    by_cases c : H.length < 3
    · rw [ilt_pos (by omega), bif_true, if_pos c]
    · rw [ilt_neg (by omega), bif_false, if_neg c]
      by_cases d : 8 < H.length
      · rw [igt_pos (by omega), bif_true, if_pos d]
      · rw [igt_neg (by omega), bif_false, if_neg d]
  · by_cases p0 : p = []
    · have l0 : l = [] := by
        rcases l with _ | ⟨a, l⟩
        · rfl
        · have := (pm a).2 List.mem_cons_self
          rw [p0] at this
          cases this
      rw [hAp p0, hBp p0]
      exact ⟨fun x hx => by simp at hx, .inr ⟨by simp, .inl l0⟩⟩
    have hA := hA.resolve_left (fun h => p0 h.1)
    have hB := hB.resolve_left (fun h => p0 (List.reverse_eq_nil_iff.1 h.1))
    obtain ⟨cA, topA⟩ := hA
    obtain ⟨cB, topB⟩ := hB
    have p1 : 0 < p.length := List.length_pos_iff.2 p0
    have cB : Chn false (fun w => w ∈ p) B := cB.mono fun w => List.mem_reverse
    obtain ⟨m, hm⟩ : ∃ m, A.length = m + 1 := ⟨A.length - 1, by have := cA.ne; omega⟩
    obtain ⟨n, hn'⟩ : ∃ n, B.length = n + 1 := ⟨B.length - 1, by have := cB.ne; omega⟩
    rw [List.length_reverse, gt_rev (by omega), (show p.length - 1 - (p.length - 1) = 0 by omega)] at topB
    rw [hm, Nat.add_sub_cancel] at topA
    rw [hn', Nat.add_sub_cancel] at topB
    have mem : ∀ i, i < p.length → gt p i ∈ p := fun i hi => by rw [gt_get hi]; exact List.getElem_mem hi
    have mfirst : ∀ w, w ∈ p → w = gt p 0 ∨ Fw true (gt p 0) w := by
      intro w hw
      obtain ⟨i, hi, rfl⟩ := List.mem_iff_getElem.1 hw
      rw [← gt_get hi]
      by_cases e : i = 0
      · rw [e]; exact .inl rfl
      · exact .inr (pw_gt pp (by omega) hi)
    have mlast : ∀ w, w ∈ p → w = gt p (p.length - 1) ∨ Fw true w (gt p (p.length - 1)) := by
      intro w hw
      obtain ⟨i, hi, rfl⟩ := List.mem_iff_getElem.1 hw
      rw [← gt_get hi]
      by_cases e : i = p.length - 1
      · rw [e]; exact .inl rfl
      · exact .inr (pw_gt pp (by omega) (by omega))
    have a0 : gt A 0 = gt p 0 := by
      rcases cA.lo _ (mem 0 p1) with e | e
      · exact e.symm
      · rcases mfirst _ (cA.mem 0 (by omega)) with f | f
        · exact f
        · exact absurd (Fw_tr e f) (Fw_irr _ _)
    have b0 : gt B 0 = gt p (p.length - 1) := by
      rcases cB.lo _ (mem (p.length - 1) (by omega)) with e | e
      · exact e.symm
      · rcases mlast _ (cB.mem 0 (by omega)) with f | f
        · exact f
        · exact absurd (Fw_tr e (Fw_not f)) (Fw_irr _ _)
    rw [hm, hn', Nat.add_sub_cancel, Nat.add_sub_cancel]
    have lm : (A.take m).length = m := by rw [List.length_take]; omega
    have ln : (B.take n).length = n := by rw [List.length_take]; omega
    refine ⟨?_, ?_⟩
    · intro x hx
      rw [List.mem_append] at hx
      rcases hx with hx | hx
      · obtain ⟨i, i1, i2, rfl⟩ := mem_take_gt.1 hx
        exact (pm _).1 (cA.mem i i2)
      · obtain ⟨i, i1, i2, rfl⟩ := mem_take_gt.1 hx
        exact (pm _).1 (cB.mem i i2)
    · have lmn : (A.take m ++ B.take n).length = m + n := by rw [List.length_append, lm, ln]
      -- one point alone
      by_cases pone : p.length = 1
      · have all : ∀ w, w ∈ p → w = gt p 0 := by
          intro w hw
          obtain ⟨i, hi, rfl⟩ := List.mem_iff_getElem.1 hw
          rw [← gt_get hi, (show i = 0 by omega)]
        have m0 : m = 0 := by omega
        have n0 : n = 0 := by omega
        rw [lmn]
        refine .inr ⟨by omega, .inr ⟨gt p 0, gt p 0, (pm _).1 (mem 0 p1), (pm _).1 (mem 0 p1), .inl rfl, fun x hx => ?_⟩⟩
        rw [all x ((pm x).2 hx)]
        exact ⟨tri_self _ _, .inl rfl, .inl rfl⟩
      have ends : Fw true (gt p 0) (gt p (p.length - 1)) := pw_gt pp (by omega) (by omega)
      have m1 : 1 ≤ m := by
        rcases Nat.eq_zero_or_pos m with h | h
        · subst h
          rw [a0] at topA
          rw [topA] at ends
          exact absurd ends (Fw_irr _ _)
        · exact h
      have n1 : 1 ≤ n := by
        rcases Nat.eq_zero_or_pos n with h | h
        · subst h
          rw [b0] at topB
          rw [topB] at ends
          exact absurd ends (Fw_irr _ _)
        · exact h
      by_cases h3 : 3 ≤ m + n
      · obtain ⟨r1, r2, r3⟩ := chains_edge cA cB hm hn' (topA.trans b0.symm) (topB.trans a0.symm) h3 m1 n1
        refine .inl ⟨by omega, ?_, r1, r2, fun x hx => r3 x ((pm x).2 hx)⟩
        have hnd : (A.take m ++ B.take n).Nodup := by
          rw [List.Nodup, List.pairwise_iff_getElem]
          intro i j hi hj hij e
          have lH : len (A.take m ++ B.take n) = ((A.take m ++ B.take n).length : Int) := rfl
          refine EdgeP_ne r1 (by omega) (i := (i : Int)) (j := (j : Int)) (by omega) (by omega) (by omega) (by omega) (by omega) ?_
          show gt _ j = gt _ i
          rw [gt_get hi, gt_get hj]
          exact e.symm
        exact nodup_sub hnd fun x hx => by
          rw [List.mem_append] at hx
          rcases hx with hx | hx
          · obtain ⟨i, i1, i2, rfl⟩ := mem_take_gt.1 hx
            exact (pm _).1 (cA.mem i i2)
          · obtain ⟨i, i1, i2, rfl⟩ := mem_take_gt.1 hx
            exact (pm _).1 (cB.mem i i2)
      · obtain rfl : m = 1 := by omega
        obtain rfl : n = 1 := by omega
        rw [lmn]
        refine .inr ⟨by omega, .inr ⟨gt p 0, gt p (p.length - 1), (pm _).1 (mem 0 p1), (pm _).1 (mem _ (by omega)), .inr ends, fun x hx => ?_⟩⟩
        have hx := (pm x).2 hx
        have t1 := cA.nn 0 (by omega) x hx
        have t2 := cB.nn 0 (by omega) x hx
        rw [Nat.zero_add, a0, topA] at t1
        rw [Nat.zero_add, b0, topB, tri_swap] at t2
        refine ⟨by omega, ?_, ?_⟩
        · rcases mfirst x hx with e | e
          · exact .inl e.symm
          · exact .inr e
        · rcases mlast x hx with e | e
          · exact .inl e
          · exact .inr e
end Go.Proofs.T1
