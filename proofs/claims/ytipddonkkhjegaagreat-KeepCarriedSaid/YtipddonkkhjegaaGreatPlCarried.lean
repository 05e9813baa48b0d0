/-
  Plain laws: no program in sight.
-/
import Derived.Test.YtipddonkkhjegaaGreatPlOrder
namespace Go.Proofs.T1
open Go Go.Sx Go.Sort

/-! slices.DeleteFunc -/
/-! Sorts -/
/-! Boxes -/
/-! The pairs -/
/-- Strictly increasing lists with the same members are the same. -/
theorem sorted_eq : ∀ {r s : List (List Int)}, r.Pairwise (fun p q => plt p q = true) → s.Pairwise (fun p q => plt p q = true) → (∀ p, p ∈ r ↔ p ∈ s) → r = s
  | [], [], _, _, _ => rfl
  | [], b :: s, _, _, h => absurd ((h b).2 List.mem_cons_self) (by simp)
  | a :: r, [], _, _, h => absurd ((h a).1 List.mem_cons_self) (by simp)
  | a :: r, b :: s, hr, hs, h => by
    rw [List.pairwise_cons] at hr hs
    have hab : a = b := by
      rcases List.mem_cons.1 ((h a).1 List.mem_cons_self) with e | e
      · exact e
      · rcases List.mem_cons.1 ((h b).2 List.mem_cons_self) with e' | e'
        · exact e'.symm
        · have := plt_tr (hs.1 a e) (hr.1 b e')
          rw [plt_irr] at this
          cases this
    subst hab
    congr 1
    refine sorted_eq hr.2 hs.2 fun p => ⟨fun hp => ?_, fun hp => ?_⟩
    · rcases List.mem_cons.1 ((h p).1 (List.mem_cons_of_mem _ hp)) with e | e
      · subst e
        have := hr.1 p hp
        rw [plt_irr] at this
        cases this
      · exact e
    · rcases List.mem_cons.1 ((h p).2 (List.mem_cons_of_mem _ hp)) with e | e
      · subst e
        have := hs.1 p hp
        rw [plt_irr] at this
        cases this
      · exact e
theorem PairsOf_eq {l : List V74} {r s : List (List Int)} (h1 : PairsOf l r) (h2 : PairsOf l s) : r = s :=
  sorted_eq h1.1 h2.1 fun p => (h1.2 p).trans (h2.2 p).symm
end Go.Proofs.T1
namespace Go.Proofs.T1
open Go Go.Sx Go.Sort

/-! Boxes made from numbers; joins -/
theorem eqbs_self {α : Type} (f : α → α → Bool) (h : ∀ x, f x x = true) : ∀ l : List α, eqbs f l l = true
  | [] => rfl
  | x :: l => by
    show (f x x && eqbs f l l) = true
    rw [h x, eqbs_self f h l]
    rfl
theorem eqbA_self (l : List Int) : Ty.eqb (.arr 2 T2) l l = true := eqbs_self (fun x y : Int => ieq x y) (fun _ => ieq_pos rfl) l
end Go.Proofs.T1
namespace Go.Proofs.T1
open Go Go.Sx

/-! SolveSays -/
theorem eqb201 (x : V39) : Ty.eqb T39 x x = true := by
  have h : ∀ a : Int, ieq a a = true := fun a => ieq_pos rfl
  show (ieq x.1 x.1 && (ieq x.2.1 x.2.1 && (ieq x.2.2.1 x.2.2.1 && (Ty.eqb T26 x.2.2.2.1 x.2.2.2.1 && (Ty.eqb T26 x.2.2.2.2.1 x.2.2.2.2.1 && (ieq x.2.2.2.2.2.1 x.2.2.2.2.2.1 && (ieq x.2.2.2.2.2.2.1 x.2.2.2.2.2.2.1 && (ieq x.2.2.2.2.2.2.2.1 x.2.2.2.2.2.2.2.1 && true)))))))) = true
  simp only [h, eqb24_self, Bool.and_true]
theorem sameC {k : Nat} (hk : 5000 ≤ k) {l : List V39} (hl : len l ≤ 4096) : slices_Equal k l l = some true := by
  have H : ∀ (n : Nat) (i : Int), 0 ≤ i → len l - i < (n : Int) → 0 < n → slices_Equal.c1 k l l n i = some (.inr ()) := by
    intro n
    induction n with
    | zero => intro i _ _ h; omega
    | succ n ih =>
      intro i i0 i1 _
      rw [slices_Equal.c1]
      by_cases c : i < len l
      · rw [ilt_pos c, bT, rP (inL_of i0 c), rP (inL_of i0 c)]
        refine (congrArg (fun b => bif' b _ _) (eqb201 (el Z39 l i))).trans ?_
        rw [bT, iadd_i64 (by omega) (by omega)]
        exact ih (i + 1) (by omega) (by omega) (by omega)
      · rw [ilt_neg (by omega), bF]
  unfold slices_Equal
  rw [ine_neg rfl, bF, H k 0 (by omega) (by omega) (by omega), bS, two_inr]
end Go.Proofs.T1
namespace Go.Proofs.T1
open Go Go.Sx

/-! KeepCarried -/
def KB1 : V57 := ((0, 0, ()), (0, 0, ()), 0, 0, 0, 0, 0, 0, [(-65536, -65536, ()), (65536, -65536, ()), (65536, 65536, ()), (-65536, 65536, ())], false, 0, ())
def KB2 : V57 := ((0, 131072, ()), (0, 0, ()), 0, 0, 65536, 65536, 0, 0, [(-65536, -65536, ()), (65536, -65536, ()), (65536, 65536, ()), (-65536, 65536, ())], false, 0, ())
def KX1 : V74 := ((-65536, -65536, ()), (65536, 65536, ()), ())
def KX2 : V74 := ((-65536, 65536, ()), (65536, 196608, ()), ())
theorem kb1 : tourkeep2_block 10000 0 0 1 false = some KB1 := by kernel_rfl
theorem kb2 : tourkeep2_block 10000 0 2 1 true = some KB2 := by kernel_rfl
theorem kc1 : keep_Check 10000 [KB1, KB2] = some 0 := by kernel_rfl
theorem kx1 : keep_Pairs.c1 10000 [KB1, KB2] 10000 0 [] = some [KX1, KX2] := by kernel_rfl
theorem kd1 : slices_DeleteFunc_34 10000 (fun x : ((List Int) × Unit) => keep_Pairs_1 10000 (x.1) [KB1, KB2]) [[0, 1]] = some [[0, 1]] := by kernel_rfl
theorem kp1 : keep_Pairs 10000 [KB1, KB2] = some ([[0, 1]], 0) := by
  obtain ⟨K, hK⟩ : ∃ K, K = 10000 := ⟨10000, rfl⟩
  obtain ⟨r, e, hr, _⟩ := Pairs_ok (k := K) [KX1, KX2] (by simp; omega) (by simp)
  have hm : mbx KX1 KX2 := by decide
  have h2 : PairsOf [KX1, KX2] [[0, 1]] := by
    refine ⟨by simp, fun p => ?_⟩
    rw [List.mem_singleton]
    constructor
    · intro h
      exact ⟨0, 1, by decide, by decide, by decide, hm, h⟩
    · rintro ⟨a, b, h0, h1, h2, _, h⟩
      have h2 : b < 2 := h2
      obtain rfl : a = 0 := by omega
      obtain rfl : b = 1 := by omega
      exact h
  rw [PairsOf_eq hr h2, hK] at e
  unfold keep_Pairs
  rw [kc1, bS, ine_neg rfl, bF, kx1, bS, e, bS, kd1, bS]
theorem kf1 : (bnd (bnd (keep_Find.c1 10000 [KB1, KB2] ([[0, 1]], 0) 10000 0 []) fun o23 => bnd (keep_Carry 10000 [] o23) fun y25 => some (y25, (0 : Int))) fun y5 =>
    bif' (ieq y5.2 0) (bif' (ieq (len y5.1) 2) (req (inL 0 y5.1) <| req (inL 1 y5.1) <| bnd (keep_Order 10000 (el Z39 y5.1 0) (el Z39 y5.1 1)) fun y11 => some (ieq y11 (-1))) (some false)) (some false)) = some true := by kernel_rfl
theorem finds_10000 : tourkeep2_finds 10000 = some true := by
  have eF : keep_Find 10000 [KB1, KB2] [] = bnd (keep_Find.c1 10000 [KB1, KB2] ([[0, 1]], 0) 10000 0 []) fun o23 => bnd (keep_Carry 10000 [] o23) fun y25 => some (y25, 0) := by
    unfold keep_Find
    rw [kp1, bS]
    dsimp only
    rw [ine_neg rfl, bF]
  unfold tourkeep2_finds
  rw [kb1, bS, kb2, bS, eF]
  exact kf1
theorem PIndex_ok {k : Nat} {l : List (List Int)} {x : List Int} (hk : l.length < k) (hl : l.length ≤ 100000) (hx : x ∈ l) : slices_Contains k l x = some true := by
  have ll : len l = (l.length : Int) := rfl
  have H := find_loop (fun n v => slices_Index.c1 k l x n v) 0 (len l) (fun v => Ty.eqb (.arr 2 T2) x (el (List.replicate 2 (0 : Int)) l v) = true) (fun v => v)
    (by
      intro n v a b c
      show slices_Index.c1 k l x (n + 1) v = _
      rw [slices_Index.c1, ilt_pos b, bT, rP (inL_of a b), c, bT])
    (by
      intro n v a b c
      show slices_Index.c1 k l x (n + 1) v = slices_Index.c1 k l x n (v + 1)
      rw [slices_Index.c1, ilt_pos b, bT, rP (inL_of a b), iadd_i64 (by omega) (by omega), Bool.eq_false_iff.2 c, bF])
    (by
      intro n v a b
      show slices_Index.c1 k l x (n + 1) v = _
      rw [slices_Index.c1, ilt_neg b, bF])
    k 0 (by omega) (by omega)
  unfold slices_Contains slices_Index
  rcases H with ⟨j, a, b, c, _, e⟩ | ⟨a, e⟩
  · have e : slices_Index.c1 k l x k 0 = some (.inl j) := e
    rw [e, bS, two_inl, bS, ige_pos (by omega)]
  · obtain ⟨i, hi, rfl⟩ := List.mem_iff_getElem.1 hx
    exact absurd ((congrArg (fun z => Ty.eqb (.arr 2 T2) l[i] z) (el_get (List.replicate 2 (0 : Int)) l hi)).trans (eqbA_self _)) (a i (by omega) (by omega))
def mkp (y v : Int) (c : V39) : V39 := (c.1, c.2.1, c.2.2.1, c.2.2.2.1, c.2.2.2.2.1, c.2.2.2.2.2.1, iadd .i64 y v, ineg .i64 v, ())
theorem Carried_loop {k : Nat} (hk : 10000 ≤ k) {ps : List (List Int)} {C : List V39} {nb : Int} (hF : Fnd nb ps C) (hC : C.length ≤ 50) (lp : ps.length ≤ 5000) {push y : Int} (hy : tourmake_Below k push 1000 = some y) :
    ∃ old, tourkeep2_KeepCarried.c2 k push (ps, 0) C k 0 C = some (.inr old) ∧ len old = len C ∧ ∀ j, 0 ≤ j → j < len C → el Z39 old j = mkp y j (el Z39 C j) := by
  have lC : len C = (C.length : Int) := rfl
  have ord : ∀ i j, 0 ≤ i → i < j → j < len C → clt (el Z39 C i) (el Z39 C j) := by
    intro i j i0 ij j1
    obtain ⟨i, rfl⟩ := Int.eq_ofNat_of_zero_le i0
    obtain ⟨j, rfl⟩ := Int.eq_ofNat_of_zero_le (show 0 ≤ j by omega)
    rw [el_get Z39 C (show i < C.length by omega), el_get Z39 C (show j < C.length by omega)]
    exact List.pairwise_iff_getElem.1 hF.ord i j (by omega) (by omega) (by omega)
  have key : ∀ (n : Nat) (v : Int) (cur : List V39), 0 ≤ v → v ≤ len C → len C - v < (n : Int) → len cur = len C → (∀ j, 0 ≤ j → j < len C → el Z39 cur j = if j < v then mkp y j (el Z39 C j) else el Z39 C j) →
      ∃ old, tourkeep2_KeepCarried.c2 k push (ps, 0) C n v cur = some (.inr old) ∧ len old = len C ∧ ∀ j, 0 ≤ j → j < len C → el Z39 old j = mkp y j (el Z39 C j) := by
    intro n
    induction n with
    | zero => intro v cur a b c; omega
    | succ n ih =>
      intro v cur a b c lc hcur
      rw [tourkeep2_KeepCarried.c2]
      by_cases h : v < len C
      · have e1 : ∀ X, el Z39 (st cur v X) v = X := fun X => el_st Z39 cur a (by omega) X
        have l1 : ∀ X, len (st cur v X) = len C := fun X => (len_set _ _ _).trans lc
        have s2 : ∀ X Y : V39, st (st cur v X) v Y = st cur v Y := fun X Y => st_st _ _ _ _
        have hcv : el Z39 cur v = el Z39 C v := by rw [hcur v a h, if_neg (by omega)]
        have hmem : el Z39 C v ∈ C := el_in Z39 C a h
        have hcon : slices_Contains k ps [(el Z39 C v).1, (el Z39 C v).2.1] = some true := PIndex_ok (by omega) (by omega) (hF.prs _ hmem)
        have c3 : tourkeep2_KeepCarried.c3 k v cur (ps, 0) y = some false := by
          unfold tourkeep2_KeepCarried.c3
          simp only [e1, s2, hcv]
          by_cases g : 0 < v
          · have hprev : ∀ X, el Z39 (st cur v X) (isub .i64 v 1) = mkp y (v - 1) (el Z39 C (v - 1)) := by
              intro X
              rw [isub_i64 (by omega) (by omega), el_set Z39 cur X a (by omega) (by omega), if_neg (by omega), hcur (v - 1) (by omega) (by omega), if_pos (by omega)]
            have ho := ord (v - 1) v (by omega) (by omega) h
            rw [igt_pos g, bT, rP (show inL (isub .i64 v 1) _ from by rw [isub_i64 (by omega) (by omega)]; exact inL_of (by omega) (by rw [l1]; omega)), rP (inL_of a (by rw [l1]; exact h)), hprev, KOrder_eq (by omega), bS]
            have ho' : ordV (mkp y (v - 1) (el Z39 C (v - 1))) ((el Z39 C v).1, (el Z39 C v).2.1, (el Z39 C v).2.2.1, (el Z39 C v).2.2.2.1, (el Z39 C v).2.2.2.2.1, (el Z39 C v).2.2.2.2.2.1, iadd .i64 y v, ineg .i64 v, ()) = -1 := ordV_lt ho
            rw [ho', ine_neg rfl, bF, hcon, bS]
            rfl
          · rw [igt_neg (by omega), bF]
            first
              | (rw [rP (inL_of a (by rw [l1]; exact h)), hcon, bS]; rfl)
              | (rw [hcon, bS]; rfl)
        rw [ilt_pos h, bT, hy, bS, rP (inL_of a (by omega)), rP (inL_of a (by rw [l1]; exact h)), c3, bS, bF, iadd_i64 (x := v) (y := 1) (by omega) (by omega)]
        simp only [e1, s2, hcv]
        refine ih (v + 1) _ (by omega) (by omega) (by omega) (l1 _) fun j j0 j1 => ?_
        rw [el_set Z39 cur _ a (by omega) j0]
        by_cases e : j = v
        · rw [if_pos e, if_pos (by omega), e]
          rfl
        · rw [if_neg e, hcur j j0 j1]
          by_cases g : j < v
          · rw [if_pos g, if_pos (by omega)]
          · rw [if_neg g, if_neg (by omega)]
      · rw [ilt_neg (by omega), bF]
        exact ⟨cur, rfl, lc, fun j j0 j1 => by rw [hcur j j0 j1, if_pos (by omega)]⟩
  exact key k 0 C (by omega) (by omega) (by omega) rfl (fun j j0 j1 => by rw [if_neg (by omega)])
theorem KeepCarried_plain {k : Nat} (hk : k = 10000) (raw : List Int) (push : Int) : tourkeep2_KeepCarried k raw push = some true := by
  obtain ⟨B, J, g, step, e, hM, lB, _, s0, s1⟩ := scene_mades (k := k) (by omega) raw
  have hA := AllM_K (k := k) (by omega) hM
  have hP := AllM_P (k := k) (by omega) hM
  obtain ⟨ps, C, eP, hps, eC, eF, hF, lC⟩ := Find_nil (k := k) (by omega) hA hP lB
  obtain ⟨y, ey, _, _⟩ := Below_eq k push (n := 1000) (by decide) (by decide)
  have hfin : tourkeep2_finds k = some true := by rw [hk]; exact finds_10000
  have lCi : len C = (C.length : Int) := rfl
  have lpp : ps.length ≤ 5000 := by
    obtain ⟨ps', e', _, l'⟩ := KPairs_ok (k := k) (by omega) hA hP (by omega)
    rw [eP] at e'
    have e' := (Prod.mk.inj (Option.some.inj e')).1
    subst e'
    have lBi : len B = (B.length : Int) := rfl
    have := Nat.mul_le_mul (show B.length ≤ 5 by omega) (show B.length ≤ 5 by omega)
    omega
  obtain ⟨old, eL, lo, ho⟩ := Carried_loop (k := k) (by omega) hF lC lpp ey
  have like : ∀ j, 0 ≤ j → j < len C → Like (el Z39 old j) (el Z39 C j) := fun j j0 j1 => by
    rw [ho j j0 j1]
    exact ⟨rfl, rfl, rfl, rfl, rfl, rfl⟩
  have ord : ∀ i j, 0 ≤ i → i < j → j < len C → clt (el Z39 C i) (el Z39 C j) := by
    intro i j i0 ij j1
    obtain ⟨i, rfl⟩ := Int.eq_ofNat_of_zero_le i0
    obtain ⟨j, rfl⟩ := Int.eq_ofNat_of_zero_le (show 0 ≤ j by omega)
    rw [el_get Z39 C (show i < C.length by omega), el_get Z39 C (show j < C.length by omega)]
    exact List.pairwise_iff_getElem.1 hF.ord i j (by omega) (by omega) (by omega)
  have eCar := Carry_same (k := k) (by omega) lo (by omega) like ord
  have eF2 : keep_Find k B old = some (old, 0) := by
    unfold keep_Find
    rw [eP, bS]
    dsimp only
    rw [ine_neg rfl, bF, eC, bS, eCar, bS]
  have cl : slices_Clone k C = some C := by
    unfold slices_Clone
    exact rP (show room0 80 C by unfold room0 roomFor; omega) _
  unfold tourkeep2_KeepCarried
  rw [e, bS]
  dsimp only
  rw [eF, bS, eP, bS]
  unfold tourkeep2_KeepCarried.c1
  dsimp only
  rw [hfin, bS, bT, ine_neg rfl, bF, bS, bF, cl, bS, eL, bS, two_inr, eF2, bS]
  dsimp only
  rw [ieq_pos rfl, bT, sameC (by omega) (by omega), bS, bT, eCar, bS, sameC (by omega) (by omega), bS]
theorem tourkeep2_KeepCarried_plain : ∀ x : (Ty.pair T22 (.pair T2 .unit)).den, Ty.wf (.pair T22 (.pair T2 .unit)) x → ∃ k, (tourkeep2_KeepCarried.sp k).f x = some true := by
  intro x _
  obtain ⟨K, hK⟩ : ∃ K, K = 10000 := ⟨10000, rfl⟩
  exact ⟨K, KeepCarried_plain hK x.1 x.2.1⟩
end Go.Proofs.T1
