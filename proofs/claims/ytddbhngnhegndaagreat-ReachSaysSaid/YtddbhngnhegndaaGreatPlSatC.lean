import Derived.Test.YtddbhngnhegndaaGreatPlSat0
import Derived.Test.YtddbhngnhegndaaGreatPlBig
namespace Go.Proofs.T1
open Go Go.Sx
theorem eqb24 (a b : V22) : Ty.eqb T22 a b = decide (a = b) := by
  obtain ⟨a1,a2,u⟩ := a
  obtain ⟨b1,b2,u'⟩ := b
  show (ieq a1 b1 && (ieq a2 b2 && true)) = _
  by_cases h1 : a1 = b1
  · by_cases h2 : a2 = b2
    · rw [ieq_pos h1,ieq_pos h2]; subst h1 h2; exact (decide_eq_true rfl).symm
    · rw [ieq_pos h1,ieq_neg h2]; exact (decide_eq_false (fun h => h2 (congrArg (fun v => v.2.1) h))).symm
  · rw [ieq_neg h1]; exact (decide_eq_false (fun h => h1 (congrArg Prod.fst h))).symm
end Go.Proofs.T1
namespace Go.Proofs.T1
open Go Go.Sx
instance (x y : Int) : Decidable (Opp x y) := by unfold Opp; infer_instance
instance (a b p : V22) : Decidable (Box a b p) := by unfold Box; infer_instance
instance (a b p : V22) : Decidable (On a b p) := by unfold On; infer_instance
instance (a b c d : V22) : Decidable (CrP a b c d) := by unfold CrP; infer_instance
theorem opp_dec (x y : Int) : ilt (imul .i64 (cmpI x 0) (cmpI y 0)) 0 = decide (Opp x y) := by
  rcases Int.lt_trichotomy x 0 with a | a | a <;> rcases Int.lt_trichotomy y 0 with b | b | b <;>
    first
    | (rw [cmpI_lt a,cmpI_lt b,decide_eq_false (by unfold Opp; omega)]; decide)
    | (rw [cmpI_lt a,cmpI_eq b,decide_eq_false (by unfold Opp; omega)]; decide)
    | (rw [cmpI_lt a,cmpI_gt b,decide_eq_true (by unfold Opp; omega)]; decide)
    | (rw [cmpI_eq a,cmpI_lt b,decide_eq_false (by unfold Opp; omega)]; decide)
    | (rw [cmpI_eq a,cmpI_eq b,decide_eq_false (by unfold Opp; omega)]; decide)
    | (rw [cmpI_eq a,cmpI_gt b,decide_eq_false (by unfold Opp; omega)]; decide)
    | (rw [cmpI_gt a,cmpI_lt b,decide_eq_true (by unfold Opp; omega)]; decide)
    | (rw [cmpI_gt a,cmpI_eq b,decide_eq_false (by unfold Opp; omega)]; decide)
    | (rw [cmpI_gt a,cmpI_gt b,decide_eq_false (by unfold Opp; omega)]; decide)
theorem cmpI_zero (x : Int) : cmpI x 0 = 0 ↔ x = 0 := by
  rcases Int.lt_trichotomy x 0 with a | a | a
  · rw [cmpI_lt a]; omega
  · rw [cmpI_eq a]; omega
  · rw [cmpI_gt a]; omega
theorem cmpI_nn (x : Int) : ige (cmpI x 0) 0 = decide (0 ≤ x) := by
  rcases Int.lt_trichotomy x 0 with a | a | a
  · rw [cmpI_lt a,decide_eq_false (by omega)]; rfl
  · rw [cmpI_eq a,decide_eq_true (by omega)]; rfl
  · rw [cmpI_gt a,decide_eq_true (by omega)]; rfl
theorem cross1_eq (k : Nat) (a b p : V22) : r2_cross_1 k a b p (cmpI (tri a b p) 0) = some (decide (On a b p)) := by
  unfold r2_cross_1
  by_cases z : tri a b p = 0
  · rw [ieq_pos ((cmpI_zero _).2 z),bif_true]
    by_cases c1 : imin a.1 b.1 ≤ p.1
    · rw [ile_pos c1,bif_true]
      by_cases c2 : p.1 ≤ imax a.1 b.1
      · rw [ile_pos c2,bif_true]
        by_cases c3 : imin a.2.1 b.2.1 ≤ p.2.1
        · rw [ile_pos c3,bif_true]
          unfold ile
          congr 1
          rw [decide_eq_decide]
          exact ⟨fun h => ⟨z,c1,c2,c3,h⟩,fun h => h.2.2.2.2⟩
        · rw [ile_neg (by omega),bif_false,decide_eq_false (fun h => c3 h.2.2.2.1)]
      · rw [ile_neg (by omega),bif_false,decide_eq_false (fun h => c2 h.2.2.1)]
    · rw [ile_neg (by omega),bif_false,decide_eq_false (fun h => c1 h.2.1)]
  · rw [ieq_neg (fun h => z ((cmpI_zero _).1 h)),bif_false,decide_eq_false (fun h => z h.1)]
theorem cross_eq {k : Nat} (hk : 9 ≤ k) {a b c d : V22} (ha : Wn a) (hb : Wn b) (hc : Wn c) (hd : Wn d) : r2_cross k a b c d = some (decide (CrP a b c d)) := by
  unfold r2_cross
  rw [left_eq hk ha hb hc,bnd_some,left_eq hk ha hb hd,bnd_some,left_eq hk hc hd ha,bnd_some,left_eq hk hc hd hb,bnd_some]
  have c1 : r2_cross.c1 k (cmpI (tri a b c) 0) (cmpI (tri a b d) 0) (cmpI (tri c d a) 0) (cmpI (tri c d b) 0) = some (decide (Opp (tri a b c) (tri a b d) ∧ Opp (tri c d a) (tri c d b))) := by
    unfold r2_cross.c1
    rw [opp_dec,opp_dec]
    by_cases h : Opp (tri a b c) (tri a b d)
    · rw [decide_eq_true h,bif_true]
      congr 1
      rw [decide_eq_decide]
      exact ⟨fun g => ⟨h,g⟩,fun g => g.2⟩
    · rw [decide_eq_false h,bif_false,decide_eq_false (fun g => h g.1)]
  rw [c1,bnd_some,cross1_eq,bnd_some,cross1_eq,bnd_some,cross1_eq,bnd_some,cross1_eq,bnd_some]
  by_cases h1 : Opp (tri a b c) (tri a b d) ∧ Opp (tri c d a) (tri c d b)
  · rw [decide_eq_true h1,bif_true,decide_eq_true (show CrP a b c d from (Or.inl h1))]
  rw [decide_eq_false h1,bif_false]
  by_cases h2 : On a b c
  · rw [decide_eq_true h2,bif_true,decide_eq_true (show CrP a b c d from (Or.inr (Or.inl h2)))]
  rw [decide_eq_false h2,bif_false]
  by_cases h3 : On a b d
  · rw [decide_eq_true h3,bif_true,decide_eq_true (show CrP a b c d from (Or.inr (Or.inr (Or.inl h3))))]
  rw [decide_eq_false h3,bif_false]
  by_cases h4 : On c d a
  · rw [decide_eq_true h4,bif_true,decide_eq_true (show CrP a b c d from (Or.inr (Or.inr (Or.inr (Or.inl h4)))))]
  rw [decide_eq_false h4,bif_false]
  congr 1
  rw [decide_eq_decide]
  exact ⟨fun h => Or.inr (Or.inr (Or.inr (Or.inr h))),fun h => by
    rcases h with h | h | h | h | h
    · exact absurd h h1
    · exact absurd h h2
    · exact absurd h h3
    · exact absurd h h4
    · exact h⟩
open Classical in
theorem Inside_P {k : Nat} (hk : 9 ≤ k) {l : List V22} (hv : Val l) {p : V22} (hp : Wn p) : r2_Inside k l p = some (decide (InP l p)) := by
  rw [Inside_val hk hv]
  congr 1
  rw [decide_eq_decide]
  exact ⟨fun h => Fan_In hv.2.2.2 h.2,fun h => ⟨hp,In_Fan hv.1 h⟩⟩
open Classical in
theorem Meet_eq {k : Nat} (hk : 9 ≤ k) {a b : List V22} (ha : Val a) (hb : Val b) : r2_Meet k a b = some (decide (MeetP a b)) := by
  have a0 : 0 < len a := by have := ha.1; omega
  have b0 : 0 < len b := by have := hb.1; omega
  have a8 := ha.2.1
  have b8 := hb.2.1
  have c1 : r2_Meet.c1 k a b = some (decide (InP a (q b 0) ∨ InP b (q a 0))) := by
    unfold r2_Meet.c1
    rw [req_pos (inL_of (by decide) b0),req_pos (inL_of (by decide) a0)]
    have e1 : r2_Inside k a (el Z22 b 0) = some (decide (InP a (q b 0))) := Inside_P hk ha (hb.2.2.1 0 (by decide) b0)
    have e2 : r2_Inside k b (el Z22 a 0) = some (decide (InP b (q a 0))) := Inside_P hk hb (ha.2.2.1 0 (by decide) a0)
    rw [e1,bnd_some,e2,bnd_some]
    by_cases h : InP a (q b 0)
    · rw [decide_eq_true h,bif_true,decide_eq_true (Or.inl h)]
    · rw [decide_eq_false h,bif_false]
      congr 1
      rw [decide_eq_decide]
      exact ⟨fun g => Or.inr g,fun g => g.resolve_left h⟩
  have c3 : ∀ i,0 ≤ i → i < len a → (r2_Meet.c3 k a b i k 0 = some (.inl ()) ∧ ∃ j,(0 ≤ j ∧ j < len b) ∧ CrP (q a i) (q a (nx (len a) i)) (q b j) (q b (nx (len b) j))) ∨
      (r2_Meet.c3 k a b i k 0 = some (.inr ()) ∧ ∀ j,0 ≤ j → j < len b → ¬ CrP (q a i) (q a (nx (len a) i)) (q b j) (q b (nx (len b) j))) := by
    intro i i0 i1
    have hn := nx_range i0 i1
    have one : ∀ n v,0 ≤ v → v < len b → r2_Meet.c3 k a b i (n + 1) v = bif' (decide (CrP (q a i) (q a (nx (len a) i)) (q b v) (q b (nx (len b) v)))) (some (.inl ())) (r2_Meet.c3 k a b i n (v + 1)) := by
      intro n v v0 v1
      have hm := nx_range v0 v1
      rw [r2_Meet.c3,ilt_pos v1,bif_true,req_pos (inL_of v0 v1),req_pos (show nz (len a) by unfold nz; omega),irem_nx i0 i1 (by omega),req_pos (inL_of hn.1 hn.2),req_pos (show nz (len b) by unfold nz; omega),irem_nx v0 v1 (by omega),req_pos (inL_of hm.1 hm.2)]
      have e : r2_cross k (el Z22 a i) (el Z22 a (nx (len a) i)) (el Z22 b v) (el Z22 b (nx (len b) v)) = some (decide (CrP (q a i) (q a (nx (len a) i)) (q b v) (q b (nx (len b) v)))) :=
        cross_eq hk (ha.2.2.1 i i0 i1) (ha.2.2.1 _ hn.1 hn.2) (hb.2.2.1 v v0 v1) (hb.2.2.1 _ hm.1 hm.2)
      rw [e,bnd_some,iadd_i64 (by omega) (by omega)]
    have H := find_loop (fun n v => r2_Meet.c3 k a b i n v) 0 (len b) (fun j => CrP (q a i) (q a (nx (len a) i)) (q b j) (q b (nx (len b) j))) (fun _ => ())
      (fun n v v0 v1 h => by show r2_Meet.c3 k a b i (n + 1) v = _; rw [one n v v0 v1,decide_eq_true h,bif_true])
      (fun n v v0 v1 h => by show r2_Meet.c3 k a b i (n + 1) v = r2_Meet.c3 k a b i n (v + 1); rw [one n v v0 v1,decide_eq_false h,bif_false])
      (fun n v v0 v1 => by show r2_Meet.c3 k a b i (n + 1) v = _; rw [r2_Meet.c3,ilt_neg v1,bif_false])
      k 0 (by omega) (by omega)
    rcases H with ⟨j,j0,j1,h,_,e⟩ | ⟨h,e⟩
    · exact Or.inl ⟨e,j,⟨j0,j1⟩,h⟩
    · exact Or.inr ⟨e (by omega),h⟩
  have H := find_loop (fun n v => r2_Meet.c2 k a b n v) 0 (len a) (fun i => ∃ j,(0 ≤ j ∧ j < len b) ∧ CrP (q a i) (q a (nx (len a) i)) (q b j) (q b (nx (len b) j))) (fun _ => ())
    (by
      intro n v v0 v1 ⟨j,hj,h⟩
      show r2_Meet.c2 k a b (n + 1) v = _
      rw [r2_Meet.c2,ilt_pos v1,bif_true,req_pos (inL_of v0 v1)]
      rcases c3 v v0 v1 with ⟨e,_⟩ | ⟨_,g⟩
      · rw [e,bnd_some,two_inl]
      · exact absurd h (g j hj.1 hj.2))
    (by
      intro n v v0 v1 h
      show r2_Meet.c2 k a b (n + 1) v = r2_Meet.c2 k a b n (v + 1)
      rw [r2_Meet.c2,ilt_pos v1,bif_true,req_pos (inL_of v0 v1)]
      rcases c3 v v0 v1 with ⟨_,g⟩ | ⟨e,_⟩
      · exact absurd g h
      · rw [e,bnd_some,two_inr,iadd_i64 (by omega) (by omega)])
    (by
      intro n v v0 v1
      show r2_Meet.c2 k a b (n + 1) v = _
      rw [r2_Meet.c2,ilt_neg v1,bif_false])
    k 0 (by omega) (by omega)
  unfold r2_Meet
  rw [c1,bnd_some]
  by_cases h : InP a (q b 0) ∨ InP b (q a 0)
  · rw [decide_eq_true h,bif_true,decide_eq_true]
    rcases h with h | h
    · exact Or.inl h
    · exact Or.inr (Or.inl h)
  · rw [decide_eq_false h,bif_false]
    rcases H with ⟨i,i0,i1,⟨j,hj,g⟩,_,e⟩ | ⟨g,e⟩
    · have e : r2_Meet.c2 k a b k 0 = some (.inl ()) := e
      rw [e,bnd_some,two_inl,decide_eq_true]
      exact Or.inr (Or.inr ⟨i,j,⟨i0,i1⟩,hj,g⟩)
    · have e : r2_Meet.c2 k a b k 0 = some (.inr ()) := e (by omega)
      rw [e,bnd_some,two_inr,decide_eq_false]
      intro x
      rcases x with x | x | ⟨i,j,hi,hj,x⟩
      · exact h (Or.inl x)
      · exact h (Or.inr x)
      · exact g i hi.1 hi.2 ⟨j,hj,x⟩
theorem Out_eq (k : Nat) {l : List V22} (hl : len l ≤ 8) (hw : AllW l) {i : Int} (i0 : 0 ≤ i) (i1 : i < len l) : r2_Out k l i = some (outw l i) := by
  have hn := nx_range i0 i1
  have h1 := hw i i0 i1
  have h2 := hw _ hn.1 hn.2
  unfold Wn at h1 h2
  unfold r2_Out r2_sub
  rw [req_pos (show nz (len l) by unfold nz; omega),irem_nx i0 i1 (by omega),req_pos (inL_of hn.1 hn.2),req_pos (inL_of i0 i1)]
  show bnd (some (isub .i64 (q l (nx (len l) i)).1 (q l i).1,isub .i64 (q l (nx (len l) i)).2.1 (q l i).2.1,())) _ = _
  rw [isub_i64 (by omega) (by omega),isub_i64 (by omega) (by omega),bnd_some]
  unfold outw
  congr 1
  refine v_ext rfl ?_
  dsimp only
  unfold ineg
  rw [wrap_i64 (by omega) (by omega)]
  omega
theorem Rdepth_eq {k : Nat} (hk : 200 ≤ k) {l : List V22} (h : Val l) {i : Int} (i0 : 0 ≤ i) (i1 : i < len l) {p : V22} (hp : Wn p) :
    r2_depth k l i p = some (rnd (tri (q l i) (q l (nx (len l) i)) p) (lenN l i),decide (0 ≤ tri (q l i) (q l (nx (len l) i)) p)) := by
  have hn := nx_range i0 i1
  have ob := outw_bd h.2.2.1 i0 i1
  have s := outw_sq h i0 i1
  have h1 := h.2.2.1 i i0 i1
  have ht := tri_range h1 (h.2.2.1 _ hn.1 hn.2) hp
  obtain ⟨_,l0,l1,hr⟩ := Length_eq (k := k) (by omega) h i0 i1
  have hr' := rt_eq hr
  unfold Wn at h1 hp
  unfold r2_depth
  rw [Out_eq k h.2.1 h.2.2.1 i0 i1,bnd_some,req_pos (inL_of i0 i1)]
  have e1 : r2_sub k (el Z22 l i) p = some ((q l i).1 - p.1,(q l i).2.1 - p.2.1,()) := by
    unfold r2_sub
    show some (isub .i64 (q l i).1 p.1,isub .i64 (q l i).2.1 p.2.1,()) = _
    rw [isub_i64 (by omega) (by omega),isub_i64 (by omega) (by omega)]
  obtain ⟨c,e2,hc⟩ := BDot (k := k) (by omega) (a := outw l i) (b := ((q l i).1 - p.1,(q l i).2.1 - p.2.1,())) (by unfold I64; omega) (by unfold I64; omega) (by unfold I64; dsimp only; omega) (by unfold I64; dsimp only; omega)
  have ed : (outw l i).1 * ((q l i).1 - p.1) + (outw l i).2.1 * ((q l i).2.1 - p.2.1) = tri (q l i) (q l (nx (len l) i)) p := by unfold outw tri; dsimp only; grind
  dsimp only at hc
  rw [ed] at hc
  obtain ⟨r,e3,g⟩ := RRoot_eq (k := k) (by omega) (n := (outw l i).1 * (outw l i).1 + (outw l i).2.1 * (outw l i).2.1) (by omega) (by omega)
  have : r = lenN l i := (rt_eq g).symm
  subst this
  have rb := rnd_in (d := tri (q l i) (q l (nx (len l) i)) p) l0 (c := 34359738368000000) (by decide) ht.1 ht.2
  rw [e1,bnd_some,e2,bnd_some,imul_i64 (by omega) (by omega),imul_i64 (by omega) (by omega),iadd_i64 (by omega) (by omega),e3,bnd_some,BOver_pos hk hc (by omega) (by omega) l0 (by omega),bnd_some,BCmp (by omega) hc BR_zero (by unfold SR; omega) (by unfold SR; omega),bnd_some,cmpI_nn,fit_in (by omega)]
theorem rnd_mono {x y n : Int} (hn : 0 < n) (h : x ≤ y) : rnd x n ≤ rnd y n := Int.ediv_le_ediv (by omega) (by omega)
theorem rnd_nn {x n : Int} (hn : 0 < n) (h : 0 ≤ x) : 0 ≤ rnd x n := Int.ediv_nonneg (by omega) (by omega)
theorem RLeast_c4 {k : Nat} (hk : 200 ≤ k) {l m : List V22} (vl : Val l) (vm : Val m) {i : Int} (i0 : 0 ≤ i) (i1 : i < len l) (h : 0 ≤ dp l m i) : r2_Least.c4 k (l,m) i k 0 0 = some (wt l m i) := by
  have m0 : 0 < len m := by have := vm.1; omega
  have m8 := vm.2.1
  obtain ⟨_,l0,l1,_⟩ := Length_eq (k := k) (by omega) vl i0 i1
  have H := inv_loop (fun n s v => r2_Least.c4 k (l,m) i n s v) 0 (len m) (fun s v => 0 ≤ s ∧ (∀ j,0 ≤ j → j < v → rnd (tri (q l i) (q l (nx (len l) i)) (q m j)) (lenN l i) ≤ s) ∧ (s = 0 ∨ ∃ j,0 ≤ j ∧ j < v ∧ s = rnd (tri (q l i) (q l (nx (len l) i)) (q m j)) (lenN l i)))
    (by
      intro n s v v0 v1 ⟨h1,h2,h3⟩
      show ∃ s',_ ∧ r2_Least.c4 k (l,m) i (n + 1) s v = r2_Least.c4 k (l,m) i n s' (v + 1)
      rw [r2_Least.c4]
      dsimp only
      have e : r2_depth k l i (el Z22 m v) = some (rnd (tri (q l i) (q l (nx (len l) i)) (q m v)) (lenN l i),decide (0 ≤ tri (q l i) (q l (nx (len l) i)) (q m v))) := Rdepth_eq hk vl i0 i1 (vm.2.2.1 v v0 v1)
      rw [ilt_pos v1,bif_true,req_pos (inL_of v0 v1),e,bnd_some,iadd_i64 (by omega) (by omega)]
      refine ⟨_,⟨?_,fun j j0 j1 => ?_,?_⟩,rfl⟩
      · unfold imax; split <;> omega
      · by_cases c : j = v
        · subst c; unfold imax; split <;> omega
        · have := h2 j j0 (by omega); unfold imax; split <;> omega
      · unfold imax
        split
        · exact Or.inr ⟨v,v0,by omega,rfl⟩
        · rcases h3 with h3 | ⟨j,a,b,c⟩
          · exact Or.inl h3
          · exact Or.inr ⟨j,a,by omega,c⟩)
    (by
      intro n s v v0 v1
      show r2_Least.c4 k (l,m) i (n + 1) s v = some s
      rw [r2_Least.c4]
      dsimp only
      rw [ilt_neg v1,bif_false])
    k 0 0 (by omega) (by omega) (by omega) ⟨by decide,fun j a b => by omega,Or.inl rfl⟩
  obtain ⟨s,⟨h1,h2,h3⟩,e⟩ := H
  have e : r2_Least.c4 k (l,m) i k 0 0 = some s := e
  rw [e]
  congr 1
  unfold wt
  obtain ⟨j,j0,j1,g⟩ := dp_ex (a := l) (b := m) i m0
  have a := h2 j j0 j1
  rw [← g] at a
  have nn := rnd_nn l0 h
  rcases h3 with h3 | ⟨j',b0,b1,h3⟩
  · omega
  · have := rnd_mono l0 (dp_ge (a := l) (b := m) i b0 b1)
    omega
theorem RLeast_c3 {k : Nat} (hk : 200 ≤ k) {l m : List V22} {v1 : Int} {s : Bool} (hs : ieq v1 1 = s) (vl : Val l) (vm : Val m) (hd : ∀ i,0 ≤ i → i < len l → 0 ≤ dp l m i) (Q : Int → Bool → Int → Int → Prop)
    (q1 : ∀ i y z w,0 ≤ i → i < len l → Q i y z w → (w < 0 ∨ wt l m i < w) → Q (i + 1) s i (wt l m i))
    (q2 : ∀ i y z w,0 ≤ i → i < len l → Q i y z w → ¬ w < 0 → ¬ wt l m i < w → Q (i + 1) y z w) :
    ∀ (d f : Nat) (i : Int) (y : Bool) (z w : Int),i = len l - d → 0 ≤ i → d < f → Q i y z w → ∃ y' z' w',r2_Least.c3 k (l,m) v1 f i y z w = some (y',z',w') ∧ Q (len l) y' z' w' := by
  have l8 := vl.2.1
  intro d
  induction d with
  | zero =>
    intro f i y z w hi i0 hf hq
    obtain ⟨f,rfl⟩ : ∃ j,f = j + 1 := ⟨f - 1,by omega⟩
    have e : i = len l := by omega
    refine ⟨y,z,w,?_,by rw [← e]; exact hq⟩
    rw [r2_Least.c3]
    dsimp only
    rw [ilt_neg (by omega),bif_false]
  | succ d ih =>
    intro f i y z w hi i0 hf hq
    obtain ⟨f,rfl⟩ : ∃ j,f = j + 1 := ⟨f - 1,by omega⟩
    have i1 : i < len l := by omega
    rw [r2_Least.c3]
    dsimp only
    rw [ilt_pos i1,bif_true,RLeast_c4 hk vl vm i0 i1 (hd i i0 i1),bnd_some,iadd_i64 (by omega) (by omega),hs]
    unfold r2_Least.c5
    by_cases c : w < 0
    · rw [ilt_pos c,bif_true,bnd_some,bif_true]
      exact ih f (i + 1) _ _ _ (by omega) (by omega) (by omega) (q1 i y z w i0 i1 hq (Or.inl c))
    · rw [ilt_neg (by omega),bif_false,bnd_some]
      by_cases g : wt l m i < w
      · rw [ilt_pos g,bif_true]
        exact ih f (i + 1) _ _ _ (by omega) (by omega) (by omega) (q1 i y z w i0 i1 hq (Or.inr g))
      · rw [ilt_neg (by omega),bif_false]
        exact ih f (i + 1) _ _ _ (by omega) (by omega) (by omega) (q2 i y z w i0 i1 hq c g)
theorem wt_nn {a b : List V22} (ha : Val a) {i : Int} (i0 : 0 ≤ i) (i1 : i < len a) (h : 0 ≤ dp a b i) : 0 ≤ wt a b i := by
  obtain ⟨_,l0,_,_⟩ := Length_eq (k := 40) (by decide) ha i0 i1
  exact rnd_nn l0 h
theorem RLeast_eq {k : Nat} (hk : 200 ≤ k) {a b : List V22} (ha : Val a) (hb : Val b) (n1 : NoSep a b) (n2 : NoSep b a) : ∃ s e d,r2_Least k a b = some (s,e,d,()) ∧ PB a b (len a) (len b) s e d := by
  have a0 : 0 < len a := by have := ha.1; omega
  have b0 : 0 < len b := by have := hb.1; omega
  have a8 := ha.2.1
  have b8 := hb.2.1
  have da := (NoSep_dp b0).1 n1
  have db := (NoSep_dp a0).1 n2
  obtain ⟨k',rfl⟩ : ∃ j,k = j + 3 := ⟨k - 3,by omega⟩
  obtain ⟨y,z,w,e,hq⟩ := RLeast_c3 hk (l := a) (m := b) (v1 := 0) (s := false) rfl ha hb da (fun i y z w => (i = 0 ∧ w = -1) ∨ (0 ≤ w ∧ PB a b i 0 y z w))
    (by
      intro i y z w i0 i1 h g
      have nn := wt_nn ha i0 i1 (da i i0 i1)
      rcases h with ⟨h1,h2⟩ | ⟨h1,h2⟩
      · subst h1
        exact Or.inr ⟨nn,PB_first a b⟩
      · exact Or.inr ⟨nn,PB_a1 i0 h2 (by omega)⟩)
    (by
      intro i y z w i0 i1 h c g
      rcases h with ⟨h1,h2⟩ | ⟨h1,h2⟩
      · omega
      · exact Or.inr ⟨h1,PB_a2 h2 g⟩)
    a.length (k' + 3) 0 false 0 (-1) (by unfold len; omega) (by decide) (by unfold len at a8; omega) (Or.inl ⟨rfl,rfl⟩)
  have hp : 0 ≤ w ∧ PB a b (len a) 0 y z w := by
    rcases hq with ⟨g,_⟩ | g
    · omega
    · exact g
  obtain ⟨y',z',w',e',hq'⟩ := RLeast_c3 hk (l := b) (m := a) (v1 := 1) (s := true) rfl hb ha db (fun i y z w => 0 ≤ w ∧ PB a b (len a) i y z w)
    (by
      intro i y z w i0 i1 h g
      exact ⟨wt_nn hb i0 i1 (db i i0 i1),PB_b1 i0 h.2 (by omega)⟩)
    (by
      intro i y z w i0 i1 h c g
      exact ⟨h.1,PB_b2 h.2 g⟩)
    b.length (k' + 3) 0 y z w (by unfold len; omega) (by decide) (by unfold len at b8; omega) hp
  refine ⟨y',z',w',?_,hq'.2⟩
  unfold r2_Least
  have s0 : r2_Least.c1 (k' + 3) a b (k' + 3) 0 false 0 (-1) = bnd (r2_Least.c3 (k' + 3) (a,b) 0 (k' + 3) 0 false 0 (-1)) fun o26 => r2_Least.c1 (k' + 3) a b (k' + 2) 1 o26.1 o26.2.1 o26.2.2 := by
    rw [r2_Least.c1,ilt_pos (by decide),bif_true]
    rfl
  have s1 : r2_Least.c1 (k' + 3) a b (k' + 2) 1 y z w = bnd (r2_Least.c3 (k' + 3) (b,a) 1 (k' + 3) 0 y z w) fun o26 => r2_Least.c1 (k' + 3) a b (k' + 1) 2 o26.1 o26.2.1 o26.2.2 := by
    rw [r2_Least.c1,ilt_pos (by decide),bif_true]
    rfl
  rw [s0,e,bnd_some]
  dsimp only
  rw [s1,e',bnd_some]
  dsimp only
  rw [r2_Least.c1,ilt_neg (by decide),bif_false,bnd_some]
end Go.Proofs.T1
