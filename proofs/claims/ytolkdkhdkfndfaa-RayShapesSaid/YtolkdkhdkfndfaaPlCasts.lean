import Derived.Test.YtolkdkhdkfndfaaPlLine
import Derived.Test.YtolkdkhdkfndfaaPlNear
import Derived.Test.YtolkdkhdkfndfaaG9
import Derived.Test.YtolkdkhdkfndfaaG10
namespace Go.Proofs.T1
open Go Go.Sx
instance (x y : Int) : Decidable (Opp x y) := by unfold Opp; infer_instance
instance (a b p : V27) : Decidable (Box a b p) := by unfold Box; infer_instance
instance (a b p : V27) : Decidable (On a b p) := by unfold On; infer_instance
instance (a b c d : V27) : Decidable (CrP a b c d) := by unfold CrP; infer_instance
theorem opp_dec (x y : Int) : ilt (imul .i64 (cmpI x 0) (cmpI y 0)) 0 = decide (Opp x y) := by
  rcases Int.lt_trichotomy x 0 with a | a | a <;> rcases Int.lt_trichotomy y 0 with b | b | b <;>
    first
    | (rw [cmpI_lt a,cmpI_lt b,decide_eq_false (by unfold Opp; omega)]; decide)
    | (rw [cmpI_lt a,cmpI_eq b,decide_eq_false (by unfold Opp; omega)]; decide)
    | (rw [cmpI_lt a,cmpI_gt b,decide_eq_true (by unfold Opp; omega)]; decide)
    | (rw [cmpI_eq a,cmpI_lt b,decide_eq_false (by unfold Opp; omega)]; decide)
    | (rw [cmpI_eq a,cmpI_eq b,decide_eq_false (by unfold Opp; omega)]; decide)
    | (rw [cmpI_eq a,cmpI_gt b,decide_eq_false (by unfold Opp; omega)]; decide)
    | (rw [cmpI_gt a,cmpI_lt b,decide_eq_true (by unfold Opp; omega)]; decide)
    | (rw [cmpI_gt a,cmpI_eq b,decide_eq_false (by unfold Opp; omega)]; decide)
    | (rw [cmpI_gt a,cmpI_gt b,decide_eq_false (by unfold Opp; omega)]; decide)
theorem cmpI_zero (x : Int) : cmpI x 0 = 0 ↔ x = 0 := by
  rcases Int.lt_trichotomy x 0 with a | a | a
  · rw [cmpI_lt a]; omega
  · rw [cmpI_eq a]; omega
  · rw [cmpI_gt a]; omega
theorem cmpI_nn (x : Int) : ige (cmpI x 0) 0 = decide (0 ≤ x) := by
  rcases Int.lt_trichotomy x 0 with a | a | a
  · rw [cmpI_lt a,decide_eq_false (by omega)]; rfl
  · rw [cmpI_eq a,decide_eq_true (by omega)]; rfl
  · rw [cmpI_gt a,decide_eq_true (by omega)]; rfl
theorem cross1_eq (k : Nat) (a b p : V27) : r2_cross_1 k a b p (cmpI (tri a b p) 0) = some (decide (On a b p)) := by
  unfold r2_cross_1
  by_cases z : tri a b p = 0
  · rw [ieq_pos ((cmpI_zero _).2 z),bif_true]
    by_cases c1 : imin a.1 b.1 ≤ p.1
    · rw [ile_pos c1,bif_true]
      by_cases c2 : p.1 ≤ imax a.1 b.1
      · rw [ile_pos c2,bif_true]
        by_cases c3 : imin a.2.1 b.2.1 ≤ p.2.1
        · rw [ile_pos c3,bif_true]
          unfold ile
          congr 1
          rw [decide_eq_decide]
          exact ⟨fun h => ⟨z,c1,c2,c3,h⟩,fun h => h.2.2.2.2⟩
        · rw [ile_neg (by omega),bif_false,decide_eq_false (fun h => c3 h.2.2.2.1)]
      · rw [ile_neg (by omega),bif_false,decide_eq_false (fun h => c2 h.2.2.1)]
    · rw [ile_neg (by omega),bif_false,decide_eq_false (fun h => c1 h.2.1)]
  · rw [ieq_neg (fun h => z ((cmpI_zero _).1 h)),bif_false,decide_eq_false (fun h => z h.1)]
theorem cross_eq {k : Nat} (hk : 9 ≤ k) {a b c d : V27} (ha : Wn a) (hb : Wn b) (hc : Wn c) (hd : Wn d) : r2_cross k a b c d = some (decide (CrP a b c d)) := by
  unfold r2_cross
  rw [left_eq hk ha hb hc,bnd_some,left_eq hk ha hb hd,bnd_some,left_eq hk hc hd ha,bnd_some,left_eq hk hc hd hb,bnd_some]
  have c1 : r2_cross.c1 k (cmpI (tri a b c) 0) (cmpI (tri a b d) 0) (cmpI (tri c d a) 0) (cmpI (tri c d b) 0) = some (decide (Opp (tri a b c) (tri a b d) ∧ Opp (tri c d a) (tri c d b))) := by
    unfold r2_cross.c1
    rw [opp_dec,opp_dec]
    by_cases h : Opp (tri a b c) (tri a b d)
    · rw [decide_eq_true h,bif_true]
      congr 1
      rw [decide_eq_decide]
      exact ⟨fun g => ⟨h,g⟩,fun g => g.2⟩
    · rw [decide_eq_false h,bif_false,decide_eq_false (fun g => h g.1)]
  rw [c1,bnd_some,cross1_eq,bnd_some,cross1_eq,bnd_some,cross1_eq,bnd_some,cross1_eq,bnd_some]
  by_cases h1 : Opp (tri a b c) (tri a b d) ∧ Opp (tri c d a) (tri c d b)
  · rw [decide_eq_true h1,bif_true,decide_eq_true (show CrP a b c d from (Or.inl h1))]
  rw [decide_eq_false h1,bif_false]
  by_cases h2 : On a b c
  · rw [decide_eq_true h2,bif_true,decide_eq_true (show CrP a b c d from (Or.inr (Or.inl h2)))]
  rw [decide_eq_false h2,bif_false]
  by_cases h3 : On a b d
  · rw [decide_eq_true h3,bif_true,decide_eq_true (show CrP a b c d from (Or.inr (Or.inr (Or.inl h3))))]
  rw [decide_eq_false h3,bif_false]
  by_cases h4 : On c d a
  · rw [decide_eq_true h4,bif_true,decide_eq_true (show CrP a b c d from (Or.inr (Or.inr (Or.inr (Or.inl h4)))))]
  rw [decide_eq_false h4,bif_false]
  congr 1
  rw [decide_eq_decide]
  exact ⟨fun h => Or.inr (Or.inr (Or.inr (Or.inr h))),fun h => by
    rcases h with h | h | h | h | h
    · exact absurd h h1
    · exact absurd h h2
    · exact absurd h h3
    · exact absurd h h4
    · exact h⟩
open Classical in
theorem Inside_P {k : Nat} (hk : 9 ≤ k) {l : List V27} (hv : Val l) {p : V27} (hp : Wn p) : r2_Inside k l p = some (decide (InP l p)) := by
  rw [Inside_val hk hv]
  congr 1
  rw [decide_eq_decide]
  exact ⟨fun h => Fan_In hv.2.2.2 h.2,fun h => ⟨hp,In_Fan hv.1 h⟩⟩
open Classical in
theorem Meet_eq {k : Nat} (hk : 9 ≤ k) {a b : List V27} (ha : Val a) (hb : Val b) : r2_Meet k a b = some (decide (MeetP a b)) := by
  have a0 : 0 < len a := by have := ha.1; omega
  have b0 : 0 < len b := by have := hb.1; omega
  have a8 := ha.2.1
  have b8 := hb.2.1
  have c1 : r2_Meet.c1 k a b = some (decide (InP a (q b 0) ∨ InP b (q a 0))) := by
    unfold r2_Meet.c1
    rw [req_pos (inL_of (by decide) b0),req_pos (inL_of (by decide) a0)]
    have e1 : r2_Inside k a (el Z27 b 0) = some (decide (InP a (q b 0))) := Inside_P hk ha (hb.2.2.1 0 (by decide) b0)
    have e2 : r2_Inside k b (el Z27 a 0) = some (decide (InP b (q a 0))) := Inside_P hk hb (ha.2.2.1 0 (by decide) a0)
    rw [e1,bnd_some,e2,bnd_some]
    by_cases h : InP a (q b 0)
    · rw [decide_eq_true h,bif_true,decide_eq_true (Or.inl h)]
    · rw [decide_eq_false h,bif_false]
      congr 1
      rw [decide_eq_decide]
      exact ⟨fun g => Or.inr g,fun g => g.resolve_left h⟩
  have c3 : ∀ i,0 ≤ i → i < len a → (r2_Meet.c3 k a b i k 0 = some (.inl ()) ∧ ∃ j,(0 ≤ j ∧ j < len b) ∧ CrP (q a i) (q a (nx (len a) i)) (q b j) (q b (nx (len b) j))) ∨
      (r2_Meet.c3 k a b i k 0 = some (.inr ()) ∧ ∀ j,0 ≤ j → j < len b → ¬ CrP (q a i) (q a (nx (len a) i)) (q b j) (q b (nx (len b) j))) := by
    intro i i0 i1
    have hn := nx_range i0 i1
    have one : ∀ n v,0 ≤ v → v < len b → r2_Meet.c3 k a b i (n + 1) v = bif' (decide (CrP (q a i) (q a (nx (len a) i)) (q b v) (q b (nx (len b) v)))) (some (.inl ())) (r2_Meet.c3 k a b i n (v + 1)) := by
      intro n v v0 v1
      have hm := nx_range v0 v1
      rw [r2_Meet.c3,ilt_pos v1,bif_true,req_pos (inL_of v0 v1),req_pos (show nz (len a) by unfold nz; omega),irem_nx i0 i1 (by omega),req_pos (inL_of hn.1 hn.2),req_pos (show nz (len b) by unfold nz; omega),irem_nx v0 v1 (by omega),req_pos (inL_of hm.1 hm.2)]
      have e : r2_cross k (el Z27 a i) (el Z27 a (nx (len a) i)) (el Z27 b v) (el Z27 b (nx (len b) v)) = some (decide (CrP (q a i) (q a (nx (len a) i)) (q b v) (q b (nx (len b) v)))) :=
        cross_eq hk (ha.2.2.1 i i0 i1) (ha.2.2.1 _ hn.1 hn.2) (hb.2.2.1 v v0 v1) (hb.2.2.1 _ hm.1 hm.2)
      rw [e,bnd_some,iadd_i64 (by omega) (by omega)]
    have H := find_loop (fun n v => r2_Meet.c3 k a b i n v) 0 (len b) (fun j => CrP (q a i) (q a (nx (len a) i)) (q b j) (q b (nx (len b) j))) (fun _ => ())
      (fun n v v0 v1 h => by show r2_Meet.c3 k a b i (n + 1) v = _; rw [one n v v0 v1,decide_eq_true h,bif_true])
      (fun n v v0 v1 h => by show r2_Meet.c3 k a b i (n + 1) v = r2_Meet.c3 k a b i n (v + 1); rw [one n v v0 v1,decide_eq_false h,bif_false])
      (fun n v v0 v1 => by show r2_Meet.c3 k a b i (n + 1) v = _; rw [r2_Meet.c3,ilt_neg v1,bif_false])
      k 0 (by omega) (by omega)
    rcases H with ⟨j,j0,j1,h,_,e⟩ | ⟨h,e⟩
    · exact Or.inl ⟨e,j,⟨j0,j1⟩,h⟩
    · exact Or.inr ⟨e (by omega),h⟩
  have H := find_loop (fun n v => r2_Meet.c2 k a b n v) 0 (len a) (fun i => ∃ j,(0 ≤ j ∧ j < len b) ∧ CrP (q a i) (q a (nx (len a) i)) (q b j) (q b (nx (len b) j))) (fun _ => ())
    (by
      intro n v v0 v1 ⟨j,hj,h⟩
      show r2_Meet.c2 k a b (n + 1) v = _
      rw [r2_Meet.c2,ilt_pos v1,bif_true,req_pos (inL_of v0 v1)]
      rcases c3 v v0 v1 with ⟨e,_⟩ | ⟨_,g⟩
      · rw [e,bnd_some,two_inl]
      · exact absurd h (g j hj.1 hj.2))
    (by
      intro n v v0 v1 h
      show r2_Meet.c2 k a b (n + 1) v = r2_Meet.c2 k a b n (v + 1)
      rw [r2_Meet.c2,ilt_pos v1,bif_true,req_pos (inL_of v0 v1)]
      rcases c3 v v0 v1 with ⟨_,g⟩ | ⟨e,_⟩
      · exact absurd g h
      · rw [e,bnd_some,two_inr,iadd_i64 (by omega) (by omega)])
    (by
      intro n v v0 v1
      show r2_Meet.c2 k a b (n + 1) v = _
      rw [r2_Meet.c2,ilt_neg v1,bif_false])
    k 0 (by omega) (by omega)
  unfold r2_Meet
  rw [c1,bnd_some]
  by_cases h : InP a (q b 0) ∨ InP b (q a 0)
  · rw [decide_eq_true h,bif_true,decide_eq_true]
    rcases h with h | h
    · exact Or.inl h
    · exact Or.inr (Or.inl h)
  · rw [decide_eq_false h,bif_false]
    rcases H with ⟨i,i0,i1,⟨j,hj,g⟩,_,e⟩ | ⟨g,e⟩
    · have e : r2_Meet.c2 k a b k 0 = some (.inl ()) := e
      rw [e,bnd_some,two_inl,decide_eq_true]
      exact Or.inr (Or.inr ⟨i,j,⟨i0,i1⟩,hj,g⟩)
    · have e : r2_Meet.c2 k a b k 0 = some (.inr ()) := e (by omega)
      rw [e,bnd_some,two_inr,decide_eq_false]
      intro x
      rcases x with x | x | ⟨i,j,hi,hj,x⟩
      · exact h (Or.inl x)
      · exact h (Or.inr x)
      · exact g i hi.1 hi.2 ⟨j,hj,x⟩
end Go.Proofs.T1
namespace Go.Proofs.T1
open Go Go.Sx
theorem nmeet_tot {k : Nat} (hk : 40 ≤ k) {P p : List V27} (hP : Val P) (hp : Val p) : ∃ m,near_Meet k P p = some (m,0) ∧ (m = true ↔ NoSep P p ∧ NoSep p P) := by
  obtain ⟨l,e,D,_⟩ := Minus_dif (k := k) (by omega) hP hp
  obtain ⟨m,f,h⟩ := NMeet_eq hk hP hp e D
  refine ⟨m,f,h.trans ⟨fun z => ?_,fun z => D.zero z.1 z.2⟩⟩
  obtain ⟨X,Y,w,hw,h1,h2⟩ := common hP.2.2.2 hp.2.2.2 D z
  exact ⟨noSep_of hp.2.2.2 hp.1 hw h1 h2,noSep_of hP.2.2.2 hP.1 hw h2 h1⟩
def MeetsAt (k : Nat) (B : List V67) (p : List V27) (j : Int) : Prop := ∃ P,body_Place k (el Z67 B j) = some P ∧ Val P ∧ NoSep P p ∧ NoSep p P
theorem rmeet_ok {k : Nat} (hk : 100 < k) {B : List V67} (hA : AllK k B) (hl : len B ≤ 64) {p : List V27} (hp : Val p) :
    ∃ L,ray_Meet k B p = some (L,0) ∧ len L ≤ 64 ∧ (∀ x ∈ L,0 ≤ x ∧ x < len B ∧ MeetsAt k B p x) ∧ (∀ j,0 ≤ j → j < len B → MeetsAt k B p j → j ∈ L) := by
  obtain ⟨L,⟨h1,h2,h3⟩,e⟩ := inv_loop (fun n (z : List Int) v => ray_Meet.c1 k B p n v z) 0 (len B) (fun z v => len z ≤ v ∧ (∀ x ∈ z,0 ≤ x ∧ x < v ∧ MeetsAt k B p x) ∧ (∀ j,0 ≤ j → j < v → MeetsAt k B p j → j ∈ z))
    (by
      intro n z v v0 v1 ⟨h1,h2,h3⟩
      obtain ⟨P,p1,p2⟩ := place_tot (k := k) (by omega) _ (hA v v0 v1)
      obtain ⟨m,m1,m2⟩ := nmeet_tot (k := k) (by omega) p2 hp
      have st : iadd .i64 v 1 = v + 1 := iadd_i64 (by omega) (by omega)
      cases m with
      | true =>
        have hm : MeetsAt k B p v := ⟨P,p1,p2,m2.1 rfl⟩
        refine ⟨z ++ [v],⟨by rw [len_app]; omega,fun x hx => ?_,fun j j0 j1 hj => ?_⟩,?_⟩
        · rcases List.mem_append.1 hx with h | h
          · have := h2 x h
            exact ⟨this.1,by omega,this.2.2⟩
          · rw [List.mem_singleton.1 h]
            exact ⟨v0,by omega,hm⟩
        · by_cases c : j = v
          · rw [c]; exact List.mem_append.2 (Or.inr (List.mem_singleton.2 rfl))
          · exact List.mem_append.2 (Or.inl (h3 j j0 (by omega) hj))
        · show ray_Meet.c1 k B p (n + 1) v z = _
          have hroom : room 8 z [v] := by
            show (z.length + 1) * 8 ≤ 140737488355328
            unfold len at h1
            omega
          rw [ray_Meet.c1,ilt_pos v1,bif_true,req_pos (inL_of v0 v1),p1,bnd_some,m1,bnd_some]
          dsimp only
          rw [bif_true,req_pos hroom,st]
      | false =>
        have hm : ¬ MeetsAt k B p v := by
          intro ⟨Q,q1,_,q2⟩
          rw [p1] at q1
          cases q1
          have := m2.2 q2
          cases this
        refine ⟨z,⟨by omega,fun x hx => ?_,fun j j0 j1 hj => ?_⟩,?_⟩
        · have := h2 x hx
          exact ⟨this.1,by omega,this.2.2⟩
        · by_cases c : j = v
          · rw [c] at hj; exact absurd hj hm
          · exact h3 j j0 (by omega) hj
        · show ray_Meet.c1 k B p (n + 1) v z = _
          rw [ray_Meet.c1,ilt_pos v1,bif_true,req_pos (inL_of v0 v1),p1,bnd_some,m1,bnd_some]
          dsimp only
          rw [bif_false,st])
    (by
      intro n z v v0 v1
      show ray_Meet.c1 k B p (n + 1) v z = _
      rw [ray_Meet.c1,ilt_neg v1,bif_false])
    k [] 0 (by omega) (by unfold len; omega) (by omega) ⟨by show (0 : Int) ≤ 0; omega,fun x hx => (by cases hx),fun j j0 j1 => (by omega)⟩
  have e : ray_Meet.c1 k B p k 0 [] = some L := e
  refine ⟨L,?_,by omega,h2,h3⟩
  unfold ray_Meet
  rw [kcheck_okr hk hA hl,bnd_some,ine_neg rfl,bif_false,Check_val (by omega) hp,bnd_some,ine_neg rfl,bif_false,e,bnd_some]
def HitS (l : List V27) (a b : V27) (h : Int × Bool) : Prop :=
  (∃ X w,h.2 = true ∧ 0 < w ∧ 0 ≤ X ∧ X ≤ w ∧ Fea l a b X w ∧ (∀ Y v,0 < v → 0 ≤ Y → Y ≤ v → Fea l a b Y v → X * v ≤ Y * w) ∧ (0 ≤ h.1 ∧ h.1 ≤ 65536 ∧ h.1 * w ≤ X * 65536 ∧ X * 65536 < (h.1 + 1) * w) ∧
      ((X = 0 ∧ w = 1) ∨ ∃ i,0 ≤ i ∧ i < len l ∧ dn l b i < 0 ∧ X = -nu l a i ∧ w = -dn l b i)) ∨
    (h = (0,false) ∧ ∀ Y v,0 < v → 0 ≤ Y → Y ≤ v → ¬ Fea l a b Y v)
theorem rline_hit {k : Nat} (hk : 40 ≤ k) {l : List V27} {a b : V27} (hl : Big1 l) (ha : Wn a) (hb : Wn b) : ∃ h,ray_line k l a b = some h ∧ HitS l a b h := by
  rcases rline_spec hk hl ha hb with ⟨X,w,t,e,h1,h2,h3,h4,h5,h6,h7⟩ | ⟨e,h⟩
  · exact ⟨(t,true),e,Or.inl ⟨X,w,rfl,h1,h2,h3,h4,h5,h6,h7⟩⟩
  · exact ⟨(0,false),e,Or.inr ⟨rfl,h⟩⟩
theorem Dif_big {P p l : List V27} (hP : Val P) (hp : Val p) (D : Dif P p l) : Big1 l := by
  refine ⟨D.len3,?_,fun t t0 t1 => Dif_bd hP.2.2.1 hp.2.2.1 D t0 t1⟩
  have h1 := D.le
  have h2 := hP.2.1
  have h3 := hp.2.1
  omega
theorem shape1_tot {k : Nat} (hk : 100 < k) {p : List V27} (hp : Val p) {b : V27} (hb : Wn b) {P : List V27} (hP : Val P) : ∃ h l,ray_Shape_1 k P p b = some h ∧ Dif P p l ∧ HitS l zed b h := by
  obtain ⟨l,e,D,_⟩ := Minus_dif (k := k) (by omega) hP hp
  obtain ⟨h,e2,hs⟩ := rline_hit (k := k) (by omega) (a := zed) (b := b) (Dif_big hP hp D) (by unfold Wn zed; decide) hb
  refine ⟨h,l,?_,D,hs⟩
  unfold ray_Shape_1
  rw [e,bnd_some]
  have e2 : ray_line k l (0,0,()) b = some h := e2
  dsimp only
  rw [e2,bnd_some]
end Go.Proofs.T1
namespace Go.Proofs.T1
open Go Go.Sx
def Wb (a : V27) : Prop := -300000000 ≤ a.1 ∧ a.1 ≤ 300000000 ∧ -300000000 ≤ a.2.1 ∧ a.2.1 ≤ 300000000
theorem left_big {k : Nat} (hk : 9 ≤ k) {a b p : V27} (ha : Wb a) (hb : Wb b) (hp : Wb p) : r2_left k a b p = some (cmpI (tri a b p) 0) := by
  unfold Wb at *
  have m1 := mul_bd (x := b.1 - a.1) (y := p.2.1 - a.2.1) (M := 600000000) (N := 600000000) (by omega) (by omega) (by omega) (by omega)
  have m2 := mul_bd (x := b.2.1 - a.2.1) (y := p.1 - a.1) (M := 600000000) (N := 600000000) (by omega) (by omega) (by omega) (by omega)
  have e1 : r2_sub k b a = some (b.1 - a.1,b.2.1 - a.2.1,()) := by
    unfold r2_sub
    rw [isub_i64 (by omega) (by omega),isub_i64 (by omega) (by omega)]
  have e2 : r2_sub k p a = some (p.1 - a.1,p.2.1 - a.2.1,()) := by
    unfold r2_sub
    rw [isub_i64 (by omega) (by omega),isub_i64 (by omega) (by omega)]
  obtain ⟨c,e3,r⟩ := BCross hk (a := (b.1 - a.1,b.2.1 - a.2.1,())) (b := (p.1 - a.1,p.2.1 - a.2.1,())) (by unfold I64; dsimp only; omega) (by unfold I64; dsimp only; omega) (by unfold I64; dsimp only; omega) (by unfold I64; dsimp only; omega)
  unfold r2_left
  rw [e1,bnd_some,e2,bnd_some,e3,bnd_some,BCmp hk r BR_zero (by unfold SR; dsimp only; omega) (by unfold SR; omega),bnd_some]
  rfl
theorem cross_big {k : Nat} (hk : 9 ≤ k) {a b c d : V27} (ha : Wb a) (hb : Wb b) (hc : Wb c) (hd : Wb d) : r2_cross k a b c d = some (decide (CrP a b c d)) := by
  unfold r2_cross
  rw [left_big hk ha hb hc,bnd_some,left_big hk ha hb hd,bnd_some,left_big hk hc hd ha,bnd_some,left_big hk hc hd hb,bnd_some]
  have c1 : r2_cross.c1 k (cmpI (tri a b c) 0) (cmpI (tri a b d) 0) (cmpI (tri c d a) 0) (cmpI (tri c d b) 0) = some (decide (Opp (tri a b c) (tri a b d) ∧ Opp (tri c d a) (tri c d b))) := by
    unfold r2_cross.c1
    rw [opp_dec,opp_dec]
    by_cases h : Opp (tri a b c) (tri a b d)
    · rw [decide_eq_true h,bif_true]
      congr 1
      rw [decide_eq_decide]
      exact ⟨fun g => ⟨h,g⟩,fun g => g.2⟩
    · rw [decide_eq_false h,bif_false,decide_eq_false (fun g => h g.1)]
  rw [c1,bnd_some,cross1_eq,bnd_some,cross1_eq,bnd_some,cross1_eq,bnd_some,cross1_eq,bnd_some]
  by_cases h1 : Opp (tri a b c) (tri a b d) ∧ Opp (tri c d a) (tri c d b)
  · rw [decide_eq_true h1,bif_true,decide_eq_true (show CrP a b c d from (Or.inl h1))]
  rw [decide_eq_false h1,bif_false]
  by_cases h2 : On a b c
  · rw [decide_eq_true h2,bif_true,decide_eq_true (show CrP a b c d from (Or.inr (Or.inl h2)))]
  rw [decide_eq_false h2,bif_false]
  by_cases h3 : On a b d
  · rw [decide_eq_true h3,bif_true,decide_eq_true (show CrP a b c d from (Or.inr (Or.inr (Or.inl h3))))]
  rw [decide_eq_false h3,bif_false]
  by_cases h4 : On c d a
  · rw [decide_eq_true h4,bif_true,decide_eq_true (show CrP a b c d from (Or.inr (Or.inr (Or.inr (Or.inl h4)))))]
  rw [decide_eq_false h4,bif_false]
  congr 1
  rw [decide_eq_decide]
  unfold CrP
  exact ⟨fun h => Or.inr (Or.inr (Or.inr (Or.inr h))),fun h => by rcases h with h | h | h | h | h <;> first | exact absurd h h1 | exact absurd h h2 | exact absurd h h3 | exact absurd h h4 | exact h⟩
theorem part_step {k : Nat} (hk : 9 ≤ k) {n d : List Int} {Y w : Int} (hn : BR n Y) (hd : BR d w) (w0 : 0 < w) (wb : w ≤ 4611686018427387904) (Y0 : 0 ≤ Y) (Yb : Y ≤ w) (f : Nat) {o b : Int} (o0 : 0 ≤ o) (b0 : 0 < b) (ob : o + b ≤ 131072) :
    r2_part.c2 k (n,d) (f + 1) o b = r2_part.c2 k (n,d) f (if (o + b) * w ≤ Y * 65536 then o + b else o) (b / 2) := by
  have m := mul_bd (x := o + b) (y := w) (M := 131072) (N := 4611686018427387904) (by omega) (by omega) (by omega) (by omega)
  obtain ⟨y13,e13,r13⟩ := BOf hk (n := o + b) (by omega) (by omega)
  obtain ⟨y15,e15,r15⟩ := BMul hk r13 hd
  obtain ⟨y17,e17,r17⟩ := BOf hk (n := 65536) (by decide) (by decide)
  obtain ⟨y19,e19,r19⟩ := BMul hk hn r17
  have c3 : ∀ y,r2_part.c3 k o b (cmpI y (Y * 65536)) = some (if y ≤ Y * 65536 then o + b else o) := by
    intro y
    unfold r2_part.c3
    rw [cmp_ile]
    by_cases z : y ≤ Y * 65536
    · rw [decide_eq_true z,bif_true,if_pos z,iadd_i64 (by omega) (by omega)]
    · rw [decide_eq_false z,bif_false,if_neg z]
  rw [r2_part.c2,igt_pos b0,bif_true,iadd_i64 (by omega) (by omega),e13,bnd_some]
  dsimp only
  rw [e15,bnd_some,e17,bnd_some,e19,bnd_some,BCmp hk r15 r19 (by unfold SR; omega) (by unfold SR; omega),bnd_some,c3,bnd_some,iquo_i64 (by omega) (by omega) (by decide)]
theorem part_loop {k : Nat} (hk : 9 ≤ k) {n d : List Int} {Y w : Int} (hn : BR n Y) (hd : BR d w) (w0 : 0 < w) (wb : w ≤ 4611686018427387904) (Y0 : 0 ≤ Y) (Yb : Y ≤ w) : ∀ (m f : Nat) (o b : Int),m + 1 < f → b = 2 ^ m → 0 ≤ o → o + 2 * b ≤ 131072 → o * w ≤ Y * 65536 → Y * 65536 < (o + 2 * b) * w →
    ∃ t,r2_part.c2 k (n,d) f o b = some t ∧ 0 ≤ t ∧ t * w ≤ Y * 65536 ∧ Y * 65536 < (t + 1) * w := by
  intro m
  induction m with
  | zero =>
    intro f o b hf hb o0 ob h1 h2
    obtain ⟨f,rfl⟩ : ∃ j,f = j + 2 := ⟨f - 2,by omega⟩
    have hb : b = 1 := by rw [hb]; decide
    subst hb
    rw [part_step hk hn hd w0 wb Y0 Yb (f + 1) o0 (by decide) (by omega),r2_part.c2,igt_neg (by decide),bif_false]
    refine ⟨_,rfl,?_,?_,?_⟩
    · split <;> omega
    · split <;> omega
    · split
      · have e : o + 1 + 1 = o + 2 * 1 := by omega
        rw [e]; exact h2
      · omega
  | succ m ih =>
    intro f o b hf hb o0 ob h1 h2
    obtain ⟨f,rfl⟩ : ∃ j,f = j + 1 := ⟨f - 1,by omega⟩
    have e2 : (2 : Int) ^ (m + 1) = 2 * 2 ^ m := by rw [Int.pow_succ]; omega
    have p2 : (0 : Int) < 2 ^ m := Int.pow_pos (by decide)
    rw [part_step hk hn hd w0 wb Y0 Yb f o0 (by omega) (by omega)]
    have bb : 2 * (b / 2) = b := by omega
    refine ih f _ (b / 2) (by omega) (by omega) ?_ ?_ ?_ ?_
    · split <;> omega
    · split <;> omega
    · split <;> omega
    · rw [bb]
      split
      · have e : o + b + b = o + 2 * b := by omega
        rw [e]; exact h2
      · omega
theorem part_eq {k : Nat} (hk : 40 ≤ k) {n d : List Int} {N D Y w : Int} (hn : BR n N) (hd : BR d D) (hw : (0 < D ∧ Y = N ∧ w = D) ∨ (D < 0 ∧ Y = -N ∧ w = -D)) (Y0 : 0 ≤ Y) (Yb : Y ≤ w) (wb : w ≤ 4611686018427387904) :
    ∃ t,r2_part k n d = some t ∧ 0 ≤ t ∧ t ≤ 65536 ∧ t * w ≤ Y * 65536 ∧ Y * 65536 < (t + 1) * w := by
  have w0 : 0 < w := by omega
  have hq : ∃ n' d',r2_part.c1 k n d (decide (D < 0)) = some (n',d') ∧ BR n' Y ∧ BR d' w := by
    unfold r2_part.c1
    rcases hw with ⟨h,e1,e2⟩ | ⟨h,e1,e2⟩
    · rw [decide_eq_false (by omega),bif_false]
      subst e1 e2
      exact ⟨_,_,rfl,hn,hd⟩
    · obtain ⟨n',f1,r1⟩ := BNeg (k := k) (by omega) hn
      obtain ⟨d',f2,r2⟩ := BNeg (k := k) (by omega) hd
      rw [decide_eq_true h,bif_true,f1,bnd_some,f2,bnd_some]
      subst e1 e2
      exact ⟨_,_,rfl,r1,r2⟩
  obtain ⟨n',d',q1,q2,q3⟩ := hq
  obtain ⟨t,t1,t2,t3,t4⟩ := part_loop (k := k) (by omega) q2 q3 w0 wb Y0 Yb 16 k 0 65536 (by omega) (by decide) (by decide) (by decide) (by rw [Int.zero_mul]; omega) (by omega)
  have tb : t ≤ 65536 := by
    have : t * w ≤ 65536 * w := by omega
    exact Int.le_of_mul_le_mul_right this w0
  unfold r2_part
  rw [BBelow k hd (by unfold SR; omega),bnd_some,q1,bnd_some,t1,bnd_some]
  exact ⟨t,congrArg some (by unfold imin; split <;> omega),t2,tb,t3,t4⟩
theorem floor_le {t w X f v Y : Int} (hw : 0 < w) (hv : 0 < v) (h1 : t * w ≤ X * 65536) (h2 : Y * 65536 < (f + 1) * v) (h : X * v ≤ Y * w) : t ≤ f := by
  have p1 := Int.mul_le_mul_of_nonneg_right h1 (Int.le_of_lt hv)
  have p2 := Int.mul_lt_mul_of_pos_right h2 hw
  have e1 : t * w * v = t * (w * v) := by grind
  have e2 : X * 65536 * v = X * v * 65536 := by grind
  have e3 : Y * 65536 * w = Y * w * 65536 := by grind
  have e4 : (f + 1) * v * w = (f + 1) * (w * v) := by grind
  have : t * (w * v) < (f + 1) * (w * v) := by omega
  have := Int.lt_of_mul_lt_mul_right this (Int.le_of_lt (Int.mul_pos hw hv))
  omega
section
variable {l : List V27} {a b : V27}
theorem Wb_cor (hl : Big1 l) {i : Int} (i0 : 0 ≤ i) (i1 : i < len l) : Wb (q l i) := by
  have := hl.2.2 i i0 i1
  unfold Wb
  omega
theorem edge_val {k : Nat} (hk : 40 ≤ k) (hl : Big1 l) (he : EdgeP l) (ha : Wn a) (hb : Wn b) (hout : ¬ InP l a) {v : Int} (v0 : 0 ≤ v) (v1 : v < len l) (hc : CrP (q l v) (q l (nx (len l) v)) a (pl a b)) :
    ∃ y23 y25 y27 y29 y31 f Y w,r2_Out k l v = some y23 ∧ r2_sub k (el Z27 l v) a = some y25 ∧ r2_Dot k y23 y25 = some y27 ∧ r2_Dot k y23 b = some y29 ∧ r2_Big_Cmp k y29 (List.replicate 8 0) = some y31 ∧ r2_Line.c3 k l a b v y27 y29 y31 = some f ∧
      0 < w ∧ 0 ≤ Y ∧ Y ≤ w ∧ Fea l a b Y w ∧ (0 ≤ f ∧ f ≤ 65536 ∧ f * w ≤ Y * 65536 ∧ Y * 65536 < (f + 1) * w) ∧ (dn l b v < 0 → Y = -nu l a v ∧ w = -dn l b v) := by
  have h16 := hl.2.1
  have hn := nx_range v0 v1
  have hr : irem (iadd .i64 v 1) (len l) = nx (len l) v := irem_nx v0 v1 (by omega)
  have bd := nd_bd hl ha hb v0 v1
  have b1 := hl.2.2 v v0 v1
  have b2 := hl.2.2 _ hn.1 hn.2
  have ha' := ha
  have hb' := hb
  unfold Wn at ha' hb'
  have o1 : r2_Out k l v = some ((q l (nx (len l) v)).2.1 - (q l v).2.1,-((q l (nx (len l) v)).1 - (q l v).1),()) := by
    unfold r2_Out r2_sub
    rw [req_pos (show nz (len l) by unfold nz; omega),req_pos (show inL (irem (iadd .i64 v 1) (len l)) l by rw [hr]; exact inL_of hn.1 hn.2),req_pos (inL_of v0 v1),hr]
    show bnd (some (isub .i64 (q l (nx (len l) v)).1 (q l v).1,isub .i64 (q l (nx (len l) v)).2.1 (q l v).2.1,())) _ = _
    rw [isub_i64 (x := (q l (nx (len l) v)).1) (by omega) (by omega),isub_i64 (x := (q l (nx (len l) v)).2.1) (by omega) (by omega),bnd_some]
    dsimp only
    congr 3
    unfold ineg
    rw [wrap_i64 (by omega) (by omega)]
    omega
  have sb1 : ∀ i,0 ≤ i → i < len l → r2_sub k (el Z27 l i) a = some ((q l i).1 - a.1,(q l i).2.1 - a.2.1,()) := by
    intro i i0 i1
    have := hl.2.2 i i0 i1
    unfold r2_sub
    show some (isub .i64 (q l i).1 a.1,isub .i64 (q l i).2.1 a.2.1,()) = _
    rw [isub_i64 (x := (q l i).1) (by omega) (by omega),isub_i64 (x := (q l i).2.1) (by omega) (by omega)]
  obtain ⟨y27,e27,r27⟩ := BDot (k := k) (by omega) (a := ((q l (nx (len l) v)).2.1 - (q l v).2.1,-((q l (nx (len l) v)).1 - (q l v).1),())) (b := ((q l v).1 - a.1,(q l v).2.1 - a.2.1,())) (by unfold I64; dsimp only; omega) (by unfold I64; dsimp only; omega) (by unfold I64; dsimp only; omega) (by unfold I64; dsimp only; omega)
  obtain ⟨y29,e29,r29⟩ := BDot (k := k) (by omega) (a := ((q l (nx (len l) v)).2.1 - (q l v).2.1,-((q l (nx (len l) v)).1 - (q l v).1),())) (b := b) (by unfold I64; dsimp only; omega) (by unfold I64; dsimp only; omega) (by unfold I64; omega) (by unfold I64; omega)
  have eN : ((q l (nx (len l) v)).2.1 - (q l v).2.1) * ((q l v).1 - a.1) + -((q l (nx (len l) v)).1 - (q l v).1) * ((q l v).2.1 - a.2.1) = nu l a v := by unfold nu tri; grind
  have eD : ((q l (nx (len l) v)).2.1 - (q l v).2.1) * b.1 + -((q l (nx (len l) v)).1 - (q l v).1) * b.2.1 = dn l b v := by unfold dn; grind
  dsimp only at r27 r29
  rw [eN] at r27
  rw [eD] at r29
  have e31 := BCmp (k := k) (by omega) r29 BR_zero (by unfold SR; omega) (by unfold SR; omega)
  rcases edge_cr he hl.1 hout v0 v1 hc with ⟨d,n0,n1,hf⟩ | ⟨d,n0,n1,hf⟩ | ⟨d,w0,n0,n1,hf⟩
  · obtain ⟨t,t1,t2,t3,t4,t5⟩ := part_eq hk r27 r29 (Or.inl ⟨d,rfl,rfl⟩) n0 n1 (by omega)
    refine ⟨_,_,y27,y29,_,t,_,_,o1,sb1 v v0 v1,e27,e29,e31,?_,d,n0,n1,hf,⟨t2,t3,t4,t5⟩,fun h => by omega⟩
    unfold r2_Line.c3
    rw [ieq_neg (fun h => by have := (cmpI_zero _).1 h; omega),bif_false,t1,bnd_some]
  · obtain ⟨t,t1,t2,t3,t4,t5⟩ := part_eq hk r27 r29 (Or.inr ⟨d,rfl,rfl⟩) n0 n1 (by omega)
    refine ⟨_,_,y27,y29,_,t,_,_,o1,sb1 v v0 v1,e27,e29,e31,?_,by omega,n0,n1,hf,⟨t2,t3,t4,t5⟩,fun h => ⟨rfl,rfl⟩⟩
    unfold r2_Line.c3
    rw [ieq_neg (fun h => by have := (cmpI_zero _).1 h; omega),bif_false,t1,bnd_some]
  · have mA1 := mul_bd (x := (q l v).1 - a.1) (y := b.1) (M := 196608000) (N := 65536000) (by omega) (by omega) (by omega) (by omega)
    have mA2 := mul_bd (x := (q l v).2.1 - a.2.1) (y := b.2.1) (M := 196608000) (N := 65536000) (by omega) (by omega) (by omega) (by omega)
    have mB1 := mul_bd (x := (q l (nx (len l) v)).1 - a.1) (y := b.1) (M := 196608000) (N := 65536000) (by omega) (by omega) (by omega) (by omega)
    have mB2 := mul_bd (x := (q l (nx (len l) v)).2.1 - a.2.1) (y := b.2.1) (M := 196608000) (N := 65536000) (by omega) (by omega) (by omega) (by omega)
    have mV1 := mul_bd (x := b.1) (y := b.1) (M := 65536000) (N := 65536000) (by omega) (by omega) (by omega) (by omega)
    have mV2 := mul_bd (x := b.2.1) (y := b.2.1) (M := 65536000) (N := 65536000) (by omega) (by omega) (by omega) (by omega)
    obtain ⟨y36,e36,r36⟩ := BDot (k := k) (by omega) (a := ((q l v).1 - a.1,(q l v).2.1 - a.2.1,())) (b := b) (by unfold I64; dsimp only; omega) (by unfold I64; dsimp only; omega) (by unfold I64; omega) (by unfold I64; omega)
    obtain ⟨y40,e40,r40⟩ := BDot (k := k) (by omega) (a := ((q l (nx (len l) v)).1 - a.1,(q l (nx (len l) v)).2.1 - a.2.1,())) (b := b) (by unfold I64; dsimp only; omega) (by unfold I64; dsimp only; omega) (by unfold I64; omega) (by unfold I64; omega)
    obtain ⟨y47,e47,r47⟩ := BDot (k := k) (by omega) (a := b) (b := b) (by unfold I64; omega) (by unfold I64; omega) (by unfold I64; omega) (by unfold I64; omega)
    dsimp only at r36 r40
    have e42 := BCmp (k := k) (by omega) r40 r36 (by unfold SR; omega) (by unfold SR; omega)
    have c4 : ∃ y,r2_Line.c4 k y36 y40 (cmpI (((q l (nx (len l) v)).1 - a.1) * b.1 + ((q l (nx (len l) v)).2.1 - a.2.1) * b.2.1) (((q l v).1 - a.1) * b.1 + ((q l v).2.1 - a.2.1) * b.2.1)) = some y ∧ BR y (nearE (q l v) (q l (nx (len l) v)) a b) := by
      unfold r2_Line.c4 nearE
      rw [cmp_ilt]
      by_cases z : ((q l (nx (len l) v)).1 - a.1) * b.1 + ((q l (nx (len l) v)).2.1 - a.2.1) * b.2.1 < ((q l v).1 - a.1) * b.1 + ((q l v).2.1 - a.2.1) * b.2.1
      · rw [decide_eq_true z,bif_true,if_pos z]
        exact ⟨_,rfl,r40⟩
      · rw [decide_eq_false z,bif_false,if_neg z]
        exact ⟨_,rfl,r36⟩
    obtain ⟨y,c4,r⟩ := c4
    obtain ⟨t,t1,t2,t3,t4,t5⟩ := part_eq hk r r47 (Or.inl ⟨w0,rfl,rfl⟩) n0 n1 (by omega)
    refine ⟨_,_,y27,y29,_,t,_,_,o1,sb1 v v0 v1,e27,e29,e31,?_,w0,n0,n1,hf,⟨t2,t3,t4,t5⟩,fun h => by omega⟩
    unfold r2_Line.c3
    rw [ieq_pos ((cmpI_zero _).2 d),bif_true,sb1 v v0 v1,bnd_some,e36,bnd_some,hr,sb1 _ hn.1 hn.2,bnd_some,e40,bnd_some,e42,bnd_some,c4,bnd_some,e47,bnd_some,t1,bnd_some]
theorem RLine_eq {k : Nat} (hk : 40 ≤ k) (hl : Big1 l) (he : EdgeP l) (ha : Wn a) (hb : Wn b) {h : Int × Bool} (hh : HitS l a b h) : r2_Line k l a b = some h := by
  have h16 := hl.2.1
  have h3 := hl.1
  have wa : Wb a := by unfold Wn at ha; unfold Wb; omega
  have wt : Wb (pl a b) := by
    unfold Wn at ha hb
    unfold Wb pl
    dsimp only
    omega
  have tt : (iadd .i64 a.1 b.1,iadd .i64 a.2.1 b.2.1,()) = pl a b := by
    unfold Wn at ha hb
    rw [iadd_i64 (by omega) (by omega),iadd_i64 (by omega) (by omega)]
    rfl
  obtain ⟨s,hs,e1⟩ := inv_loop (fun n (s : Bool) v => r2_Line.c1 k l a n s v) 0 (len l) (fun s v => s = true ↔ ∀ j,0 ≤ j → j < v → 0 ≤ nu l a j)
    (by
      intro n s v v0 v1 hI
      have hn := nx_range v0 v1
      have hr : irem (iadd .i64 v 1) (len l) = nx (len l) v := irem_nx v0 v1 (by omega)
      have st : iadd .i64 v 1 = v + 1 := iadd_i64 (by omega) (by omega)
      cases s with
      | true =>
        refine ⟨decide (0 ≤ nu l a v),?_,?_⟩
        · rw [decide_eq_true_eq]
          constructor
          · intro z j j0 j1
            by_cases c : j = v
            · rw [c]; exact z
            · exact hI.1 rfl j j0 (by omega)
          · intro z
            exact z v v0 (by omega)
        · show r2_Line.c1 k l a (n + 1) true v = _
          rw [r2_Line.c1,ilt_pos v1,bif_true,req_pos (inL_of v0 v1),bif_true,req_pos (show nz (len l) by unfold nz; omega),req_pos (show inL (irem (iadd .i64 v 1) (len l)) l by rw [hr]; exact inL_of hn.1 hn.2),hr]
          have := left_big (k := k) (by omega) (Wb_cor hl v0 v1) (Wb_cor hl hn.1 hn.2) wa
          show bnd (r2_left k (q l v) (q l (nx (len l) v)) a) _ = _
          rw [this,bnd_some,cmpI_nn,st]
          rfl
      | false =>
        refine ⟨false,?_,?_⟩
        · constructor
          · intro z; cases z
          · intro z
            exact hI.2 (fun j j0 j1 => z j j0 (by omega))
        · show r2_Line.c1 k l a (n + 1) false v = _
          rw [r2_Line.c1,ilt_pos v1,bif_true,req_pos (inL_of v0 v1),bif_false,st])
    (by
      intro n s v v0 v1
      show r2_Line.c1 k l a (n + 1) s v = _
      rw [r2_Line.c1,ilt_neg v1,bif_false])
    k true 0 (by omega) (by omega) (by omega) ⟨fun _ j j0 j1 => by omega,fun _ => rfl⟩
  have e1 : r2_Line.c1 k l a k true 0 = some s := e1
  unfold r2_Line
  rw [e1,bnd_some]
  by_cases hin : InP l a
  · have : s = true := hs.2 hin
    rw [this,bif_true]
    have f0 : Fea l a b 0 1 := by
      intro i i0 i1
      have : 0 ≤ nu l a i := hin i i0 i1
      omega
    rcases hh with ⟨X,w,h2,w0,X0,X1,hf,hmin,⟨t0,t1,t2,t3⟩,_⟩ | ⟨_,hno⟩
    · have := hmin 0 1 (by decide) (by decide) (by decide) f0
      have X00 : X = 0 := by omega
      have : h.1 = 0 := by
        by_cases z : h.1 = 0
        · exact z
        · have := Int.mul_pos (show 0 < h.1 by omega) w0
          rw [X00] at t2
          omega
      rw [← this,← h2]
    · exact absurd f0 (hno 0 1 (by decide) (by decide) (by decide))
  · have : s = false := by
      cases s with
      | false => rfl
      | true => exact absurd (hs.1 rfl) hin
    rw [this,bif_false]
    have crs : ∀ v,0 ≤ v → v < len l → r2_cross k (el Z27 l v) (el Z27 l (nx (len l) v)) a (pl a b) = some (decide (CrP (q l v) (q l (nx (len l) v)) a (pl a b))) := by
      intro v v0 v1
      have hn := nx_range v0 v1
      exact cross_big (by omega) (Wb_cor hl v0 v1) (Wb_cor hl hn.1 hn.2) wa wt
    have skip : ∀ n v x y,0 ≤ v → v < len l → ¬ CrP (q l v) (q l (nx (len l) v)) a (pl a b) → r2_Line.c2 k l a b (n + 1) x y v = r2_Line.c2 k l a b n x y (v + 1) := by
      intro n v x y v0 v1 hc
      have hn := nx_range v0 v1
      have hr : irem (iadd .i64 v 1) (len l) = nx (len l) v := irem_nx v0 v1 (by omega)
      have st : iadd .i64 v 1 = v + 1 := iadd_i64 (by omega) (by omega)
      rw [r2_Line.c2,ilt_pos v1,bif_true,req_pos (inL_of v0 v1),req_pos (show nz (len l) by unfold nz; omega),req_pos (show inL (irem (iadd .i64 v 1) (len l)) l by rw [hr]; exact inL_of hn.1 hn.2),hr,tt,crs v v0 v1,bnd_some,decide_eq_false hc,bif_false,st]
    have take : ∀ n v x y,0 ≤ v → v < len l → CrP (q l v) (q l (nx (len l) v)) a (pl a b) → ∃ f Y w,0 < w ∧ 0 ≤ Y ∧ Y ≤ w ∧ Fea l a b Y w ∧ (0 ≤ f ∧ f ≤ 65536 ∧ f * w ≤ Y * 65536 ∧ Y * 65536 < (f + 1) * w) ∧ (dn l b v < 0 → Y = -nu l a v ∧ w = -dn l b v) ∧
        r2_Line.c2 k l a b (n + 1) x y v = bif' (bif y then decide (f < x) else true) (r2_Line.c2 k l a b n f true (v + 1)) (r2_Line.c2 k l a b n x y (v + 1)) := by
      intro n v x y v0 v1 hc
      have hn := nx_range v0 v1
      have hr : irem (iadd .i64 v 1) (len l) = nx (len l) v := irem_nx v0 v1 (by omega)
      have st : iadd .i64 v 1 = v + 1 := iadd_i64 (by omega) (by omega)
      obtain ⟨y23,y25,y27,y29,y31,f,Y,w,o1,o2,o3,o4,o5,o6,p1,p2,p3,p4,p5,p6⟩ := edge_val hk hl he ha hb hin v0 v1 hc
      refine ⟨f,Y,w,p1,p2,p3,p4,p5,p6,?_⟩
      have c5 : r2_Line.c5 k f x y = some (bif y then decide (f < x) else true) := by
        unfold r2_Line.c5
        cases y <;> rfl
      rw [r2_Line.c2,ilt_pos v1,bif_true,req_pos (inL_of v0 v1),req_pos (show nz (len l) by unfold nz; omega),req_pos (show inL (irem (iadd .i64 v 1) (len l)) l by rw [hr]; exact inL_of hn.1 hn.2),hr,tt,crs v v0 v1,bnd_some,decide_eq_true hc,bif_true,o1,bnd_some,o2,bnd_some,o3,bnd_some,o4,bnd_some,o5,bnd_some,o6,bnd_some,c5,bnd_some,st]
    rcases hh with ⟨X,w,h2,w0,X0,X1,hf,hmin,⟨t0,t1,t2,t3⟩,hl2⟩ | ⟨h0,hno⟩
    · rcases hl2 with ⟨x0,x1⟩ | ⟨i,i0,i1,d,x0,x1⟩
      · exfalso
        apply hin
        rw [x0,x1] at hf
        intro j j0 j1
        have := hf j j0 j1
        show 0 ≤ nu l a j
        omega
      · rw [x0,x1] at hf
        have hci := edge_rc he h3 i0 i1 d (by omega) (by omega) hf
        obtain ⟨s2,⟨I1,I2⟩,e2⟩ := inv_loop (fun n (s : Int × Bool) v => r2_Line.c2 k l a b n s.1 s.2 v) 0 (len l) (fun s v => (s.2 = true → h.1 ≤ s.1) ∧ (i < v → s = (h.1,true)))
          (by
            intro n s v v0 v1 ⟨I1,I2⟩
            show ∃ s',_ ∧ r2_Line.c2 k l a b (n + 1) s.1 s.2 v = _
            by_cases hc : CrP (q l v) (q l (nx (len l) v)) a (pl a b)
            · obtain ⟨f,Y,u,u0,Y0,Y1,hf2,⟨f0,f1,f2,f3⟩,hd,e⟩ := take n v s.1 s.2 v0 v1 hc
              have le1 : h.1 ≤ f := floor_le w0 u0 t2 f3 (hmin Y u u0 Y0 Y1 hf2)
              have eq1 : v = i → f = h.1 := by
                intro z
                subst z
                obtain ⟨z1,z2⟩ := hd d
                have : f ≤ h.1 := floor_le u0 w0 f2 t3 (by rw [z1,z2,x0,x1]; exact Int.le_refl _)
                omega
              rw [e]
              cases hs2 : s.2 with
              | false =>
                refine ⟨(f,true),⟨fun _ => le1,fun z => ?_⟩,rfl⟩
                by_cases c : v = i
                · rw [eq1 c]
                · have := I2 (by omega)
                  rw [this] at hs2
                  cases hs2
              | true =>
                have b1 := I1 hs2
                by_cases lt : f < s.1
                · refine ⟨(f,true),⟨fun _ => le1,fun z => ?_⟩,?_⟩
                  · by_cases c : v = i
                    · rw [eq1 c]
                    · have := I2 (by omega)
                      rw [this] at lt
                      dsimp only at lt
                      omega
                  · show bif' (decide (f < s.1)) _ _ = _
                    rw [decide_eq_true lt,bif_true]
                · refine ⟨s,⟨fun _ => b1,fun z => ?_⟩,?_⟩
                  · by_cases c : v = i
                    · have := eq1 c
                      have : s.1 = h.1 := by omega
                      rw [← this,← hs2]
                    · exact I2 (by omega)
                  · show bif' (decide (f < s.1)) _ _ = _
                    rw [decide_eq_false lt,bif_false,hs2]
            · refine ⟨s,⟨I1,fun z => ?_⟩,skip n v s.1 s.2 v0 v1 hc⟩
              by_cases c : v = i
              · rw [c] at hc
                exact absurd hci hc
              · exact I2 (by omega))
          (by
            intro n s v v0 v1
            show r2_Line.c2 k l a b (n + 1) s.1 s.2 v = _
            rw [r2_Line.c2,ilt_neg v1,bif_false])
          k (0,false) 0 (by omega) (by omega) (by omega) ⟨fun z => (by cases z),fun z => (by omega)⟩
        have e2 : r2_Line.c2 k l a b k 0 false 0 = some s2 := e2
        rw [e2,bnd_some,I2 i1,← h2]
    · obtain ⟨s2,I1,e2⟩ := inv_loop (fun n (s : Int × Bool) v => r2_Line.c2 k l a b n s.1 s.2 v) 0 (len l) (fun s _ => s = (0,false))
        (by
          intro n s v v0 v1 I1
          refine ⟨s,I1,?_⟩
          refine skip n v s.1 s.2 v0 v1 (fun hc => ?_)
          obtain ⟨f,Y,u,u0,Y0,Y1,hf2,_⟩ := take n v s.1 s.2 v0 v1 hc
          exact hno Y u u0 Y0 Y1 hf2)
        (by
          intro n s v v0 v1
          show r2_Line.c2 k l a b (n + 1) s.1 s.2 v = _
          rw [r2_Line.c2,ilt_neg v1,bif_false])
        k (0,false) 0 (by omega) (by omega) (by omega) rfl
      have e2 : r2_Line.c2 k l a b k 0 false 0 = some s2 := e2
      rw [e2,bnd_some,I1,h0]
end
end Go.Proofs.T1
namespace Go.Proofs.T1
open Go Go.Sx
theorem rwithin_gen (k : Nat) (a : V27) : ray_within k a = some (decide (Wn a)) := by
  unfold ray_within Wn
  by_cases h1 : a.1 ≥ -65536000 <;> by_cases h2 : a.1 ≤ 65536000 <;> by_cases h3 : a.2.1 ≥ -65536000 <;> by_cases h4 : a.2.1 ≤ 65536000 <;>
    simp [ige,ile,bif',h1,h2,h3,h4] <;> omega
theorem near1000_eq (k : Nat) (a : V27) : tourlaw2_near1000 k a = some (decide (Wn a)) := by
  have hm : imax a.1 a.2.1 ≤ 65536000 ↔ a.1 ≤ 65536000 ∧ a.2.1 ≤ 65536000 := by unfold imax; split <;> omega
  have hn : imin a.1 a.2.1 ≥ -65536000 ↔ -65536000 ≤ a.1 ∧ -65536000 ≤ a.2.1 := by unfold imin; split <;> omega
  unfold tourlaw2_near1000
  by_cases h1 : imax a.1 a.2.1 ≤ 65536000
  · rw [ile_pos h1,bif_true]
    unfold ige
    congr 1
    rw [decide_eq_decide,hn]
    rw [hm] at h1
    unfold Wn
    omega
  · rw [ile_neg (by omega),bif_false,decide_eq_false]
    intro h
    rw [hm] at h1
    unfold Wn at h
    omega
theorem rfirst_loop {k : Nat} {l : List V67} {f : ((List V27) × Unit) → Option (Int × Bool)} {g : Int → Int × Bool} (hg : ∀ j,0 ≤ j → j < len l → (∃ P,r2_Placed k (el Z67 l j) = some P ∧ f (P,()) = some (g j)) ∧ ((g j).2 = true → 0 ≤ (g j).1)) (hl : len l ≤ 64) :
    ∀ (n : Nat) (v : Int) (s : Int × Int),-1 ≤ v → v < len l → v + 1 < (n : Int) →
      ((s = (0,-1) ∧ ∀ j,v < j → j < len l → (g j).2 = false) ∨ (v < s.1 ∧ 0 ≤ s.1 ∧ s.1 < len l ∧ (g s.1).2 = true ∧ s.2 = (g s.1).1 ∧ ∀ j,v < j → j < len l → (g j).2 = true → (g s.1).1 ≤ (g j).1 ∧ (j < s.1 → (g s.1).1 < (g j).1))) →
      ∃ s',r2_First.c1 k l f n s.1 s.2 v = some s' ∧ ((s' = (0,-1) ∧ ∀ j,0 ≤ j → j < len l → (g j).2 = false) ∨ (0 ≤ s'.1 ∧ s'.1 < len l ∧ (g s'.1).2 = true ∧ s'.2 = (g s'.1).1 ∧ ∀ j,0 ≤ j → j < len l → (g j).2 = true → (g s'.1).1 ≤ (g j).1 ∧ (j < s'.1 → (g s'.1).1 < (g j).1))) := by
  intro n
  induction n with
  | zero => intro v s h0 _ h1; omega
  | succ n ih =>
    intro v s v0 v1 vn hI
    rw [r2_First.c1]
    by_cases c : 0 ≤ v
    · obtain ⟨⟨P,p1,p2⟩,p3⟩ := hg v c v1
      have st : isub .i64 v 1 = v - 1 := isub_i64 (by omega) (by omega)
      rw [ige_pos c,bif_true,req_pos (inL_of c v1),p1,bnd_some,p2,bnd_some,st]
      have c2 : ∀ x,r2_First.c2 k x (g v) = some ((g v).2 && (decide (x < 0) || decide ((g v).1 ≤ x))) := by
        intro x
        unfold r2_First.c2
        cases hz : (g v).2 with
        | false => rw [bif_false]; rfl
        | true =>
          rw [bif_true]
          by_cases d : x < 0
          · rw [ilt_pos d,bif_true,decide_eq_true d]; rfl
          · rw [ilt_neg (by omega),bif_false,decide_eq_false d]; rfl
      rw [c2,bnd_some]
      unfold r2_First.c3
      cases hz : (g v).2 with
      | false =>
        show ∃ s',bnd (bif' false _ _) _ = _ ∧ _
        rw [bif_false,bnd_some]
        refine ih (v - 1) s (by omega) (by omega) (by omega) ?_
        rcases hI with ⟨a,b⟩ | ⟨a,a0,a1,b,d,e⟩
        · refine Or.inl ⟨a,fun j j0 j1 => ?_⟩
          by_cases q : j = v
          · rw [q]; exact hz
          · exact b j (by omega) j1
        · refine Or.inr ⟨by omega,a0,a1,b,d,fun j j0 j1 j2 => ?_⟩
          by_cases q : j = v
          · rw [q,hz] at j2; cases j2
          · exact e j (by omega) j1 j2
      | true =>
        have g0 := p3 hz
        rcases hI with ⟨a,b⟩ | ⟨a,a0,a1,b,d,e⟩
        · rw [a,decide_eq_true (show (0,(-1 : Int)).2 < 0 by decide)]
          show ∃ s',bnd (bif' true _ _) _ = _ ∧ _
          rw [bif_true,bnd_some]
          refine ih (v - 1) (v,(g v).1) (by omega) (by omega) (by omega) (Or.inr ⟨by show v - 1 < v; omega,c,v1,hz,rfl,fun j j0 j1 j2 => ?_⟩)
          by_cases q : j = v
          · rw [q]; exact ⟨Int.le_refl _,fun x => absurd x (by show ¬ v < v; omega)⟩
          · rw [b j (by omega) j1] at j2; cases j2
        · have s0 : 0 ≤ s.2 := by rw [d]; exact (hg s.1 a0 a1).2 b
          by_cases le : (g v).1 ≤ s.2
          · rw [decide_eq_true le,Bool.or_true]
            show ∃ s',bnd (bif' true _ _) _ = _ ∧ _
            rw [bif_true,bnd_some]
            refine ih (v - 1) (v,(g v).1) (by omega) (by omega) (by omega) (Or.inr ⟨by show v - 1 < v; omega,c,v1,hz,rfl,fun j j0 j1 j2 => ?_⟩)
            by_cases q : j = v
            · rw [q]; exact ⟨Int.le_refl _,fun x => absurd x (by show ¬ v < v; omega)⟩
            · have := (e j (by omega) j1 j2).1
              refine ⟨by dsimp only; omega,fun x => ?_⟩
              dsimp only at x
              omega
          · rw [decide_eq_false le,decide_eq_false (by omega)]
            show ∃ s',bnd (bif' false _ _) _ = _ ∧ _
            rw [bif_false,bnd_some]
            refine ih (v - 1) s (by omega) (by omega) (by omega) (Or.inr ⟨by omega,a0,a1,b,d,fun j j0 j1 j2 => ?_⟩)
            by_cases q : j = v
            · rw [q]; exact ⟨by omega,fun x => by omega⟩
            · exact e j (by omega) j1 j2
    · rw [ige_neg (by omega),bif_false]
      have : v = -1 := by omega
      subst this
      refine ⟨s,rfl,?_⟩
      rcases hI with ⟨a,b⟩ | ⟨a,a0,a1,b,d,e⟩
      · exact Or.inl ⟨a,fun j j0 j1 => b j (by omega) j1⟩
      · exact Or.inr ⟨a0,a1,b,d,fun j j0 j1 j2 => e j (by omega) j1 j2⟩
theorem rfirst_eq {k : Nat} (hk : 100 < k) {l : List V67} (hA : AllK k l) (hl : len l ≤ 64) {fp fr : ((List V27) × Unit) → Option (Int × Bool)} (hfp : ∀ m,Val m → ∃ h,fp (m,()) = some h) 
    (hg : ∀ j,0 ≤ j → j < len l → (∃ P,r2_Placed k (el Z67 l j) = some P ∧ fr (P,()) = some (hitOf k fp (el Z67 l j))) ∧ ((hitOf k fp (el Z67 l j)).2 = true → 0 ≤ (hitOf k fp (el Z67 l j)).1)) :
    r2_First k l fr = ray_first k l fp := by
  obtain ⟨s,e,hs⟩ := rfirst_loop hg hl k (len l - 1) (0,-1) (by unfold len; omega) (by omega) (by omega) (Or.inl ⟨rfl,fun j j0 j1 => by omega⟩)
  have e : r2_First.c1 k l fr k 0 (-1) (len l - 1) = some s := e
  unfold r2_First
  rw [isub_i64 (by unfold len; omega) (by omega),e,bnd_some]
  rcases first_ok hk hA hl hfp with ⟨i,i0,i1,⟨F1,F2⟩,f⟩ | ⟨F,f⟩
  · rw [f]
    rcases hs with ⟨a,b⟩ | ⟨a0,a1,b,d,c⟩
    · rw [b i i0 i1] at F1; cases F1
    · have k0 := (hg s.1 a0 a1).2 b
      rw [ilt_neg (by omega),bif_false,d]
      have x1 := F2 s.1 a0 a1 b
      have x2 := c i i0 i1 F1
      have : s.1 = i := by
        rcases Int.lt_trichotomy s.1 i with z | z | z
        · have := x1.2 z; omega
        · exact z
        · have := x2.2 z; omega
      rw [this]
  · rw [f]
    rcases hs with ⟨a,b⟩ | ⟨a0,a1,b,d,c⟩
    · rw [a,ilt_pos (by decide),bif_true]
    · rw [F s.1 a0 a1] at b; cases b
theorem rbegun_eq : tourlaw2_rayBegun 1000 = some true := by kernel_rfl
end Go.Proofs.T1
