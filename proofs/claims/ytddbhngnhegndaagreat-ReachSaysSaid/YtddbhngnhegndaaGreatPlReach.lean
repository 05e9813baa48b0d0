import Derived.Test.YtddbhngnhegndaaGreatPlStep
namespace Go.Proofs.T1
open Go Go.Sx
open Classical in
theorem near_ref {k : Nat} (hk : 200 ≤ k) {a b : List V22} (va : Val a) (vb : Val b) : ∃ m n,near_Meet k a b = some (m,0) ∧ r2_Meet k a b = some m ∧ near_Apart k a b = some (n,0) ∧ r2_Apart k a b = some n ∧ 0 ≤ n ∧ n ≤ 1073741824 := by
  obtain ⟨l,e1,D,hl⟩ := Minus_dif (k := k) (by omega) va vb
  have E := Minus_E (k := k) (by omega) va vb e1
  obtain ⟨m,e2,hm⟩ := NMeet_eq (k := k) (by omega) va vb e1 D
  obtain ⟨n,e3,n0,n1,nA,nB⟩ := NApart_eq (k := k) (by omega) va vb e1 D
  have e6 := Meet_eq (k := k) (by omega) va vb
  have mm : m = decide (MeetP a b) := by
    by_cases h : MeetP a b
    · rw [decide_eq_true h]; exact hm.2 ((zed_iff va vb D).2 h)
    · rw [decide_eq_false h]
      cases m with
      | false => rfl
      | true => exact absurd ((zed_iff va vb D).1 (hm.1 rfl)) h
  have e7 : r2_Apart k a b = some n := by
    unfold r2_Apart
    rw [e6,bnd_some]
    by_cases h : MeetP a b
    · rw [decide_eq_true h,bif_true,NrL_in ((zed_iff va vb D).2 h) n0 nA]
    · have hz : ¬ InP l zed := fun g => h ((zed_iff va vb D).1 g)
      obtain ⟨s,f1,s0,f2,f3,f4⟩ := RApart_c1 (k := k) (by omega) va vb
      rw [decide_eq_false h,bif_false,f1,bnd_some]
      congr 1
      exact NrL_uniq s0 n0 ((NrL_pair D E hz).2 ⟨f2,f3⟩) (fun g => f4 ((NrL_pair D E hz).1 g)) nA nB
  exact ⟨m,n,e2,by rw [e6,mm],e3,e7,n0,n1⟩
open Classical in
theorem depth_ref {k : Nat} (hk : 200 ≤ k) {a b : List V22} (va : Val a) (vb : Val b) : ∃ m d u,sat_Test k a b = some (m,d,u) ∧ r2_Meet k a b = some m ∧ (m = true → ∃ s e,r2_Least k a b = some (s,e,d,())) ∧ (m = false → d = 0) := by
  have mi := meet_iff va.2.2.2 va.1 vb.2.2.2 vb.1
  rcases Test_eq (k := k) (by omega) va vb with ⟨n,T⟩ | ⟨n,s,e,d,u,T,pb,hu⟩
  · refine ⟨false,0,(0,0,()),T,?_,fun h => (by cases h),fun _ => rfl⟩
    rw [Meet_eq (by omega) va vb,decide_eq_false (fun h => n (mi.1 h))]
  · obtain ⟨s',e',d',R,pb'⟩ := RLeast_eq (k := k) hk va vb n.1 n.2
    obtain ⟨x1,x2,x3⟩ := PB_uniq pb' pb
    subst x1 x2 x3
    refine ⟨true,d',u,T,?_,fun _ => ⟨s',e',R⟩,fun h => (by cases h)⟩
    rw [Meet_eq (by omega) va vb,decide_eq_true (mi.2 n)]
theorem CMnn {x : Int} (h : 0 ≤ x) : 0 ≤ CM x ∧ CM x ≤ 1099511627776 := by unfold CM; split <;> (try split) <;> omega
theorem FMulnn {k : Nat} (hk : 2 ≤ k) {a b : Int} (ha : 0 ≤ a) (hb : 0 ≤ b) : ∃ r,fix_Mul k a b = some r ∧ 0 ≤ r ∧ r ≤ 1099511627776 := by
  have h := CMnn (rnd_nn (show (0 : Int) < 65536 by decide) (Int.mul_nonneg (CMnn ha).1 (CMnn hb).1))
  exact ⟨_,FMul_tot hk a b,h.1,h.2⟩
theorem mxf_nn {f : Nat → Int} {M : Int} : ∀ n,(∀ j,j ≤ n → 0 ≤ f j ∧ f j ≤ M) → 0 ≤ mxf f n ∧ mxf f n ≤ M := by
  intro n h
  obtain ⟨j,a,b⟩ := mxf_ex f n
  have := h j a
  rw [b]
  exact this
section
variable {p v : V22} {ang spin mass inertia bounce rub : Int} {l : List V22} {asleep : Bool} {calm : Int}
theorem reach_both {k : Nat} (hk : 70 ≤ k) (l3 : 3 ≤ len l) (l8 : len l ≤ 8) (lr : AllR l) : ∃ r,0 ≤ r ∧ r ≤ 1099511627778 ∧ reach_far k (p,v,ang,spin,mass,inertia,bounce,rub,l,asleep,calm,()) = some (if mass = 0 ∨ asleep = true then 0 else r) ∧
    r2_reachOf k (p,v,ang,spin,mass,inertia,bounce,rub,l,asleep,calm,()) = some r := by
  have ll : len l = (l.length : Int) := rfl
  obtain ⟨g,hg⟩ : ∃ g : Nat → Int,g = fun (j : Nat) => (vec_Len k (q l (j : Int))).getD 0 := ⟨_,rfl⟩
  have hl : ∀ j : Int,0 ≤ j → j < len l → vec_Len k (el Z22 l j) = some (g j.toNat) ∧ 0 ≤ g j.toNat ∧ g j.toNat ≤ 1099511627776 := by
    intro j j0 j1
    have hj := lr j j0 j1
    obtain ⟨r,e,h⟩ := vLen_eq hk (v := q l j) (by omega)
    have c := CMnn h.1
    have : g j.toNat = CM r := by
      rw [hg]
      dsimp only
      rw [show ((j.toNat : Nat) : Int) = j by omega,e]
      rfl
    rw [this]
    exact ⟨e,c⟩
  have gm : 0 ≤ mxf g (l.length - 1) ∧ mxf g (l.length - 1) ≤ 1099511627776 := mxf_nn _ fun j hj => by
    have := hl j (by omega) (by omega)
    rw [show ((j : Int)).toNat = j by omega] at this
    exact this.2
  refine ⟨mxf g (l.length - 1) + 2,by omega,by omega,?_,?_⟩
  · unfold reach_far
    have c1 : reach_far.c1 k (p,v,ang,spin,mass,inertia,bounce,rub,l,asleep,calm,()) = some (decide (mass = 0) || asleep) := by
      unfold reach_far.c1
      dsimp only
      by_cases h : mass = 0
      · rw [ieq_pos h,bif_true,decide_eq_true h]; rfl
      · rw [ieq_neg h,bif_false,decide_eq_false h]; rfl
    rw [c1,bnd_some]
    by_cases fr : mass = 0 ∨ asleep = true
    · have : (decide (mass = 0) || asleep) = true := by
        rcases fr with h | h
        · rw [decide_eq_true h]; rfl
        · rw [h]; simp
      rw [this,bif_true,if_pos fr]
    · have : (decide (mass = 0) || asleep) = false := by
        rw [decide_eq_false (fun h => fr (Or.inl h))]
        cases asleep with
        | false => rfl
        | true => exact absurd (Or.inr rfl) fr
      rw [this,bif_false,if_neg fr]
      obtain ⟨s,⟨_,s1⟩,e⟩ := inv_loop (fun n s i => reach_far.c2 k (p,v,ang,spin,mass,inertia,bounce,rub,l,asleep,calm,()) n s i) 0 (len l) (fun s i => (i = 0 → s = 0) ∧ (0 < i → s = mxf g (i.toNat - 1) + 2))
        (by
          intro n s i i0 i1 ⟨a,b⟩
          obtain ⟨e,r0,r1⟩ := hl i i0 i1
          have sb : 0 ≤ s ∧ s ≤ 1099511627778 := by
            by_cases c : i = 0
            · rw [a c]; decide
            · rw [b (by omega)]
              have := mxf_nn (f := g) (M := 1099511627776) (i.toNat - 1) fun j hj => by
                have := hl j (by omega) (by omega)
                rw [show ((j : Int)).toNat = j by omega] at this
                exact this.2
              omega
          refine ⟨imax s (g i.toNat + 2),⟨fun h => by omega,fun _ => ?_⟩,?_⟩
          · rw [show (i + 1).toNat - 1 = i.toNat by omega]
            by_cases c : i = 0
            · rw [a c,c]
              show imax 0 (g 0 + 2) = g 0 + 2
              have := hl 0 (by omega) (by omega)
              have z : (0 : Int).toNat = 0 := rfl
              rw [z] at this
              unfold imax
              rw [if_pos (by omega)]
            · rw [b (by omega)]
              obtain ⟨j,hj⟩ : ∃ j,i.toNat = j + 1 := ⟨i.toNat - 1,by omega⟩
              rw [hj,Nat.add_sub_cancel]
              unfold imax
              show _ = (if mxf g j < g (j + 1) then g (j + 1) else mxf g j) + 2
              split <;> split <;> omega
          · show reach_far.c2 k (p,v,ang,spin,mass,inertia,bounce,rub,l,asleep,calm,()) (n + 1) s i = _
            rw [reach_far.c2]
            dsimp only
            rw [ilt_pos i1,bif_true,req_pos (inL_of i0 i1),e,bnd_some,iadd_i64 (x := g i.toNat) (by omega) (by omega),iadd_i64 (x := i) (by omega) (by omega)])
        (by
          intro n s i i0 i1
          show reach_far.c2 k (p,v,ang,spin,mass,inertia,bounce,rub,l,asleep,calm,()) (n + 1) s i = some s
          rw [reach_far.c2]
          dsimp only
          rw [ilt_neg i1,bif_false])
        k 0 0 (by omega) (by omega) (by omega) ⟨fun _ => rfl,fun h => by omega⟩
      have e : reach_far.c2 k (p,v,ang,spin,mass,inertia,bounce,rub,l,asleep,calm,()) k 0 0 = some s := e
      rw [e,bnd_some,s1 (by omega),ll,show ((l.length : Nat) : Int).toNat = l.length by omega]
  · obtain ⟨z,⟨z1,z2⟩,e⟩ := inv_loop (fun n (z : List Int) i => r2_reachOf.c1 k (p,v,ang,spin,mass,inertia,bounce,rub,l,asleep,calm,()) n i z) 0 (len l) (fun z i => (z.length : Int) = i ∧ ∀ j : Nat,(j : Int) < i → z.getD j 0 = g j)
      (by
        intro n z i i0 i1 ⟨a,b⟩
        obtain ⟨e,r0,r1⟩ := hl i i0 i1
        refine ⟨z ++ [g i.toNat],⟨by rw [List.length_append]; show ((z.length + 1 : Nat) : Int) = i + 1; omega,fun j hj => ?_⟩,?_⟩
        · rw [List.getD_eq_getElem?_getD]
          by_cases c : j < z.length
          · rw [List.getElem?_append_left c,← List.getD_eq_getElem?_getD]
            exact b j (by omega)
          · have : j = z.length := by omega
            rw [this,List.getElem?_concat_length,show i.toNat = z.length by omega]
            rfl
        · show r2_reachOf.c1 k (p,v,ang,spin,mass,inertia,bounce,rub,l,asleep,calm,()) (n + 1) i z = _
          rw [r2_reachOf.c1]
          dsimp only
          rw [ilt_pos i1,bif_true,req_pos (inL_of i0 i1),e,bnd_some,req_pos (show room 8 z [g i.toNat] by show (z.length + 1) * 8 ≤ 140737488355328; omega),iadd_i64 (by omega) (by omega)])
      (by
        intro n z i i0 i1
        show r2_reachOf.c1 k (p,v,ang,spin,mass,inertia,bounce,rub,l,asleep,calm,()) (n + 1) i z = some z
        rw [r2_reachOf.c1]
        dsimp only
        rw [ilt_neg i1,bif_false])
      k [] 0 (by omega) (by omega) (by omega) ⟨rfl,fun j h => by omega⟩
    have e : r2_reachOf.c1 k (p,v,ang,spin,mass,inertia,bounce,rub,l,asleep,calm,()) k 0 [] = some z := e
    have lz : len z = len l := z1
    have em : ∀ j : Int,0 ≤ j → j < len l → el 0 z j = g j.toNat := fun j j0 j1 => z2 j.toNat (by omega)
    obtain ⟨s,s1,f⟩ := inv_loop (fun n s i => slices_Max.c1 k z n s i) 1 (len l) (fun s i => s = mxf g (i.toNat - 1))
      (by
        intro n s i i0 i1 hs
        refine ⟨imax s (el 0 z i),?_,?_⟩
        · rw [em i (by omega) i1,hs]
          obtain ⟨j,hj⟩ : ∃ j,i.toNat = j + 1 := ⟨i.toNat - 1,by omega⟩
          rw [show (i + 1).toNat - 1 = i.toNat by omega,hj,Nat.add_sub_cancel]
          rfl
        · show slices_Max.c1 k z (n + 1) s i = _
          rw [slices_Max.c1,lz,ilt_pos i1,bif_true,req_pos (inL_of (by omega) (by omega)),iadd_i64 (by omega) (by omega)])
      (by
        intro n s i i0 i1
        show slices_Max.c1 k z (n + 1) s i = some s
        rw [slices_Max.c1,lz,ilt_neg i1,bif_false])
      k (el 0 z 0) 1 (by omega) (by omega) (by omega) (em 0 (by decide) (by omega))
    have f : slices_Max.c1 k z k (el 0 z 0) 1 = some s := f
    unfold r2_reachOf
    rw [e,bnd_some]
    unfold slices_Max
    rw [lz,ilt_neg (by omega),bif_false,req_pos (inL_of (by decide) (by omega)),f,bnd_some,bnd_some,s1,ll,show ((l.length : Nat) : Int).toNat = l.length by omega,iadd_i64 (by omega) (by omega)]
theorem turn_both {k : Nat} (hk : 70 ≤ k) (l3 : 3 ≤ len l) (l8 : len l ≤ 8) (lr : AllR l) (hs : -16777216 ≤ spin ∧ spin ≤ 16777216) {t : Int} (t0 : 0 ≤ t) : ∃ r a b c,r2_reachOf k (p,v,ang,spin,mass,inertia,bounce,rub,l,asleep,calm,()) = some r ∧
    fix_Mul k (mag spin) 411775 = some a ∧ fix_Mul k a r = some b ∧ fix_Mul k b t = some c ∧ 0 ≤ c ∧ c ≤ 1099511627776 ∧ reach_turning k (p,v,ang,spin,mass,inertia,bounce,rub,l,asleep,calm,()) t = some (if mass = 0 ∨ asleep = true then 0 else c + 4) := by
  obtain ⟨r,r0,r1,e1,e2⟩ := reach_both (p := p) (v := v) (ang := ang) (spin := spin) (mass := mass) (inertia := inertia) (bounce := bounce) (rub := rub) (asleep := asleep) (calm := calm) hk l3 l8 lr
  obtain ⟨a,ea,a0,a1⟩ := FMulnn (k := k) (by omega) (a := mag spin) (b := 411775) (mag_bd (M := 16777216) hs.1 hs.2).1 (by decide)
  obtain ⟨b,eb,b0,b1⟩ := FMulnn (k := k) (by omega) a0 r0
  obtain ⟨c,ec,c0,c1⟩ := FMulnn (k := k) (by omega) b0 t0
  refine ⟨r,a,b,c,e2,ea,eb,ec,c0,c1,?_⟩
  unfold reach_turning
  have h1 : reach_turning.c1 k (p,v,ang,spin,mass,inertia,bounce,rub,l,asleep,calm,()) = some (decide (mass = 0) || asleep) := by
    unfold reach_turning.c1
    dsimp only
    by_cases h : mass = 0
    · rw [ieq_pos h,bif_true,decide_eq_true h]; rfl
    · rw [ieq_neg h,bif_false,decide_eq_false h]; rfl
  rw [h1,bnd_some]
  by_cases fr : mass = 0 ∨ asleep = true
  · have : (decide (mass = 0) || asleep) = true := by
      rcases fr with h | h
      · rw [decide_eq_true h]; rfl
      · rw [h]; simp
    rw [this,bif_true,if_pos fr]
  · have : (decide (mass = 0) || asleep) = false := by
      rw [decide_eq_false (fun h => fr (Or.inl h))]
      cases asleep with
      | false => rfl
      | true => exact absurd (Or.inr rfl) fr
    rw [if_neg fr] at e1
    rw [this,bif_false,if_neg fr]
    dsimp only
    rw [imax_mag (by omega) (by omega),ea,bnd_some,e1,bnd_some,eb,bnd_some,ec,bnd_some,iadd_i64 (by omega) (by omega)]
end
end Go.Proofs.T1
namespace Go.Proofs.T1
open Go Go.Sx
theorem turn_X {k : Nat} (hk : 70 ≤ k) {X : V25} (hX : body_Check k X = some 0) {t : Int} (t0 : 0 ≤ t) : ∃ (fr : Bool) (r a b c : Int),r2_Free k X = some (!fr) ∧ r2_reachOf k X = some r ∧ 0 ≤ r ∧ r ≤ 1099511627778 ∧
    reach_far k X = some (if fr = true then 0 else r) ∧ fix_Mul k (mag X.2.2.2.1) 411775 = some a ∧ fix_Mul k a r = some b ∧ fix_Mul k b t = some c ∧ 0 ≤ c ∧ c ≤ 1099511627776 ∧ reach_turning k X t = some (if fr = true then 0 else c + 4) := by
  obtain ⟨p,v,ang,spin,mass,inertia,bounce,rub,l,asleep,calm,⟨⟩⟩ := X
  obtain ⟨_,⟨⟨l3,l8,lw,le⟩,lr,lf⟩,⟨bp,bv,bs,ba⟩,_,_⟩ := valid_parts (by omega) hX
  obtain ⟨r,r0,r1,e1,e2⟩ := reach_both (p := p) (v := v) (ang := ang) (spin := spin) (mass := mass) (inertia := inertia) (bounce := bounce) (rub := rub) (asleep := asleep) (calm := calm) hk l3 l8 lr
  obtain ⟨r',a,b,c,f1,f2,f3,f4,f5,f6,f7⟩ := turn_both (p := p) (v := v) (ang := ang) (spin := spin) (mass := mass) (inertia := inertia) (bounce := bounce) (rub := rub) (asleep := asleep) (calm := calm) hk l3 l8 lr (by omega) t0
  rw [e2] at f1
  cases f1
  have hF := Free_eq k (p := p) (v := v) (ang := ang) (spin := spin) (mass := mass) (inertia := inertia) (bounce := bounce) (rub := rub) (l := l) (asleep := asleep) (calm := calm)
  by_cases fr : mass = 0 ∨ asleep = true
  · rw [if_pos fr] at e1 f7
    refine ⟨true,r,a,b,c,?_,e2,r0,r1,e1,f2,f3,f4,f5,f6,f7⟩
    rw [hF]
    rcases fr with h | h
    · rw [decide_eq_false (fun g => g h)]; rfl
    · rw [h]; simp
  · rw [if_neg fr] at e1 f7
    refine ⟨false,r,a,b,c,?_,e2,r0,r1,e1,f2,f3,f4,f5,f6,f7⟩
    rw [hF,decide_eq_true (show mass ≠ 0 from fun h => fr (Or.inl h))]
    cases asleep with
    | false => rfl
    | true => exact absurd (Or.inr rfl) fr
theorem Bound_step {k : Nat} {A B X : V25} {st i : Int} (i0 : 0 ≤ i) (i1 : i < 2) (hi : el Z25 [A,B] i = X) {fr : Bool} {r a b c : Int} (h1 : r2_Free k X = some (!fr)) (h2 : r2_reachOf k X = some r)
    (h3 : fix_Mul k (mag X.2.2.2.1) 411775 = some a) (hs : -16777216 ≤ X.2.2.2.1 ∧ X.2.2.2.1 ≤ 16777216) (h4 : fix_Mul k a r = some b) (h5 : fix_Mul k b st = some c) (c0 : 0 ≤ c) (c1 : c ≤ 1099511627776) (n : Nat) {s : Int} (s0 : 0 ≤ s) (s1 : s ≤ 35184372088832) :
    r2_Bound.c1 k A B st (n + 1) s i = r2_Bound.c1 k A B st n (s + (if fr = true then 0 else c + 4)) (i + 1) := by
  have hc : r2_Bound.c2 k A B i = some (mag X.2.2.2.1) := by
    unfold r2_Bound.c2
    rw [hi]
    unfold mag
    by_cases g : X.2.2.2.1 < 0
    · rw [ilt_pos g,bif_true,if_pos g,ineg_i64 (by omega) (by omega)]
    · rw [ilt_neg (by omega),bif_false,if_neg g]
  rw [r2_Bound.c1,show len [A,B] = 2 from rfl,ilt_pos i1,bif_true,req_pos (inL_of i0 (show i < len [A,B] from i1)),hc,hi,h1,bnd_some,iadd_i64 (x := i) (by omega) (by omega)]
  cases fr with
  | true =>
    show bif' false _ _ = _
    rw [bif_false,if_pos rfl,Int.add_zero]
  | false =>
    show bif' true _ _ = _
    rw [bif_true,bnd_some,h3,bnd_some,h2,bnd_some,h4,bnd_some,h5,bnd_some,iadd_i64 (x := 4) (by omega) (by omega),iadd_i64 (by omega) (by omega),if_neg (by decide),Int.add_comm 4 c]
theorem Slack_step {k : Nat} {A B X : V25} {i : Int} (i0 : 0 ≤ i) (i1 : i < 2) (hi : el Z25 [A,B] i = X) {fr : Bool} {r : Int} (h1 : r2_Free k X = some (!fr)) (h2 : r2_reachOf k X = some r) (n : Nat) (s : Int) :
    r2_Time.c1 k A B (n + 1) s i = r2_Time.c1 k A B n (iadd .i64 s (iquo .i64 (imul .i64 14 (if fr = true then 0 else r)) 65536)) (i + 1) ∨ (fr = true ∧ r2_Time.c1 k A B (n + 1) s i = r2_Time.c1 k A B n s (i + 1)) := by
  rw [r2_Time.c1,show len [A,B] = 2 from rfl,ilt_pos i1,bif_true,req_pos (inL_of i0 (show i < len [A,B] from i1)),hi,h1,bnd_some,iadd_i64 (x := i) (by omega) (by omega)]
  cases fr with
  | true => exact Or.inr ⟨rfl,rfl⟩
  | false =>
    left
    show bif' true _ _ = _
    rw [bif_true,h2,bnd_some,if_neg (by decide)]
theorem Checks_in {k : Nat} (hk : 3 ≤ k) {A B : V25} {e f : Int} (hA : body_Check k A = some e) (hB : body_Check k B = some f) : reach_Bound.c1 k A B k 0 = some (if e ≠ 0 then .inl e else if f ≠ 0 then .inl f else .inr ()) := by
  have hl : len [A,B] = 2 := rfl
  have run : ∀ g : Nat,reach_Bound.c1 k A B (g + 3) 0 = some (if e ≠ 0 then .inl e else if f ≠ 0 then .inl f else .inr ()) := by
    intro g
    rw [reach_Bound.c1,hl,ilt_pos (by decide),bif_true,req_pos (inL_of (by decide) (by rw [hl]; decide))]
    show bnd (body_Check k A) _ = _
    rw [hA,bnd_some]
    by_cases c : e = 0
    · rw [ine_neg c,bif_false,if_neg (fun h => h c),iadd_i64 (by decide) (by decide)]
      show reach_Bound.c1 k A B (g + 2) 1 = _
      rw [reach_Bound.c1,hl,ilt_pos (by decide),bif_true,req_pos (inL_of (by decide) (by rw [hl]; decide))]
      show bnd (body_Check k B) _ = _
      rw [hB,bnd_some]
      by_cases d : f = 0
      · rw [ine_neg d,bif_false,if_neg (fun h => h d),iadd_i64 (by decide) (by decide)]
        show reach_Bound.c1 k A B (g + 1) 2 = _
        rw [reach_Bound.c1,hl,ilt_neg (by decide),bif_false]
      · rw [ine_pos d,bif_true,if_pos d]
    · rw [ine_pos c,bif_true,if_pos c]
  have r := run (k - 3)
  rw [show k - 3 + 3 = k by omega] at r
  exact r
theorem Bound_ref {k : Nat} (hk : 70 ≤ k) {A B : V25} (hA : body_Check k A = some 0) (hB : body_Check k B = some 0) {st : Int} (s0 : 0 ≤ st) (s1 : st ≤ 65536) :
    ∃ n,reach_Bound k A B st = some (n,0) ∧ r2_Bound k A B st = some n ∧ 8 ≤ n ∧ n ≤ 35184372088832 := by
  have pa : -16777216 ≤ A.2.2.2.1 ∧ A.2.2.2.1 ≤ 16777216 ∧ -1099511627776 ≤ A.2.1.1 ∧ A.2.1.1 ≤ 1099511627776 ∧ -1099511627776 ≤ A.2.1.2.1 ∧ A.2.1.2.1 ≤ 1099511627776 := by
    obtain ⟨p,v,ang,spin,mass,inertia,bounce,rub,l,asleep,calm,⟨⟩⟩ := A
    obtain ⟨_,_,⟨bp,bv,bs,ba⟩,_,_⟩ := valid_parts (by omega) hA
    unfold Bd at bv
    dsimp only
    omega
  have pb : -16777216 ≤ B.2.2.2.1 ∧ B.2.2.2.1 ≤ 16777216 ∧ -1099511627776 ≤ B.2.1.1 ∧ B.2.1.1 ≤ 1099511627776 ∧ -1099511627776 ≤ B.2.1.2.1 ∧ B.2.1.2.1 ≤ 1099511627776 := by
    obtain ⟨p,v,ang,spin,mass,inertia,bounce,rub,l,asleep,calm,⟨⟩⟩ := B
    obtain ⟨_,_,⟨bp,bv,bs,ba⟩,_,_⟩ := valid_parts (by omega) hB
    unfold Bd at bv
    dsimp only
    omega
  obtain ⟨fa,ra,a1,a2,a3,A1,A2,A3,A4,A5,A6,A7,A8,A9,A10,A11⟩ := turn_X hk hA s0
  obtain ⟨fb,rb,b1,b2,b3,B1,B2,B3,B4,B5,B6,B7,B8,B9,B10,B11⟩ := turn_X hk hB s0
  obtain ⟨r1,er1,g1⟩ := vLen_eq hk (v := A.2.1) (by omega)
  obtain ⟨r2,er2,g2⟩ := vLen_eq hk (v := B.2.1) (by omega)
  have q1 := CMnn g1.1
  have q2 := CMnn g2.1
  obtain ⟨w,ew,w0,w1⟩ := FMulnn (k := k) (by omega) (a := CM r1 + CM r2 + 4) (b := st) (by omega) s0
  have c1 := Checks_in (by omega) hA hB
  rw [if_neg (fun h => h rfl),if_neg (fun h => h rfl)] at c1
  have c2 : reach_Bound.c2 k st = some false := by
    unfold reach_Bound.c2
    rw [ilt_neg s0,bif_false,igt_neg s1]
  have ta : 0 ≤ (if fa = true then 0 else a3 + 4) ∧ (if fa = true then 0 else a3 + 4) ≤ 1099511627780 := by split <;> omega
  have tb : 0 ≤ (if fb = true then 0 else b3 + 4) ∧ (if fb = true then 0 else b3 + 4) ≤ 1099511627780 := by split <;> omega
  refine ⟨w + 8 + (if fa = true then 0 else a3 + 4) + (if fb = true then 0 else b3 + 4),?_,?_,by omega,by omega⟩
  · unfold reach_Bound
    rw [c1,bnd_some,two_inr,c2,bnd_some,bif_false,er1,bnd_some,er2,bnd_some,iadd_i64 (x := CM r1) (by omega) (by omega),iadd_i64 (x := CM r1 + CM r2) (by omega) (by omega),ew,bnd_some,A11,bnd_some,B11,bnd_some,iadd_i64 (x := w) (by omega) (by omega),iadd_i64 (x := w + 8) (by omega) (by omega),iadd_i64 (by omega) (by omega)]
  · obtain ⟨j,hj⟩ : ∃ j,k = j + 3 := ⟨k - 3,by omega⟩
    have run : r2_Bound.c1 k A B st k (w + 8) 0 = some (w + 8 + (if fa = true then 0 else a3 + 4) + (if fb = true then 0 else b3 + 4)) := by
      have e1 := Bound_step (A := A) (B := B) (X := A) (i := 0) (by decide) (by decide) rfl A1 A2 A6 ⟨pa.1,pa.2.1⟩ A7 A8 A9 A10 (j + 2) (s := w + 8) (by omega) (by omega)
      have e2 := Bound_step (A := A) (B := B) (X := B) (i := 1) (by decide) (by decide) rfl B1 B2 B6 ⟨pb.1,pb.2.1⟩ B7 B8 B9 B10 (j + 1) (s := w + 8 + (if fa = true then 0 else a3 + 4)) (by omega) (by omega)
      have e3 : r2_Bound.c1 k A B st (j + 1) (w + 8 + (if fa = true then 0 else a3 + 4) + (if fb = true then 0 else b3 + 4)) 2 = some (w + 8 + (if fa = true then 0 else a3 + 4) + (if fb = true then 0 else b3 + 4)) := by
        rw [r2_Bound.c1,show len [A,B] = 2 from rfl,ilt_neg (by decide),bif_false]
      have e0 : r2_Bound.c1 k A B st k (w + 8) 0 = r2_Bound.c1 k A B st (j + 2 + 1) (w + 8) 0 := congrArg (fun n => r2_Bound.c1 k A B st n (w + 8) 0) hj
      exact e0.trans (e1.trans (e2.trans e3))
    unfold r2_Bound
    rw [er1,bnd_some,er2,bnd_some,iadd_i64 (x := CM r1) (by omega) (by omega),iadd_i64 (x := CM r1 + CM r2) (by omega) (by omega),ew,bnd_some,iadd_i64 (x := w) (by omega) (by omega),run,bnd_some]
theorem Bound_bad {k : Nat} {A B : V25} {e : Int} (h : reach_Bound.c1 k A B k 0 = some (.inl e)) (st : Int) : reach_Bound k A B st = some (0,e) := by
  unfold reach_Bound
  rw [h,bnd_some,two_inl]
theorem Bound_bad_step {k : Nat} {A B : V25} (h : reach_Bound.c1 k A B k 0 = some (.inr ())) {st : Int} (hs : st < 0 ∨ 65536 < st) : reach_Bound k A B st = some (0,1) := by
  have c2 : reach_Bound.c2 k st = some true := by
    unfold reach_Bound.c2
    by_cases g : st < 0
    · rw [ilt_pos g,bif_true]
    · rw [ilt_neg (by omega),bif_false,igt_pos (by omega)]
  unfold reach_Bound
  rw [h,bnd_some,two_inr,c2,bnd_some,bif_true]
theorem all_bad {k : Nat} {A B : V25} {st e : Int} (h : reach_Bound k A B st = some (0,e)) (he : e ≠ 0) : reach_Time k A B st = some (0,false,e) ∧ reach_Sink k A B st = some (0,e) := by
  constructor
  · unfold reach_Time
    rw [h,bnd_some,ine_pos he,bif_true]
  · unfold reach_Sink
    rw [h,bnd_some,ine_pos he,bif_true]
def StepQ (k : Nat) (A B : V25) (st t : Int) : Prop := ∃ y a' b' P Q m d,fix_Mul k st t = some y ∧ body_Move k A y = some a' ∧ body_Move k B y = some b' ∧ body_Place k a' = some P ∧ body_Place k b' = some Q ∧
  r2_Step k A y = some a' ∧ r2_Step k B y = some b' ∧ r2_Placed k a' = some P ∧ r2_Placed k b' = some Q ∧ near_Meet k P Q = some (m,0) ∧ r2_Meet k P Q = some m ∧ near_Apart k P Q = some (d,0) ∧ r2_Apart k P Q = some d ∧
  (0 ≤ d ∧ d ≤ 1073741824) ∧ Val P ∧ Val Q
theorem Step_X {k : Nat} (hk : 300 ≤ k) (hk2 : k ≤ 10000) {X : V25} (hX : body_Check k X = some 0) {t : Int} (t0 : 0 ≤ t) (t1 : t ≤ 65536) : ∃ X' P,body_Move k X t = some X' ∧ r2_Step k X t = some X' ∧ body_Place k X' = some P ∧ r2_Placed k X' = some P ∧ Val P := by
  obtain ⟨p,v,ang,spin,mass,inertia,bounce,rub,l,asleep,calm,⟨⟩⟩ := X
  obtain ⟨p',ang',e1,e2,e3⟩ := Step_both hk hk2 hX t0 t1
  obtain ⟨P,f1,f2,f3⟩ := Place_both (by omega) e3
  exact ⟨_,P,e1,e2,f1,f2,f3⟩
theorem StepQ_all {k : Nat} (hk : 300 ≤ k) (hk2 : k ≤ 10000) {A B : V25} (hA : body_Check k A = some 0) (hB : body_Check k B = some 0) {st : Int} (s0 : 0 ≤ st) (s1 : st ≤ 65536) {t : Int} (t0 : 0 ≤ t) (t1 : t ≤ 65536) : StepQ k A B st t := by
  have mb := mul_bd (x := st) (y := t) (M := 65536) (N := 65536) (by omega) (by omega) (by omega) (by omega)
  have mn := Int.mul_nonneg s0 t0
  have rb := rnd_bd (x := st * t) (n := 65536) (c := 65536) (by decide) (by omega) (by omega)
  have rn := rnd_nn (x := st * t) (n := 65536) (by decide) mn
  have em : fix_Mul k st t = some (rnd (st * t) 65536) := by
    rw [FMul_tot (by omega),CM_in (x := st) (by omega) (by omega),CM_in (x := t) (by omega) (by omega),CM_in (by omega) (by omega)]
  obtain ⟨a',P,a1,a2,a3,a4,a5⟩ := Step_X hk hk2 hA rn rb.2
  obtain ⟨b',Q,b1,b2,b3,b4,b5⟩ := Step_X hk hk2 hB rn rb.2
  obtain ⟨m,d,n1,n2,n3,n4,n5,n6⟩ := near_ref (k := k) (by omega) a5 b5
  exact ⟨_,a',b',P,Q,m,d,em,a1,b1,a3,b3,a2,b2,a4,b4,n1,n2,n3,n4,⟨n5,n6⟩,a5,b5⟩
theorem depth_X {k : Nat} (hk : 200 ≤ k) {A B : V25} {st t : Int} (H : StepQ k A B st t) : ∃ d,reach_depth k A B st t = some d ∧ r2_Sink_1 k t A st B = some d := by
  obtain ⟨y,a',b',P,Q,m,d,h1,h2,h3,h4,h5,h6,h7,h8,h9,h10,h11,h12,h13,_,vP,vQ⟩ := H
  obtain ⟨m',d',u,e1,e2,e3,e4⟩ := depth_ref hk vP vQ
  refine ⟨d',?_,?_⟩
  · unfold reach_depth
    rw [h1,bnd_some,h2,bnd_some,h4,bnd_some,bnd_some,h3,bnd_some,h5,bnd_some,e1,bnd_some]
  · unfold r2_Sink_1
    rw [h1,bnd_some,h6,bnd_some,h8,bnd_some,bnd_some,h7,bnd_some,h9,bnd_some,e2,bnd_some]
    cases m' with
    | true =>
      obtain ⟨s,e,f⟩ := e3 rfl
      rw [bif_true,f,bnd_some]
    | false => rw [bif_false,e4 rfl]
theorem Time_ref {k : Nat} {A B : V25} {st : Int} (H : ∀ t,0 ≤ t → t ≤ 65536 → StepQ k A B st t) {y1 y4 f g s : Int} (h1 : 1 ≤ y1)
    (es : iadd .i64 (iadd .i64 (iadd .i64 16 (imul .i64 2 (iquo .i64 y4 65536))) (iquo .i64 (imul .i64 14 f) 65536)) (iquo .i64 (imul .i64 14 g) 65536) = s) (s0 : 0 ≤ s) (s1 : s ≤ 4611686018427387904) :
    ∀ (n : Nat) (t c : Int),0 ≤ t → t ≤ 65536 → 65536 - t ≤ 256 * ((n : Int) - 1) → 0 ≤ c → (t < 65536 → 256 * c ≤ t) → (t = 65536 → c ≤ 257) →
      ∃ r,reach_Time.c1 k A B st (y1,0) (y4,0) f g n t = some r ∧ r2_Time.c2 k A B st s y1 n t c = some (.inl r) := by
  intro n
  induction n with
  | zero => intro t c t0 t1 hn; omega
  | succ n ih =>
    intro t c t0 t1 hn c0 c1 c2
    obtain ⟨y,a',b',P,Q,m,d,e1,e2,e3,e4,e5,e6,e7,e8,e9,e10,e11,e12,e13,⟨d0,d1⟩,_,_⟩ := H t t0 t1
    rw [reach_Time.c1,r2_Time.c2,ilt_pos (show c < 300 by omega),bif_true]
    simp only [e1,e2,e3,e4,e5,e6,e7,e8,e9,e10,e11,bnd_some]
    cases m with
    | true =>
      rw [bif_true,bif_true]
      exact ⟨(t,true),rfl,rfl⟩
    | false =>
      rw [bif_false,bif_false]
      by_cases ct : t = 65536
      · rw [ieq_pos ct,bif_true,bif_true]
        exact ⟨(0,false),rfl,rfl⟩
      · rw [ieq_neg ct,bif_false,bif_false,e12,bnd_some,e13,bnd_some,req_pos (show nz y1 by unfold nz; omega)]
        dsimp only
        rw [es]
        have sub : isub .i64 d s = d - s := isub_i64 (by omega) (by omega)
        obtain ⟨z,ez,z0,z1,zz⟩ : ∃ z,iquo .i64 (imul .i64 (imax 0 (d - s)) 65536) y1 = z ∧ 0 ≤ z ∧ z ≤ 70368744177664 ∧ (d ≤ s → z = 0) := by
          have mx : 0 ≤ imax 0 (d - s) ∧ imax 0 (d - s) ≤ 1073741824 := by unfold imax; split <;> omega
          have mz : d ≤ s → imax 0 (d - s) = 0 := by intro h; unfold imax; split <;> omega
          generalize imax 0 (d - s) = w at *
          rw [imul_i64 (by omega) (by omega),iquo_i64 (by omega) (by omega) (by omega)]
          refine ⟨_,rfl,Int.ediv_nonneg (by omega) (by omega),?_,fun h => by rw [mz h]; simp⟩
          have := Int.ediv_le_self y1 (show 0 ≤ w * 65536 by omega)
          omega
        rw [sub,ez]
        have pos : d > s → imax 0 (d - s) = d - s := by intro h; unfold imax; split <;> omega
        have r3 : r2_Time.c3 k s y1 d = some (decide (256 < z)) := by
          unfold r2_Time.c3
          by_cases g : d > s
          · rw [igt_pos g,bif_true,req_pos (show nz y1 by unfold nz; omega),sub,← pos g,ez]
            by_cases q : 256 < z
            · rw [igt_pos q,decide_eq_true q]
            · rw [igt_neg (by omega),decide_eq_false q]
          · rw [igt_neg (by omega),bif_false,decide_eq_false (by have := zz (by omega); omega)]
        have r4 : r2_Time.c4 k s (decide (256 < z)) y1 d = some (imax 256 z) := by
          unfold r2_Time.c4 imax
          by_cases q : 256 < z
          · have g : d > s := by
              rcases Int.lt_or_le s d with g | g
              · exact g
              · have := zz g; omega
            rw [decide_eq_true q,bif_true,req_pos (show nz y1 by unfold nz; omega),sub,← pos g,ez,if_pos q]
          · rw [decide_eq_false q,bif_false,if_neg q]
        rw [r3,bnd_some,r4,bnd_some]
        have mx : 256 ≤ imax 256 z ∧ imax 256 z ≤ 70368744177664 := by unfold imax; split <;> omega
        generalize imax 256 z = w at *
        have nt : imin 65536 (iadd .i64 t w) = (if t + w < 65536 then t + w else 65536) := by
          rw [iadd_i64 (by omega) (by omega)]
          rfl
        rw [nt,iadd_i64 (x := t) (by omega) (by omega),iadd_i64 (x := c) (by omega) (by omega)]
        obtain ⟨r,r1,r2⟩ := ih (if t + w < 65536 then t + w else 65536) (c + 1) (by split <;> omega) (by split <;> omega) (by split <;> omega) (by omega) (by split <;> omega) (by split <;> omega)
        refine ⟨r,r1,?_⟩
        by_cases q : t + w > 65536
        · rw [igt_pos q,bif_true]
          rw [if_neg (by omega)] at r2
          exact r2
        · rw [igt_neg (by omega),bif_false]
          by_cases u : t + w < 65536
          · rw [if_pos u] at r2
            exact r2
          · rw [if_neg u] at r2
            rw [show t + w = 65536 by omega]
            exact r2
theorem Sink_ref {k : Nat} {A B : V25} {st : Int} (hk : 200 ≤ k) (H : ∀ t,0 ≤ t → t ≤ 65536 → StepQ k A B st t) {y1 y4 N M : Int} (hN : N = y1 / 8192 + 1) (h1 : 8 ≤ y1 ∧ y1 ≤ 35184372088832) (hM : M = imin N 1024) :
    ∀ (n : Nat) (j : Int),0 ≤ j → j ≤ M → M - j + 1 ≤ (n : Int) → ∃ r,reach_Sink.c1 k A B st (y1,0) y4 n (j * 65536 / N) j = some r ∧
      (r2_Sink.c1 k A B st y1 y4 n (j + 1) = some (.inl r) ∨ (r2_Sink.c1 k A B st y1 y4 n (j + 1) = some (.inr ()) ∧ r = M * 65536 / N)) := by
  have hm : 1 ≤ M ∧ M ≤ N ∧ M ≤ 1024 ∧ (∀ j : Int,j < M ↔ j < N ∧ j < 1024) := by
    rw [hM]
    unfold imin
    refine ⟨by split <;> omega,by split <;> omega,by split <;> omega,fun j => by split <;> omega⟩
  have e1 : iadd .i64 (iquo .i64 y1 8192) 1 = N := by
    rw [iquo_i64 (by omega) (by omega) (by decide),iadd_i64 (by omega) (by omega),hN]
  have hz : nz N := by unfold nz; omega
  intro n
  induction n with
  | zero => intro j j0 j1 hn; omega
  | succ n ih =>
    intro j j0 j1 hn
    rw [reach_Sink.c1,r2_Sink.c1]
    dsimp only
    have c2 : r2_Sink.c2 k (j + 1) y1 = some (decide (j < M)) := by
      unfold r2_Sink.c2
      rw [e1]
      have := hm.2.2.2 j
      by_cases c : j < N
      · rw [ile_pos (by omega),bif_true]
        by_cases d : j < 1024
        · rw [ile_pos (by omega),decide_eq_true (by omega)]
        · rw [ile_neg (by omega),decide_eq_false (by omega)]
      · rw [ile_neg (by omega),bif_false,decide_eq_false (by omega)]
    rw [c2,bnd_some,e1,← hM]
    by_cases c : j < M
    · have q : iquo .i64 (imul .i64 (j + 1) 65536) N = (j + 1) * 65536 / N := by
        rw [imul_i64 (by omega) (by omega),iquo_i64 (by omega) (by omega) (by omega)]
      have q0 : 0 ≤ (j + 1) * 65536 / N := Int.ediv_nonneg (by omega) (by omega)
      have q1 : (j + 1) * 65536 / N ≤ 65536 := by
        have : (j + 1) * 65536 ≤ 65536 * N := by omega
        have := Int.ediv_le_ediv (c := N) (by omega) this
        rw [Int.mul_ediv_cancel _ (by omega)] at this
        exact this
      obtain ⟨d,d1,d2⟩ := depth_X hk (H _ q0 q1)
      rw [ilt_pos c,bif_true,decide_eq_true c,bif_true,req_pos hz,req_pos hz,iadd_i64 (x := j) (by omega) (by omega),q,d1,bnd_some,d2,bnd_some]
      by_cases g : d > iadd .i64 y4 16384
      · rw [igt_pos g,bif_true,bif_true,isub_i64 (by omega) (by omega),show j + 1 - 1 = j by omega,imul_i64 (by omega) (by omega),iquo_i64 (by omega) (by omega) (by omega)]
        exact ⟨_,rfl,Or.inl rfl⟩
      · rw [igt_neg (by omega),bif_false,bif_false,iadd_i64 (x := j + 1) (by omega) (by omega)]
        exact ih (j + 1) (by omega) (by omega) (by omega)
    · rw [ilt_neg (by omega),bif_false,decide_eq_false c,bif_false]
      have : j = M := by omega
      exact ⟨_,rfl,Or.inr ⟨rfl,by rw [this]⟩⟩
theorem begun_eq : tourlaw2_reachBegun 1200 = some true := by kernel_rfl
theorem ReachSays_true (A B : V25) (st : Int) : tourlaw2_ReachSays 1200 A B st = some true := by
  have chk : ∀ X : V25,∃ e,body_Check 1200 X = some e ∧ r2_Body 1200 X = some e := by
    intro X
    obtain ⟨p,v,ang,spin,mass,inertia,bounce,rub,l,asleep,calm,⟨⟩⟩ := X
    obtain ⟨e,e1,h1⟩ := bodyCheck_gen (k := 1200) (by decide) (p := p) (v := v) (ang := ang) (spin := spin) (mass := mass) (inertia := inertia) (bounce := bounce) (rub := rub) (l := l) (asleep := asleep) (calm := calm)
    obtain ⟨e',e2,h2⟩ := RBody_gen (k := 1200) (by decide) (p := p) (v := v) (ang := ang) (spin := spin) (mass := mass) (inertia := inertia) (bounce := bounce) (rub := rub) (l := l) (asleep := asleep) (calm := calm)
    exact ⟨e,e1,by rw [e2,Bc_uniq h2 h1]⟩
  obtain ⟨ea,ca,ra⟩ := chk A
  obtain ⟨eb,cb,rb⟩ := chk B
  have C1 := Checks_in (by decide) ca cb
  have bad : ∀ e : Int,e ≠ 0 → reach_Bound 1200 A B st = some (0,e) → ∀ o15 : Int,tourlaw2_ReachSays.c1 1200 B ea = some o15 → ∀ o19,tourlaw2_ReachSays.c2 1200 st o15 = some o19 → tourlaw2_ReachSays.c3 1200 o15 o19 = some e → tourlaw2_ReachSays 1200 A B st = some true := by
    intro e he hb o15 h15 o19 h19 h22
    obtain ⟨ht,hs⟩ := all_bad hb he
    unfold tourlaw2_ReachSays
    rw [begun_eq,bnd_some,bif_true,hb,bnd_some,ht,bnd_some,hs,bnd_some,ra,bnd_some,h15,bnd_some,h19,bnd_some,h22,bnd_some,ine_pos he,bif_true]
    unfold tourlaw2_ReachSays.c4
    dsimp only
    rw [ieq_pos rfl,bif_true,bif_true,bif_true,ieq_pos rfl,bif_true,bif_true,bif_false]
    rfl
  by_cases za : ea = 0
  · by_cases zb : eb = 0
    · rw [if_neg (fun h => h za),if_neg (fun h => h zb)] at C1
      rw [za] at ca ra
      rw [zb] at cb rb
      have h15 : tourlaw2_ReachSays.c1 1200 B ea = some 0 := by
        unfold tourlaw2_ReachSays.c1
        rw [ieq_pos za,bif_true,rb,bnd_some]
      by_cases hs : st < 0 ∨ 65536 < st
      · have h19 : tourlaw2_ReachSays.c2 1200 st 0 = some true := by
          unfold tourlaw2_ReachSays.c2
          rw [ieq_pos rfl,bif_true]
          by_cases g : st < 0
          · rw [ilt_pos g,bif_true]
          · rw [ilt_neg (by omega),bif_false,igt_pos (by omega)]
        exact bad 1 (by decide) (Bound_bad_step C1 hs) 0 h15 true h19 rfl
      · have s0 : 0 ≤ st := by omega
        have s1 : st ≤ 65536 := by omega
        have h19 : tourlaw2_ReachSays.c2 1200 st 0 = some false := by
          unfold tourlaw2_ReachSays.c2
          rw [ieq_pos rfl,bif_true,ilt_neg s0,bif_false,igt_neg s1]
        have h22 : tourlaw2_ReachSays.c3 1200 0 false = some 0 := rfl
        obtain ⟨y1,b1,b2,b3,b4⟩ := Bound_ref (k := 1200) (by decide) ca cb s0 s1
        obtain ⟨y4,d1,d2,d3,d4⟩ := Bound_ref (k := 1200) (by decide) ca cb (st := 65536) (by decide) (by decide)
        obtain ⟨fa,xa,_,_,_,A1,A2,A3,A4,A5,_⟩ := turn_X (k := 1200) (by decide) ca s0
        obtain ⟨fb,xb,_,_,_,B1,B2,B3,B4,B5,_⟩ := turn_X (k := 1200) (by decide) cb s0
        have H : ∀ t,0 ≤ t → t ≤ 65536 → StepQ 1200 A B st t := fun t t0 t1 => StepQ_all (by decide) (by decide) ca cb s0 s1 t0 t1
        obtain ⟨f,hf⟩ : ∃ f,f = (if fa = true then 0 else xa) := ⟨_,rfl⟩
        obtain ⟨g,hg⟩ : ∃ g,g = (if fb = true then 0 else xb) := ⟨_,rfl⟩
        have f0 : 0 ≤ f ∧ f ≤ 1099511627778 := by rw [hf]; split <;> omega
        have g0 : 0 ≤ g ∧ g ≤ 1099511627778 := by rw [hg]; split <;> omega
        have q4 : iquo .i64 y4 65536 = y4 / 65536 := iquo_i64 (by omega) (by omega) (by decide)
        have m2 : imul .i64 2 (y4 / 65536) = 2 * (y4 / 65536) := imul_i64 (by omega) (by omega)
        have m3 : imul .i64 (y4 / 65536) 2 = 2 * (y4 / 65536) := by rw [imul_i64 (by omega) (by omega)]; omega
        have mf : iquo .i64 (imul .i64 14 f) 65536 = 14 * f / 65536 := by rw [imul_i64 (by omega) (by omega),iquo_i64 (by omega) (by omega) (by decide)]
        have mg : iquo .i64 (imul .i64 14 g) 65536 = 14 * g / 65536 := by rw [imul_i64 (by omega) (by omega),iquo_i64 (by omega) (by omega) (by decide)]
        have es : iadd .i64 (iadd .i64 (iadd .i64 16 (imul .i64 2 (iquo .i64 y4 65536))) (iquo .i64 (imul .i64 14 f) 65536)) (iquo .i64 (imul .i64 14 g) 65536) = 16 + 2 * (y4 / 65536) + 14 * f / 65536 + 14 * g / 65536 := by
          rw [q4,m2,mf,mg,iadd_i64 (x := 16) (by omega) (by omega),iadd_i64 (x := 16 + 2 * (y4 / 65536)) (by omega) (by omega),iadd_i64 (by omega) (by omega)]
        have rs : r2_Time.c1 1200 A B 1200 (iadd .i64 16 (imul .i64 (iquo .i64 y4 65536) 2)) 0 = some (16 + 2 * (y4 / 65536) + 14 * f / 65536 + 14 * g / 65536) := by
          rw [q4,m3,iadd_i64 (x := 16) (by omega) (by omega)]
          have a1 : r2_Time.c1 1200 A B 1200 (16 + 2 * (y4 / 65536)) 0 = r2_Time.c1 1200 A B 1199 (16 + 2 * (y4 / 65536) + 14 * f / 65536) 1 := by
            rcases Slack_step (A := A) (B := B) (X := A) (i := 0) (by decide) (by decide) rfl A1 A2 1199 (16 + 2 * (y4 / 65536)) with h | ⟨h,h'⟩
            · rw [← hf,mf,iadd_i64 (by omega) (by omega)] at h
              exact h
            · rw [h,if_pos rfl] at hf
              rw [hf]
              refine h'.trans ?_
              rw [show 16 + 2 * (y4 / 65536) + 14 * 0 / 65536 = 16 + 2 * (y4 / 65536) by omega]
              rfl
          have a2 : r2_Time.c1 1200 A B 1199 (16 + 2 * (y4 / 65536) + 14 * f / 65536) 1 = r2_Time.c1 1200 A B 1198 (16 + 2 * (y4 / 65536) + 14 * f / 65536 + 14 * g / 65536) 2 := by
            rcases Slack_step (A := A) (B := B) (X := B) (i := 1) (by decide) (by decide) rfl B1 B2 1198 (16 + 2 * (y4 / 65536) + 14 * f / 65536) with h | ⟨h,h'⟩
            · rw [← hg,mg,iadd_i64 (by omega) (by omega)] at h
              exact h
            · rw [h,if_pos rfl] at hg
              rw [hg]
              refine h'.trans ?_
              rw [show 16 + 2 * (y4 / 65536) + 14 * f / 65536 + 14 * 0 / 65536 = 16 + 2 * (y4 / 65536) + 14 * f / 65536 by omega]
              rfl
          rw [a1,a2,r2_Time.c1,show len [A,B] = 2 from rfl,ilt_neg (by decide),bif_false]
        obtain ⟨⟨rt,rm⟩,r1,r2⟩ := Time_ref H (y1 := y1) (by omega) es (by omega) (by omega) 1200 0 0 (by decide) (by decide) (by decide) (by decide) (fun _ => by decide) (fun h => by omega)
        have hT : reach_Time 1200 A B st = some (rt,rm,0) := by
          unfold reach_Time
          rw [b1,bnd_some,ine_neg rfl,bif_false,d1,bnd_some,A5,bnd_some,B5,bnd_some,← hf,← hg,r1,bnd_some]
        have hT' : r2_Time 1200 A B st = some (rt,rm) := by
          unfold r2_Time
          rw [b2,bnd_some,d2,bnd_some,rs,bnd_some,r2,bnd_some,two_inl]
        obtain ⟨dd,dd1,dd2⟩ := depth_X (by decide) (H 0 (by decide) (by decide))
        obtain ⟨N,hN⟩ : ∃ N,N = y1 / 8192 + 1 := ⟨_,rfl⟩
        obtain ⟨M,hM⟩ : ∃ M,M = imin N 1024 := ⟨_,rfl⟩
        have hm : 1 ≤ M ∧ M ≤ 1024 := by rw [hM]; unfold imin; split <;> omega
        have e1 : iadd .i64 (iquo .i64 y1 8192) 1 = N := by
          rw [iquo_i64 (by omega) (by omega) (by decide),iadd_i64 (by omega) (by omega),hN]
        obtain ⟨r,k1,k2⟩ := Sink_ref (by decide) H hN ⟨b3,b4⟩ hM (y4 := dd) 1200 0 (by decide) (by omega) (by omega)
        rw [Int.zero_mul,Int.zero_ediv] at k1
        have hS : reach_Sink 1200 A B st = some (r,0) := by
          unfold reach_Sink
          rw [b1,bnd_some,ine_neg rfl,bif_false,dd1,bnd_some,k1,bnd_some]
        have hS' : r2_Sink 1200 A B st = some r := by
          have k2 : r2_Sink.c1 1200 A B st y1 dd 1200 1 = some (.inl r) ∨ (r2_Sink.c1 1200 A B st y1 dd 1200 1 = some (.inr ()) ∧ r = M * 65536 / N) := k2
          unfold r2_Sink
          rw [b2,bnd_some,dd2,bnd_some]
          rcases k2 with k2 | ⟨k2,k3⟩
          · rw [k2,bnd_some,two_inl]
          · rw [k2,bnd_some,two_inr,e1,req_pos (show nz N by unfold nz; omega),← hM,imul_i64 (by omega) (by omega),iquo_i64 (by omega) (by omega) (by omega),k3]
        have eb4 : ∀ x : Bool,Ty.eqb T4 x x = true := fun x => beq_self_eq_true x
        unfold tourlaw2_ReachSays
        rw [za] at h15
        rw [begun_eq,bnd_some,bif_true,b1,bnd_some,hT,bnd_some,hS,bnd_some,ra,bnd_some,h15,bnd_some,h19,bnd_some,h22,bnd_some,ine_neg rfl,bif_false]
        dsimp only
        by_cases big : y1 > 8388608
        · rw [igt_pos big,bif_true]
        · rw [igt_neg (by omega),bif_false,hT',bnd_some,ieq_pos rfl,bif_true,bif_true,bif_true,b2,bnd_some,ieq_pos rfl,bif_true,ieq_pos rfl,bif_true]
          refine (congrArg (fun x => bif' x _ _) (eb4 rm)).trans ?_
          rw [bif_true,hS',bnd_some,ieq_pos rfl]
    · rw [if_neg (fun h => h za),if_pos zb] at C1
      have h15 : tourlaw2_ReachSays.c1 1200 B ea = some eb := by
        unfold tourlaw2_ReachSays.c1
        rw [ieq_pos za,bif_true,rb,bnd_some]
      have h19 : tourlaw2_ReachSays.c2 1200 st eb = some false := by
        unfold tourlaw2_ReachSays.c2
        rw [ieq_neg zb,bif_false]
      exact bad eb zb (Bound_bad C1 st) eb h15 false h19 rfl
  · rw [if_pos za] at C1
    have h15 : tourlaw2_ReachSays.c1 1200 B ea = some ea := by
      unfold tourlaw2_ReachSays.c1
      rw [ieq_neg za,bif_false]
    have h19 : tourlaw2_ReachSays.c2 1200 st ea = some false := by
      unfold tourlaw2_ReachSays.c2
      rw [ieq_neg za,bif_false]
    exact bad ea za (Bound_bad C1 st) ea h15 false h19 rfl
theorem tourlaw2_ReachSays_plain (x : ((.pair T25 (.pair T25 (.pair T2 .unit))) : Ty).den) (_ : Ty.wf (.pair T25 (.pair T25 (.pair T2 .unit))) x) : ∃ k,(tourlaw2_ReachSays.sp k).f x = some true := by
  have h := ReachSays_true x.1 x.2.1 x.2.2.1
  obtain ⟨K,hK⟩ : ∃ K : Nat,K = 1200 := ⟨_,rfl⟩
  rw [← hK] at h
  exact ⟨K,h⟩
end Go.Proofs.T1
