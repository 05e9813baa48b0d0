import Derived.Test.YthpbadopmihmpaaGreatPlSort
namespace Go.Proofs.T1
open Go Go.Sx Go.Sort
theorem el_get {α:Type} (z:α) (l:List α) {j:Nat} (h:j<l.length):el z l (j:Int)=l[j]:=by
 show l.getD j z=_
 rw [List.getD_eq_getElem?_getD,List.getElem?_eq_getElem h]
 rfl
theorem el_in {α:Type} (z:α) (l:List α) {j:Int} (h0:0≤j) (h1:j<len l):el z l j∈l:=by
 obtain ⟨j,rfl⟩:=Int.eq_ofNat_of_zero_le h0
 rw [el_get z l (by unfold len at h1; omega)]
 exact List.getElem_mem _
theorem Order_ok {k:Nat} (l:List V133) (hk:l.length<k) (hl:l.length≤100000) :
  ∃ s,sweep_Pairs.c1 k l k 0 []=some s∧s.Nodup∧(s.length:Int)≤len l∧∀ j,j∈s↔0≤j∧j<len l∧vbx (bxa l j):=by
 have ll:len l=(l.length:Int):=rfl
 obtain ⟨s,⟨h1,h2,h3⟩,e⟩:=inv_loop (fun n s v=>sweep_Pairs.c1 k l n v s) 0 (len l) (fun (s:List Int) v=>s.Nodup∧(s.length:Int)≤v∧∀ j,j∈s↔0≤j∧j<v∧vbx (bxa l j))
  (by
   intro n s v h0 h1 ⟨a,b,c⟩
   have e:sweep_Pairs.c1 k l (n+1) v s=if vbx (bxa l v) then sweep_Pairs.c1 k l n (v+1) (s++[v]) else sweep_Pairs.c1 k l n (v+1) s:=by
    have hr:room 8 s [v]:=by unfold room roomFor; simp only [List.length_singleton]; omega
    rw [sweep_Pairs.c1,ilt_pos h1,bT,rP (inL_of h0 h1),Valid_eq,bS,iadd_i64 (by omega) (by omega)]
    by_cases hv:vbx (bxa l v)
    ·rw [if_pos hv,decide_eq_true (show vbx (el Z133 l v) from hv),bT,rP hr]
    ·rw [if_neg hv,decide_eq_false (show ¬ vbx (el Z133 l v) from hv),bF]
   by_cases hv:vbx (bxa l v)
   ·refine ⟨s++[v],⟨?_,?_,?_⟩,by show sweep_Pairs.c1 k l (n+1) v s=_; rw [e,if_pos hv]⟩
    ·rw [List.nodup_append]
     refine ⟨a,by simp,?_⟩
     intro x hx y hy hxy
     rw [List.mem_singleton.1 hy] at hxy
     have:=((c x).1 hx).2.1
     omega
    ·rw [List.length_append,List.length_singleton]; omega
    ·intro j
     rw [List.mem_append,c,List.mem_singleton]
     constructor
     ·rintro (⟨x,y,z⟩ | rfl)
      ·exact ⟨x,by omega,z⟩
      ·exact ⟨h0,by omega,hv⟩
     ·rintro ⟨x,y,z⟩
      by_cases hj:j=v
      ·exact .inr hj
      ·exact .inl ⟨x,by omega,z⟩
   ·refine ⟨s,⟨a,by omega,fun j=>?_⟩,by show sweep_Pairs.c1 k l (n+1) v s=_; rw [e,if_neg hv]⟩
    rw [c]
    constructor
    ·rintro ⟨x,y,z⟩; exact ⟨x,by omega,z⟩
    ·rintro ⟨x,y,z⟩
     refine ⟨x,?_,z⟩
     by_cases hj:j=v
     ·rw [hj] at z; exact absurd z hv
     ·omega)
  (by
   intro n s v h0 h1
   show sweep_Pairs.c1 k l (n+1) v s=_
   rw [sweep_Pairs.c1,ilt_neg h1,bF])
  k [] 0 (by omega) (by omega) (by omega) ⟨by simp,by simp,fun j=>by simp; omega⟩
 exact ⟨s,e,h1,by omega,h3⟩
def lxb (l:List V133) (a:Int):Int:=(bxa l a).1.1
def hxb (l:List V133) (a:Int):Int:=(bxa l a).2.1.1
theorem Sort1_ok {k:Nat} (l:List V133) {s:List Int} (hs:∀ j,j∈s→0≤j∧j<len l) (hl:s.length≤100000) :
  ∃ y,slices_SortFunc k s l=some y∧y.Perm s∧y.Pairwise (fun a b=>lxb l a≤lxb l b):=by
 obtain ⟨y,h1,h2,h3⟩:=sort_of (e:=T2) (l:=s) (cmp:=fun z=>sweep_Pairs_1 k z.1 z.2.1 l) (fun a b=>decide (lxb l a<lxb l b))
  (by
   intro (a:Int) ha (b:Int) hb
   refine ⟨cmpT (lxb l a) (lxb l b),?_,?_⟩
   ·show sweep_Pairs_1 k a b l=_
    unfold sweep_Pairs_1
    rw [rP (inL_of (hs a ha).1 (hs a ha).2),rP (inL_of (hs b hb).1 (hs b hb).2),Compare_eq,bS]
    rfl
   ·rw [cmpT_lt,decide_eq_true_eq])
  (fun a _=>decide_eq_false (by omega)) (fun a b c h1 h2=>by simp only [decide_eq_true_eq] at *; omega) (fun a b c h1 h2=>by simp only [decide_eq_false_iff_not] at *; omega) (Nat.le_trans hl (by decide))
 refine ⟨y,h1,h2,h3.imp fun {a b} h=>?_⟩
 simp only [decide_eq_false_iff_not] at h
 omega
def touY (l:List V133) (i j:Int):Bool:=decide ((bxa l j).1.2.1≤(bxa l i).2.1.2.1∧(bxa l i).1.2.1≤(bxa l j).2.1.2.1)
def prI (i j:Int):List Int:=[imin i j,imax i j]
theorem Meets_ok {k:Nat} (l:List V133) {y:List Int} {v:Int} {op:List Int} {out:List (List Int)} (h0:0≤v) (h1:v<len y) (hi:0≤el 0 y v∧el 0 y v<len l)
  (hop:∀ j,j∈op→0≤j∧j<len l) (hk:op.length<k) (hl:op.length≤100000) (ho:out.length≤10000000000) :
  sweep_Pairs.c3 k l v y op k 0 out=some (out++(op.filter (touY l (el 0 y v))).map (prI (el 0 y v))):=by
 have ll:len op=(op.length:Int):=rfl
 obtain ⟨s,hs,e⟩:=inv_loop (fun n s w=>sweep_Pairs.c3 k l v y op n w s) 0 (len op) (fun (s:List (List Int)) w=>s=out++((op.take w.toNat).filter (touY l (el 0 y v))).map (prI (el 0 y v)))
  (by
   intro n s w w0 w1 hs
   obtain ⟨w,rfl⟩:=Int.eq_ofNat_of_zero_le w0
   have hw:w<op.length:=by omega
   have hj:=hop _ (el_in 0 op w0 w1)
   have e0:sweep_Pairs.c4 k l v (w:Int) y op=some (touY l (el 0 y v) (el 0 op (w:Int))):=by
    unfold sweep_Pairs.c4 touY bxa
    rw [rP (inL_of hj.1 hj.2),rP (inL_of hi.1 hi.2)]
    by_cases h:(el Z133 l (el 0 op (w:Int))).1.2.1≤(el Z133 l (el 0 y v)).2.1.2.1
    ·rw [ile_pos h,bT]
     unfold ile
     simp [h]
    ·rw [ile_neg (by omega),bF]
     simp [h]
   have hlen:s.length≤out.length+op.length:=by
    rw [hs,List.length_append,List.length_map]
    have:=List.length_filter_le (touY l (el 0 y v)) (op.take ((w:Int)).toNat)
    rw [List.length_take] at this
    omega
   have ht:op.take ((w:Int)+1).toNat=op.take w++[el 0 op (w:Int)]:=by
    have e:((w:Int)+1).toNat=w+1:=by omega
    rw [e]
    exact take_succ_getD 0 op hw
   have e1:sweep_Pairs.c3 k l v y op (n+1) (w:Int) s=sweep_Pairs.c3 k l v y op n ((w:Int)+1) (s++(if touY l (el 0 y v) (el 0 op (w:Int)) then [prI (el 0 y v) (el 0 op (w:Int))] else [])):=by
    rw [sweep_Pairs.c3,ilt_pos w1,bT,rP (inL_of w0 w1),e0,bS,iadd_i64 (by omega) (by omega)]
    cases touY l (el 0 y v) (el 0 op (w:Int)) with
    | true =>
     have hr:room 16 s [[imin (el 0 y v) (el 0 op (w:Int)),imax (el 0 y v) (el 0 op (w:Int))]]:=by
      unfold room roomFor; simp only [List.length_singleton]; omega
     rw [bT,if_pos rfl,rP hr]
     rfl
    | false =>
     rw [bF]
     simp
   refine ⟨_,?_,e1⟩
   rw [hs,ht,List.filter_append,List.map_append,List.append_assoc]
   congr 2
   cases h:touY l (el 0 y v) (el 0 op (w:Int)) <;> simp [h])
  (by
   intro n s w w0 w1
   show sweep_Pairs.c3 k l v y op (n+1) w s=_
   rw [sweep_Pairs.c3,ilt_neg w1,bF])
  k out 0 (by omega) (by omega) (by omega) (by simp)
 have e:sweep_Pairs.c3 k l v y op k 0 out=some s:=e
 rw [e,hs,List.take_of_length_le (by omega)]
theorem prI_eq {i j:Int} (h:i≠j):prI i j=if i<j then [i,j] else [j,i]:=by
 unfold prI imin imax
 by_cases h1:i<j
 ·rw [if_neg (by omega),if_pos (by omega),if_pos h1]
 ·rw [if_pos (by omega),if_neg (by omega),if_neg h1]
theorem prI_inj {i j m:Int} (h:i≠j) (h':i≠m) (e:prI i j=prI i m):j=m:=by
 rw [prI_eq h,prI_eq h'] at e
 split at e <;> split at e <;> simp only [List.cons.injEq,and_true] at e <;> omega
theorem prI_in {i j:Int} (h:i≠j) {a b:Int} (e:prI i j=[a,b]):i=a∨i=b:=by
 rw [prI_eq h] at e
 split at e <;> simp only [List.cons.injEq,and_true] at e <;> omega
structure SwI (l:List V133) (y:List Int) (op:List Int) (out:List (List Int)) (v:Nat):Prop where
 nd:op.Nodup
 sub:∀ j,j∈op→j∈y.take v
 gone:∀ j,j∈y.take v→j ∉ op→∀ i,i∈y.drop v→hxb l j<lxb l i
 ndo:out.Nodup
 mem:∀ p,p∈out↔∃ a b:Int,a∈y.take v∧b∈y.take v∧a<b∧mbx (bxa l a) (bxa l b)∧p=[a,b]
 len1:op.length≤v
 len2:out.length≤v*y.length
theorem SwI_step {l:List V133} {y:List Int} {op:List Int} {out:List (List Int)} {v:Nat} (h:SwI l y op out v) (hv:v<y.length) (hnd:y.Nodup) (hs:y.Pairwise (fun a b=>lxb l a≤lxb l b))
  (hval:∀ j,j∈y→vbx (bxa l j)) {i:Int} (hi:y[v]=i) :
  SwI l y (op.filter (fun j=>!decide (hxb l j<lxb l i))++[i]) (out++((op.filter (fun j=>!decide (hxb l j<lxb l i))).filter (touY l i)).map (prI i)) (v+1):=by
 have hy:y=y.take v++i :: y.drop (v+1):=by
  rw [← hi,← List.drop_eq_getElem_cons hv,List.take_append_drop]
 have ht:y.take (v+1)=y.take v++[i]:=by
  rw [take_succ_getD 0 y hv,List.getD_eq_getElem?_getD,List.getElem?_eq_getElem hv,← hi]
  rfl
 have hd:y.drop v=i :: y.drop (v+1):=by rw [List.drop_eq_getElem_cons hv,hi]
 have hnd':=hnd
 have hs':=hs
 rw [hy] at hnd' hs'
 unfold List.Nodup at hnd'
 rw [List.pairwise_append] at hnd' hs'
 obtain ⟨_,n2,n3⟩:=hnd'
 obtain ⟨_,s2,s3⟩:=hs'
 rw [List.pairwise_cons] at n2 s2
 have hiv:i ∉ y.take v:=fun g=>n3 i g i List.mem_cons_self rfl
 have hiy:i∈y:=by rw [hy]; simp
 have htv:∀ j,j∈y.take v→j∈y:=fun j hj=>List.mem_of_mem_take hj
 have hmeet:∀ j,j∈y.take v→((j∈op.filter (fun j=>!decide (hxb l j<lxb l i))∧touY l i j=true)↔mbx (bxa l j) (bxa l i)):=by
  intro j hj
  have h1:=hval j (htv j hj)
  have h2:=hval i hiy
  have h3:lxb l j≤lxb l i:=s3 j hj i List.mem_cons_self
  unfold mbx touY
  rw [List.mem_filter]
  have h4:lxb l i≤hxb l i:=h2.1
  constructor
  ·rintro ⟨⟨a,b⟩,c⟩
   have b:¬ hxb l j<lxb l i:=by simpa using b
   have c:=of_decide_eq_true c
   unfold hxb lxb at b h3 h4
   exact ⟨h1,h2,by omega,by omega,c.1,c.2⟩
  ·rintro ⟨_,_,a,b,c,d⟩
   have hj':¬ hxb l j<lxb l i:=by unfold hxb lxb; omega
   refine ⟨⟨?_,by simpa using hj'⟩,decide_eq_true ⟨c,d⟩⟩
   by_cases g:j∈op
   ·exact g
   ·exact absurd (h.gone j hj g i (by rw [hd]; exact List.mem_cons_self)) hj'
 have hop:∀ j,j∈op.filter (fun j=>!decide (hxb l j<lxb l i))→j∈y.take v:=fun j hj=>h.sub j (List.mem_filter.1 hj).1
 have hne:∀ j,j∈y.take v→i≠j:=fun j hj e=>hiv (e ▸ hj)
 have hlf:=List.length_filter_le (fun j=>!decide (hxb l j<lxb l i)) op
 constructor
 ·rw [List.nodup_append]
  refine ⟨h.nd.filter _,by simp,fun x hx z hz e=>?_⟩
  rw [List.mem_singleton.1 hz] at e
  exact hne x (hop x hx) e.symm
 ·intro j hj
  rw [ht]
  rcases List.mem_append.1 hj with hj | hj
  ·exact List.mem_append_left _ (hop j hj)
  ·exact List.mem_append_right _ hj
 ·intro j hj hn m hm
  rw [ht] at hj
  rcases List.mem_append.1 hj with hj | hj
  ·by_cases g:j∈op
   ·have:hxb l j<lxb l i:=by
     by_cases c:hxb l j<lxb l i
     ·exact c
     ·exact absurd (List.mem_append_left _ (List.mem_filter.2 ⟨g,by simpa using c⟩)) hn
    have:=s2.1 m hm
    omega
   ·exact h.gone j hj g m (by rw [hd]; exact List.mem_cons_of_mem _ hm)
  ·exact absurd (List.mem_append_right _ hj) hn
 ·rw [List.nodup_append]
  refine ⟨h.ndo,?_,fun p hp r hr e=>?_⟩
  ·unfold List.Nodup
   rw [List.pairwise_map]
   refine List.Pairwise.imp_of_mem ?_ ((h.nd.filter _).filter (touY l i))
   intro a b ha hb hab e
   exact hab (prI_inj (hne a (hop a (List.mem_filter.1 ha).1)) (hne b (hop b (List.mem_filter.1 hb).1)) e)
  ·subst e
   obtain ⟨a,b,ha,hb,_,_,e⟩:=(h.mem p).1 hp
   obtain ⟨j,hj,e'⟩:=List.mem_map.1 hr
   rw [e] at e'
   rcases prI_in (hne j (hop j (List.mem_filter.1 hj).1)) e' with g | g
   ·exact hiv (g ▸ ha)
   ·exact hiv (g ▸ hb)
 ·intro p
  rw [List.mem_append,h.mem,List.mem_map,ht]
  constructor
  ·rintro (⟨a,b,ha,hb,hab,hm,e⟩ | ⟨j,hj,e⟩)
   ·exact ⟨a,b,List.mem_append_left _ ha,List.mem_append_left _ hb,hab,hm,e⟩
   ·have hj:=List.mem_filter.1 hj
    have hjv:=hop j hj.1
    have hm:=(hmeet j hjv).1 hj
    have hn:=hne j hjv
    rw [prI_eq hn] at e
    by_cases c:i<j
    ·rw [if_pos c] at e
     exact ⟨i,j,List.mem_append_right _ (List.mem_singleton.2 rfl),List.mem_append_left _ hjv,c,mbx_comm.1 hm,e.symm⟩
    ·rw [if_neg c] at e
     exact ⟨j,i,List.mem_append_left _ hjv,List.mem_append_right _ (List.mem_singleton.2 rfl),by omega,hm,e.symm⟩
  ·rintro ⟨a,b,ha,hb,hab,hm,e⟩
   rcases List.mem_append.1 ha with ha' | ha'
   ·rcases List.mem_append.1 hb with hb' | hb'
    ·exact .inl ⟨a,b,ha',hb',hab,hm,e⟩
    ·have hb2:=List.mem_singleton.1 hb'
     rw [hb2] at hm hab e
     have g:=(hmeet a ha').2 hm
     refine .inr ⟨a,List.mem_filter.2 g,?_⟩
     rw [prI_eq (hne a ha'),if_neg (by omega),e]
   ·have ha2:=List.mem_singleton.1 ha'
    rw [ha2] at hm hab e
    rcases List.mem_append.1 hb with hb' | hb'
    ·have g:=(hmeet b hb').2 (mbx_comm.1 hm)
     refine .inr ⟨b,List.mem_filter.2 g,?_⟩
     rw [prI_eq (hne b hb'),if_pos hab,e]
    ·have hb2:=List.mem_singleton.1 hb'
     omega
 ·rw [List.length_append,List.length_singleton]
  have:=h.len1
  omega
 ·rw [List.length_append,List.length_map]
  have h1:=List.length_filter_le (touY l i) (op.filter (fun j=>!decide (hxb l j<lxb l i)))
  have h2:=h.len1
  have h3:=h.len2
  rw [Nat.add_mul]
  omega
theorem Or_eq {k:Nat} (hk:3≤k) (a b:Int):cmp_Or k [a,b]=some (if a=0 then b else a):=by
 have e1:el 0 [a,b] 0=a:=rfl
 have e2:el 0 [a,b] 1=b:=rfl
 have l2:len [a,b]=2:=rfl
 have h:∀ n,cmp_Or.c1 k [a,b] (n+3) 0=some (if a=0 then if b=0 then .inr () else .inl b else .inl a):=by
  intro n
  rw [cmp_Or.c1,ilt_pos (by rw [l2]; decide),bT,rP (inL_of (by decide) (by rw [l2]; decide)),e1]
  by_cases ha:a=0
  ·rw [ine_neg ha,bF,if_pos ha,iadd_i64 (by decide) (by decide),cmp_Or.c1,ilt_pos (by rw [l2]; decide),bT,rP (inL_of (by decide) (by rw [l2]; decide))]
   show bif' (ine (el 0 [a,b] 1) 0) (some (.inl (el 0 [a,b] 1))) (cmp_Or.c1 k [a,b] (n+1) (iadd .i64 1 1))=_
   rw [e2]
   by_cases hb:b=0
   ·rw [ine_neg hb,bF,if_pos hb,iadd_i64 (by decide) (by decide),cmp_Or.c1,ilt_neg (by rw [l2]; decide),bF]
   ·rw [ine_pos hb,bT,if_neg hb]
  ·rw [ine_pos ha,bT,if_neg ha]
 obtain ⟨n,hn⟩:∃ n,k=n+3:=⟨k - 3,by omega⟩
 unfold cmp_Or
 have h:=h n
 rw [← hn] at h
 rw [h,bS]
 by_cases ha:a=0
 ·rw [if_pos ha,if_pos ha]
  by_cases hb:b=0
  ·rw [if_pos hb,two_inr,hb]
  ·rw [if_neg hb,two_inl]
 ·rw [if_neg ha,if_neg ha,two_inl]
theorem Pairs_3_eq {k:Nat} (hk:3≤k) (p s:List Int):sweep_Pairs_3 k p s=some (if cmpT (p.getD 0 0) (s.getD 0 0)=0 then cmpT (p.getD 1 0) (s.getD 1 0) else cmpT (p.getD 0 0) (s.getD 0 0)):=by
 unfold sweep_Pairs_3
 rw [Compare_eq,bS,Compare_eq,bS,Or_eq hk,bS]
 rfl
theorem cmp2_lt (p s:List Int):(if cmpT (p.getD 0 0) (s.getD 0 0)=0 then cmpT (p.getD 1 0) (s.getD 1 0) else cmpT (p.getD 0 0) (s.getD 0 0))<0↔plt p s=true:=by
 unfold plt cmpT
 rw [decide_eq_true_eq]
 split <;> (try split) <;> (try split) <;> omega
theorem Sort2_ok {k:Nat} (hk:3≤k) {s:List (List Int)} (hl:s.length≤1000000000000) :
  ∃ y,slices_SortFunc_134 k s=some y∧y.Perm s∧y.Pairwise (fun a b=>plt b a=false) :=
 sort_of (e:=.arr 2 T2) (l:=s) (cmp:=fun z=>sweep_Pairs_3 k z.1 z.2.1) plt (fun a _ b _=>⟨_,Pairs_3_eq hk a b,cmp2_lt a b⟩) (fun a _=>plt_irr a) (fun _ _ _ h1 h2=>plt_tr h1 h2) (fun _ _ _ h1 h2=>plt_ntr h1 h2) hl
theorem strict_of {r:List (List Int)} (hn:r.Nodup) (hp:r.Pairwise (fun a b=>plt b a=false)) (h2:∀ p,p∈r→∃ a b:Int,p=[a,b]):r.Pairwise (fun p s=>plt p s=true):=by
 refine List.Pairwise.imp_of_mem ?_ (hn.and hp)
 rintro p s hpm hsm ⟨hne,hlt⟩
 obtain ⟨a,b,rfl⟩:=h2 p hpm
 obtain ⟨c,d,rfl⟩:=h2 s hsm
 have h1:¬ (c<a∨c=a∧d<b):=of_decide_eq_false hlt
 have h2:¬ (a=c∧b=d):=fun ⟨x,y⟩=>hne (by rw [x,y])
 exact decide_eq_true (show a<c∨a=c∧b<d by omega)
theorem Pairs_ok {k:Nat} (l:List V133) (hk:l.length+3<k) (hl:l.length≤100000) :
  ∃ r,sweep_Pairs k l=some r∧PairsOf l r∧r.length≤l.length*l.length:=by
 have ll:len l=(l.length:Int):=rfl
 obtain ⟨s,e1,s1,s2,s3⟩:=Order_ok (k:=k) l (by omega) hl
 obtain ⟨y,e2,y1,y2⟩:=Sort1_ok (k:=k) l (s:=s) (fun j hj=>⟨((s3 j).1 hj).1,((s3 j).1 hj).2.1⟩) (by omega)
 have hy:∀ j,j∈y↔0≤j∧j<len l∧vbx (bxa l j):=fun j=>(y1.mem_iff).trans (s3 j)
 have hnd:y.Nodup:=y1.nodup_iff.2 s1
 have hyl:y.length=s.length:=y1.length_eq
 have ly:len y=(y.length:Int):=rfl
 have hNN:y.length*y.length≤l.length*l.length:=Nat.mul_le_mul (by omega) (by omega)
 have hLL:l.length*l.length≤100000*100000:=Nat.mul_le_mul hl hl
 have key:∀ (n v:Nat) (op:List Int) (out:List (List Int)),SwI l y op out v→v≤y.length→y.length<v+n →
   ∃ op' out',sweep_Pairs.c2 k l y n (v:Int) op out=some out'∧SwI l y op' out' y.length:=by
  intro n
  induction n with
  | zero=>intro v _ _ _ h1 h2; omega
  | succ n ih =>
   intro v op out hI h1 h2
   by_cases hv:v<y.length
   ·have hvi:(v:Int)<len y:=by omega
    have ei:el 0 y (v:Int)=y[v]:=el_get 0 y hv
    have hin:=(hy y[v]).1 (List.getElem_mem hv)
    have hopy:∀ j,j∈op→0≤j∧j<len l:=fun j hj=>by
     have:=(hy j).1 (List.mem_of_mem_take (hI.sub j hj))
     exact ⟨this.1,this.2.1⟩
    have hv2:v*y.length≤y.length*y.length:=Nat.mul_le_mul_right _ (by omega)
    have hI':=SwI_step hI hv hnd y2 (fun j hj=>((hy j).1 hj).2.2) rfl
    have hdel:slices_DeleteFunc k (fun x:(Int × Unit)=>sweep_Pairs_2 k (x.1) l (el 0 y (v:Int))) op=some (op.filter (fun j=>!decide (hxb l j<lxb l y[v]))):=by
     refine Delete_ok (g:=fun j=>decide (hxb l j<lxb l y[v])) (fun x hx=>?_) (by have:=hI.len1; omega) (by have:=hI.len1; omega)
     show sweep_Pairs_2 k x l (el 0 y (v:Int))=_
     unfold sweep_Pairs_2
     rw [ei,rP (inL_of (hopy x hx).1 (hopy x hx).2),rP (inL_of hin.1 hin.2.1)]
     rfl
    have hfl:=List.length_filter_le (fun j=>!decide (hxb l j<lxb l y[v])) op
    have l1:=hI.len1
    have l2:=hI.len2
    have hmt:=Meets_ok (k:=k) l (y:=y) (v:=(v:Int)) (op:=op.filter (fun j=>!decide (hxb l j<lxb l y[v]))) (out:=out) (by omega) hvi (by rw [ei]; exact ⟨hin.1,hin.2.1⟩)
     (fun j hj=>hopy j (List.mem_filter.1 hj).1) (by omega) (by omega) (by omega)
    have hr:room 8 (op.filter (fun j=>!decide (hxb l j<lxb l y[v]))) [el 0 y (v:Int)]:=by
     unfold room roomFor; simp only [List.length_singleton]; omega
    rw [sweep_Pairs.c2,ilt_pos hvi,bT,rP (inL_of (by omega) hvi),hdel,bS,hmt,bS,rP hr,iadd_i64 (by omega) (by omega),ei]
    exact ih (v+1) _ _ hI' (by omega) (by omega)
   ·have:v=y.length:=by omega
    subst this
    exact ⟨op,out,by rw [sweep_Pairs.c2,ilt_neg (by omega),bF],hI⟩
 obtain ⟨op,out,e3,hI⟩:=key k 0 [] [] ⟨by simp,by simp,by simp,by simp,by simp,by simp,by simp⟩ (by omega) (by omega)
 have hol:=hI.len2
 obtain ⟨r,e4,r1,r2⟩:=Sort2_ok (k:=k) (by omega) (s:=out) (by omega)
 have hmem:∀ p,p∈r↔∃ a b:Int,0≤a∧a<b∧b<len l∧mbx (bxa l a) (bxa l b)∧p=[a,b]:=by
  intro p
  rw [r1.mem_iff,hI.mem,List.take_length]
  constructor
  ·rintro ⟨a,b,ha,hb,hab,hm,e⟩
   exact ⟨a,b,((hy a).1 ha).1,hab,((hy b).1 hb).2.1,hm,e⟩
  ·rintro ⟨a,b,a0,hab,b1,hm,e⟩
   exact ⟨a,b,(hy a).2 ⟨a0,by omega,hm.1⟩,(hy b).2 ⟨by omega,b1,hm.2.1⟩,hab,hm,e⟩
 refine ⟨r,?_,⟨strict_of (r1.nodup_iff.2 hI.ndo) r2 ?_,hmem⟩,?_⟩
 ·unfold sweep_Pairs
  have e3:sweep_Pairs.c2 k l y k 0 [] []=some out:=e3
  rw [e1,bS,e2,bS,e3,bS,e4,bS]
 ·intro p hp
  obtain ⟨a,b,_,_,_,_,e⟩:=(hmem p).1 hp
  exact ⟨a,b,e⟩
 ·rw [r1.length_eq]
  omega
end Go.Proofs.T1
