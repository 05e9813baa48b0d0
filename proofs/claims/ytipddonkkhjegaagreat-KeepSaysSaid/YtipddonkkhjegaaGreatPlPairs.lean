import Derived.Test.YtipddonkkhjegaaGreatPlSort
import Derived.Test.YtipddonkkhjegaaGreatG13
namespace Go.Proofs.T1
open Go Go.Sx Go.Sort
theorem iN {α:Type} (z:α) (l:List α) {j:Nat} (h:j<l.length):el z l (j:Int)=l[j]:=by
 show l.getD j z=_;rw [List.getD_eq_getElem?_getD,List.getElem?_eq_getElem h];rfl
theorem Er {α:Type} (z:α) (l:List α) {j:Int} (h0:0≤j) (h1:j<len l):el z l j∈l:=by
 obtain ⟨j,rfl⟩:=Int.eq_ofNat_of_zero_le h0;rw [iN z l (by unfold len at h1; omega)];exact List.getElem_mem _
theorem B5 {k:Nat} (l:List iH) (hk:l.length<k) (hl:l.length≤100000) :
  ∃ s,ak.c1 k l k 0 []=some s∧s.Nodup∧(s.length:Int)≤len l∧∀ j,j∈s↔0≤j∧j<len l∧rT (pF l j):=by
 have ll:len l=(l.length:Int):=rfl;obtain ⟨s,⟨h1,h2,h3⟩,e⟩:=gS (fun n s v=>ak.c1 k l n v s) 0 (len l) (fun (s:List Int) v=>s.Nodup∧(s.length:Int)≤v∧∀ j,j∈s↔0≤j∧j<v∧rT (pF l j))
  (by
   intro n s v h0 h1 ⟨a,b,c⟩;have e:ak.c1 k l (n+1) v s=if rT (pF l v) then ak.c1 k l n (v+1) (s++[v]) else ak.c1 k l n (v+1) s:=by
    have hr:room 8 s [v]:=by unfold room roomFor; simp only [List.length_singleton]; omega
    rw [ak.c1,bA h1,bT,rP (bu h0 h1),CW,bS,aX (by omega) (by omega)]
    by_cases hv:rT (pF l v)
    ·rw [if_pos hv,decide_eq_true (show rT (el rp l v) from hv),bT,rP hr]
    ·rw [if_neg hv,decide_eq_false (show ¬ rT (el rp l v) from hv),bF]
   by_cases hv:rT (pF l v)
   ·refine ⟨s++[v],⟨?_,?_,?_⟩,by show ak.c1 k l (n+1) v s=_; rw [e,if_pos hv]⟩
    ·rw [List.nodup_append]
     refine ⟨a,by simp,?_⟩;intro x hx y hy hxy;rw [List.mem_singleton.1 hy] at hxy;have:=((c x).1 hx).2.1;omega
    ·rw [List.length_append,List.length_singleton]; omega
    ·intro j
     rw [List.mem_append,c,List.mem_singleton];constructor
     ·rintro (⟨x,y,z⟩ | rfl)
      ·exact ⟨x,by omega,z⟩
      ·exact ⟨h0,by omega,hv⟩
     ·rintro ⟨x,y,z⟩
      by_cases hj:j=v
      ·exact .inr hj
      ·exact .inl ⟨x,by omega,z⟩
   ·refine ⟨s,⟨a,by omega,fun j=>?_⟩,by show ak.c1 k l (n+1) v s=_; rw [e,if_neg hv]⟩
    rw [c];constructor
    ·rintro ⟨x,y,z⟩; exact ⟨x,by omega,z⟩
    ·rintro ⟨x,y,z⟩
     refine ⟨x,?_,z⟩
     by_cases hj:j=v
     ·rw [hj] at z; exact absurd z hv
     ·omega)
  (by
   intro n s v h0 h1;show ak.c1 k l (n+1) v s=_
   rw [ak.c1,bZ h1,bF])
  k [] 0 (by omega) (by omega) (by omega) ⟨by simp,by simp,fun j=>by simp; omega⟩
 exact ⟨s,e,h1,by omega,h3⟩
def nk (l:List iH) (a:Int):Int:=(pF l a).1.1
def sC (l:List iH) (a:Int):Int:=(pF l a).2.1.1
theorem Bo {k:Nat} (l:List iH) {s:List Int} (hs:∀ j,j∈s→0≤j∧j<len l) (hl:s.length≤100000) :
  ∃ y,slices_SortFunc k s l=some y∧y.Perm s∧y.Pairwise (fun a b=>nk l a≤nk l b):=by
 obtain ⟨y,h1,h2,h3⟩:=yH (e:=T2) (l:=s) (cmp:=fun z=>dC k z.1 z.2.1 l) (fun a b=>decide (nk l a<nk l b))
  (by
   intro (a:Int) ha (b:Int) hb;refine ⟨jG (nk l a) (nk l b),?_,?_⟩
   ·show dC k a b l=_
    unfold dC;rw [rP (bu (hs a ha).1 (hs a ha).2),rP (bu (hs b hb).1 (hs b hb).2),im,bS];rfl
   ·rw [DA,decide_eq_true_eq])
  (fun a _=>decide_eq_false (by omega)) (fun a b c h1 h2=>by simp only [decide_eq_true_eq] at *; omega) (fun a b c h1 h2=>by simp only [decide_eq_false_iff_not] at *; omega) (Nat.le_trans hl (by decide))
 refine ⟨y,h1,h2,h3.imp fun {a b} h=>?_⟩;simp only [decide_eq_false_iff_not] at h;omega
def nQ (l:List iH) (i j:Int):Bool:=decide ((pF l j).1.2.1≤(pF l i).2.1.2.1∧(pF l i).1.2.1≤(pF l j).2.1.2.1)
def D7 (i j:Int):List Int:=[gd i j,imax i j]
theorem BS {k:Nat} (l:List iH) {y:List Int} {v:Int} {op:List Int} {out:List (List Int)} (h0:0≤v) (h1:v<len y) (hi:0≤el 0 y v∧el 0 y v<len l)
  (hop:∀ j,j∈op→0≤j∧j<len l) (hk:op.length<k) (hl:op.length≤100000) (ho:out.length≤10000000000) :
  ak.c3 k l v y op k 0 out=some (out++(op.filter (nQ l (el 0 y v))).map (D7 (el 0 y v))):=by
 have ll:len op=(op.length:Int):=rfl;obtain ⟨s,hs,e⟩:=gS (fun n s w=>ak.c3 k l v y op n w s) 0 (len op) (fun (s:List (List Int)) w=>s=out++((op.take w.toNat).filter (nQ l (el 0 y v))).map (D7 (el 0 y v)))
  (by
   intro n s w w0 w1 hs;obtain ⟨w,rfl⟩:=Int.eq_ofNat_of_zero_le w0;have hw:w<op.length:=by omega
   have hj:=hop _ (Er 0 op w0 w1);have e0:ak.c4 k l v (w:Int) y op=some (nQ l (el 0 y v) (el 0 op (w:Int))):=by
    unfold ak.c4 nQ pF;rw [rP (bu hj.1 hj.2),rP (bu hi.1 hi.2)]
    by_cases h:(el rp l (el 0 op (w:Int))).1.2.1≤(el rp l (el 0 y v)).2.1.2.1
    ·rw [iJ h,bT]
     unfold jb;simp [h]
    ·rw [iI (by omega),bF]
     simp [h]
   have hlen:s.length≤out.length+op.length:=by
    rw [hs,List.length_append,List.length_map];have:=List.length_filter_le (nQ l (el 0 y v)) (op.take ((w:Int)).toNat);rw [List.length_take] at this;omega
   have ht:op.take ((w:Int)+1).toNat=op.take w++[el 0 op (w:Int)]:=by
    have e:((w:Int)+1).toNat=w+1:=by omega
    rw [e];exact ic 0 op hw
   have e1:ak.c3 k l v y op (n+1) (w:Int) s=ak.c3 k l v y op n ((w:Int)+1) (s++(if nQ l (el 0 y v) (el 0 op (w:Int)) then [D7 (el 0 y v) (el 0 op (w:Int))] else [])):=by
    rw [ak.c3,bA w1,bT,rP (bu w0 w1),e0,bS,aX (by omega) (by omega)];cases nQ l (el 0 y v) (el 0 op (w:Int)) with
    | true =>
     have hr:room 16 s [[gd (el 0 y v) (el 0 op (w:Int)),imax (el 0 y v) (el 0 op (w:Int))]]:=by
      unfold room roomFor; simp only [List.length_singleton]; omega
     rw [bT,if_pos rfl,rP hr];rfl
    | false =>
     rw [bF];simp
   refine ⟨_,?_,e1⟩;rw [hs,ht,List.filter_append,List.map_append,List.append_assoc];congr 2
   cases h:nQ l (el 0 y v) (el 0 op (w:Int)) <;> simp [h])
  (by
   intro n s w w0 w1;show ak.c3 k l v y op (n+1) w s=_
   rw [ak.c3,bZ w1,bF])
  k out 0 (by omega) (by omega) (by omega) (by simp)
 have e:ak.c3 k l v y op k 0 out=some s:=e;rw [e,hs,List.take_of_length_le (by omega)]
theorem n9 {i j:Int} (h:i≠j):D7 i j=if i<j then [i,j] else [j,i]:=by
 unfold D7 gd imax
 by_cases h1:i<j
 ·rw [if_neg (by omega),if_pos (by omega),if_pos h1]
 ·rw [if_pos (by omega),if_neg (by omega),if_neg h1]
theorem DO {i j m:Int} (h:i≠j) (h':i≠m) (e:D7 i j=D7 i m):j=m:=by
 rw [n9 h,n9 h'] at e;split at e <;> split at e <;> simp only [List.cons.injEq,and_true] at e <;> omega
theorem FQ {i j:Int} (h:i≠j) {a b:Int} (e:D7 i j=[a,b]):i=a∨i=b:=by
 rw [n9 h] at e;split at e <;> simp only [List.cons.injEq,and_true] at e <;> omega
structure GZ (l:List iH) (y:List Int) (op:List Int) (out:List (List Int)) (v:Nat):Prop where
 nd:op.Nodup
 sub:∀ j,j∈op→j∈y.take v
 gone:∀ j,j∈y.take v→j ∉ op→∀ i,i∈y.drop v→sC l j<nk l i
 ndo:out.Nodup
 mem:∀ p,p∈out↔∃ a b:Int,a∈y.take v∧b∈y.take v∧a<b∧w9 (pF l a) (pF l b)∧p=[a,b]
 len1:op.length≤v
 len2:out.length≤v*y.length
theorem BB {l:List iH} {y:List Int} {op:List Int} {out:List (List Int)} {v:Nat} (h:GZ l y op out v) (hv:v<y.length) (hnd:y.Nodup) (hs:y.Pairwise (fun a b=>nk l a≤nk l b))
  (hval:∀ j,j∈y→rT (pF l j)) {i:Int} (hi:y[v]=i) :
  GZ l y (op.filter (fun j=>!decide (sC l j<nk l i))++[i]) (out++((op.filter (fun j=>!decide (sC l j<nk l i))).filter (nQ l i)).map (D7 i)) (v+1):=by
 have hy:y=y.take v++i :: y.drop (v+1):=by
  rw [← hi,← List.drop_eq_getElem_cons hv,List.take_append_drop]
 have ht:y.take (v+1)=y.take v++[i]:=by
  rw [ic 0 y hv,List.getD_eq_getElem?_getD,List.getElem?_eq_getElem hv,← hi];rfl
 have hd:y.drop v=i :: y.drop (v+1):=by rw [List.drop_eq_getElem_cons hv,hi]
 have hnd':=hnd;have hs':=hs;rw [hy] at hnd' hs';unfold List.Nodup at hnd';rw [List.pairwise_append] at hnd' hs';obtain ⟨_,n2,n3⟩:=hnd';obtain ⟨_,s2,s3⟩:=hs';rw [List.pairwise_cons] at n2 s2;have hiv:i ∉ y.take v:=fun g=>n3 i g i List.mem_cons_self rfl;have hiy:i∈y:=by rw [hy]; simp
 have htv:∀ j,j∈y.take v→j∈y:=fun j hj=>List.mem_of_mem_take hj;have hmeet:∀ j,j∈y.take v→((j∈op.filter (fun j=>!decide (sC l j<nk l i))∧nQ l i j=true)↔w9 (pF l j) (pF l i)):=by
  intro j hj;have h1:=hval j (htv j hj);have h2:=hval i hiy;have h3:nk l j≤nk l i:=s3 j hj i List.mem_cons_self;unfold w9 nQ;rw [List.mem_filter];have h4:nk l i≤sC l i:=h2.1;constructor
  ·rintro ⟨⟨a,b⟩,c⟩
   have b:¬ sC l j<nk l i:=by simpa using b
   have c:=of_decide_eq_true c;unfold sC nk at b h3 h4;exact ⟨h1,h2,by omega,by omega,c.1,c.2⟩
  ·rintro ⟨_,_,a,b,c,d⟩
   have hj':¬ sC l j<nk l i:=by unfold sC nk; omega
   refine ⟨⟨?_,by simpa using hj'⟩,decide_eq_true ⟨c,d⟩⟩
   by_cases g:j∈op
   ·exact g
   ·exact absurd (h.gone j hj g i (by rw [hd]; exact List.mem_cons_self)) hj'
 have hop:∀ j,j∈op.filter (fun j=>!decide (sC l j<nk l i))→j∈y.take v:=fun j hj=>h.sub j (List.mem_filter.1 hj).1;have hne:∀ j,j∈y.take v→i≠j:=fun j hj e=>hiv (e ▸ hj);have hlf:=List.length_filter_le (fun j=>!decide (sC l j<nk l i)) op;constructor
 ·rw [List.nodup_append]
  refine ⟨h.nd.filter _,by simp,fun x hx z hz e=>?_⟩;rw [List.mem_singleton.1 hz] at e;exact hne x (hop x hx) e.symm
 ·intro j hj
  rw [ht];rcases List.mem_append.1 hj with hj | hj
  ·exact List.mem_append_left _ (hop j hj)
  ·exact List.mem_append_right _ hj
 ·intro j hj hn m hm
  rw [ht] at hj;rcases List.mem_append.1 hj with hj | hj
  ·by_cases g:j∈op
   ·have:sC l j<nk l i:=by
     by_cases c:sC l j<nk l i
     ·exact c
     ·exact absurd (List.mem_append_left _ (List.mem_filter.2 ⟨g,by simpa using c⟩)) hn
    have:=s2.1 m hm;omega
   ·exact h.gone j hj g m (by rw [hd]; exact List.mem_cons_of_mem _ hm)
  ·exact absurd (List.mem_append_right _ hj) hn
 ·rw [List.nodup_append]
  refine ⟨h.ndo,?_,fun p hp r hr e=>?_⟩
  ·unfold List.Nodup
   rw [List.pairwise_map];refine List.Pairwise.imp_of_mem ?_ ((h.nd.filter _).filter (nQ l i))
   intro a b ha hb hab e;exact hab (DO (hne a (hop a (List.mem_filter.1 ha).1)) (hne b (hop b (List.mem_filter.1 hb).1)) e)
  ·subst e
   obtain ⟨a,b,ha,hb,_,_,e⟩:=(h.mem p).1 hp;obtain ⟨j,hj,e'⟩:=List.mem_map.1 hr;rw [e] at e';rcases FQ (hne j (hop j (List.mem_filter.1 hj).1)) e' with g | g
   ·exact hiv (g ▸ ha)
   ·exact hiv (g ▸ hb)
 ·intro p
  rw [List.mem_append,h.mem,List.mem_map,ht];constructor
  ·rintro (⟨a,b,ha,hb,hab,hm,e⟩ | ⟨j,hj,e⟩)
   ·exact ⟨a,b,List.mem_append_left _ ha,List.mem_append_left _ hb,hab,hm,e⟩
   ·have hj:=List.mem_filter.1 hj
    have hjv:=hop j hj.1;have hm:=(hmeet j hjv).1 hj;have hn:=hne j hjv;rw [n9 hn] at e
    by_cases c:i<j
    ·rw [if_pos c] at e
     exact ⟨i,j,List.mem_append_right _ (List.mem_singleton.2 rfl),List.mem_append_left _ hjv,c,ud.1 hm,e.symm⟩
    ·rw [if_neg c] at e
     exact ⟨j,i,List.mem_append_left _ hjv,List.mem_append_right _ (List.mem_singleton.2 rfl),by omega,hm,e.symm⟩
  ·rintro ⟨a,b,ha,hb,hab,hm,e⟩
   rcases List.mem_append.1 ha with ha' | ha'
   ·rcases List.mem_append.1 hb with hb' | hb'
    ·exact .inl ⟨a,b,ha',hb',hab,hm,e⟩
    ·have hb2:=List.mem_singleton.1 hb'
     rw [hb2] at hm hab e;have g:=(hmeet a ha').2 hm;refine .inr ⟨a,List.mem_filter.2 g,?_⟩;rw [n9 (hne a ha'),if_neg (by omega),e]
   ·have ha2:=List.mem_singleton.1 ha'
    rw [ha2] at hm hab e;rcases List.mem_append.1 hb with hb' | hb'
    ·have g:=(hmeet b hb').2 (ud.1 hm)
     refine .inr ⟨b,List.mem_filter.2 g,?_⟩;rw [n9 (hne b hb'),if_pos hab,e]
    ·have hb2:=List.mem_singleton.1 hb'
     omega
 ·rw [List.length_append,List.length_singleton]
  have:=h.len1;omega
 ·rw [List.length_append,List.length_map]
  have h1:=List.length_filter_le (nQ l i) (op.filter (fun j=>!decide (sC l j<nk l i)));have h2:=h.len1;have h3:=h.len2;rw [Nat.add_mul];omega
theorem GX {k:Nat} (hk:3≤k) (a b:Int):dc k [a,b]=some (if a=0 then b else a):=by
 have e1:el 0 [a,b] 0=a:=rfl;have e2:el 0 [a,b] 1=b:=rfl;have l2:len [a,b]=2:=rfl;have h:∀ n,dc.c1 k [a,b] (n+3) 0=some (if a=0 then if b=0 then .inr () else .inl b else .inl a):=by
  intro n;rw [dc.c1,bA (by rw [l2]; decide),bT,rP (bu (by decide) (by rw [l2]; decide)),e1]
  by_cases ha:a=0
  ·rw [dR ha,bF,if_pos ha,aX (by decide) (by decide),dc.c1,bA (by rw [l2]; decide),bT,rP (bu (by decide) (by rw [l2]; decide))]
   show aM (j8 (el 0 [a,b] 1) 0) (some (.inl (el 0 [a,b] 1))) (dc.c1 k [a,b] (n+1) (ao .i64 1 1))=_;rw [e2]
   by_cases hb:b=0
   ·rw [dR hb,bF,if_pos hb,aX (by decide) (by decide),dc.c1,bZ (by rw [l2]; decide),bF]
   ·rw [gn hb,bT,if_neg hb]
  ·rw [gn ha,bT,if_neg ha]
 obtain ⟨n,hn⟩:∃ n,k=n+3:=⟨k - 3,by omega⟩;unfold dc;have h:=h n;rw [← hn] at h;rw [h,bS]
 by_cases ha:a=0
 ·rw [if_pos ha,if_pos ha]
  by_cases hb:b=0
  ·rw [if_pos hb,eW,hb]
  ·rw [if_neg hb,eE]
 ·rw [if_neg ha,if_neg ha,eE]
theorem xb {k:Nat} (hk:3≤k) (p s:List Int):dB k p s=some (if jG (p.getD 0 0) (s.getD 0 0)=0 then jG (p.getD 1 0) (s.getD 1 0) else jG (p.getD 0 0) (s.getD 0 0)):=by
 unfold dB;rw [im,bS,im,bS,GX hk,bS];rfl
theorem Dq (p s:List Int):(if jG (p.getD 0 0) (s.getD 0 0)=0 then jG (p.getD 1 0) (s.getD 1 0) else jG (p.getD 0 0) (s.getD 0 0))<0↔q9 p s=true:=by
 unfold q9 jG;rw [decide_eq_true_eq];split <;> (try split) <;> (try split) <;> omega
theorem Cr {k:Nat} (hk:3≤k) {s:List (List Int)} (hl:s.length≤1000000000000) :
  ∃ y,fP k s=some y∧y.Perm s∧y.Pairwise (fun a b=>q9 b a=false) :=
 yH (e:=.arr 2 T2) (l:=s) (cmp:=fun z=>dB k z.1 z.2.1) q9 (fun a _ b _=>⟨_,xb hk a b,Dq a b⟩) (fun a _=>pE a) (fun _ _ _ h1 h2=>AU h1 h2) (fun _ _ _ h1 h2=>C8 h1 h2) hl
theorem AG {r:List (List Int)} (hn:r.Nodup) (hp:r.Pairwise (fun a b=>q9 b a=false)) (h2:∀ p,p∈r→∃ a b:Int,p=[a,b]):r.Pairwise (fun p s=>q9 p s=true):=by
 refine List.Pairwise.imp_of_mem ?_ (hn.and hp)
 rintro p s hpm hsm ⟨hne,hlt⟩
 obtain ⟨a,b,rfl⟩:=h2 p hpm;obtain ⟨c,d,rfl⟩:=h2 s hsm;have h1:¬ (c<a∨c=a∧d<b):=of_decide_eq_false hlt;have h2:¬ (a=c∧b=d):=fun ⟨x,y⟩=>hne (by rw [x,y]);exact decide_eq_true (show a<c∨a=c∧b<d by omega)
theorem uv {k:Nat} (l:List iH) (hk:l.length+3<k) (hl:l.length≤100000) :
  ∃ r,ak k l=some r∧pT l r∧r.length≤l.length*l.length:=by
 have ll:len l=(l.length:Int):=rfl;obtain ⟨s,e1,s1,s2,s3⟩:=B5 (k:=k) l (by omega) hl;obtain ⟨y,e2,y1,y2⟩:=Bo (k:=k) l (s:=s) (fun j hj=>⟨((s3 j).1 hj).1,((s3 j).1 hj).2.1⟩) (by omega);have hy:∀ j,j∈y↔0≤j∧j<len l∧rT (pF l j):=fun j=>(y1.mem_iff).trans (s3 j);have hnd:y.Nodup:=y1.nodup_iff.2 s1;have hyl:y.length=s.length:=y1.length_eq;have ly:len y=(y.length:Int):=rfl;have hNN:y.length*y.length≤l.length*l.length:=Nat.mul_le_mul (by omega) (by omega);have hLL:l.length*l.length≤100000*100000:=Nat.mul_le_mul hl hl;have key:∀ (n v:Nat) (op:List Int) (out:List (List Int)),GZ l y op out v→v≤y.length→y.length<v+n →
   ∃ op' out',ak.c2 k l y n (v:Int) op out=some out'∧GZ l y op' out' y.length:=by
  intro n
  induction n with
  | zero=>intro v _ _ _ h1 h2; omega
  | succ n ih =>
   intro v op out hI h1 h2
   by_cases hv:v<y.length
   ·have hvi:(v:Int)<len y:=by omega
    have ei:el 0 y (v:Int)=y[v]:=iN 0 y hv;have hin:=(hy y[v]).1 (List.getElem_mem hv);have hopy:∀ j,j∈op→0≤j∧j<len l:=fun j hj=>by
     have:=(hy j).1 (List.mem_of_mem_take (hI.sub j hj));exact ⟨this.1,this.2.1⟩
    have hv2:v*y.length≤y.length*y.length:=Nat.mul_le_mul_right _ (by omega);have hI':=BB hI hv hnd y2 (fun j hj=>((hy j).1 hj).2.2) rfl;have hdel:aw k (fun x:(Int × Unit)=>de k (x.1) l (el 0 y (v:Int))) op=some (op.filter (fun j=>!decide (sC l j<nk l y[v]))):=by
     refine z8 (g:=fun j=>decide (sC l j<nk l y[v])) (fun x hx=>?_) (by have:=hI.len1; omega) (by have:=hI.len1; omega);show de k x l (el 0 y (v:Int))=_;unfold de;rw [ei,rP (bu (hopy x hx).1 (hopy x hx).2),rP (bu hin.1 hin.2.1)];rfl
    have hfl:=List.length_filter_le (fun j=>!decide (sC l j<nk l y[v])) op;have l1:=hI.len1;have l2:=hI.len2;have hmt:=BS (k:=k) l (y:=y) (v:=(v:Int)) (op:=op.filter (fun j=>!decide (sC l j<nk l y[v]))) (out:=out) (by omega) hvi (by rw [ei]; exact ⟨hin.1,hin.2.1⟩)
     (fun j hj=>hopy j (List.mem_filter.1 hj).1) (by omega) (by omega) (by omega)
    have hr:room 8 (op.filter (fun j=>!decide (sC l j<nk l y[v]))) [el 0 y (v:Int)]:=by
     unfold room roomFor; simp only [List.length_singleton]; omega
    rw [ak.c2,bA hvi,bT,rP (bu (by omega) hvi),hdel,bS,hmt,bS,rP hr,aX (by omega) (by omega),ei];exact ih (v+1) _ _ hI' (by omega) (by omega)
   ·have:v=y.length:=by omega
    subst this;exact ⟨op,out,by rw [ak.c2,bZ (by omega),bF],hI⟩
 obtain ⟨op,out,e3,hI⟩:=key k 0 [] [] ⟨by simp,by simp,by simp,by simp,by simp,by simp,by simp⟩ (by omega) (by omega);have hol:=hI.len2;obtain ⟨r,e4,r1,r2⟩:=Cr (k:=k) (by omega) (s:=out) (by omega);have hmem:∀ p,p∈r↔∃ a b:Int,0≤a∧a<b∧b<len l∧w9 (pF l a) (pF l b)∧p=[a,b]:=by
  intro p;rw [r1.mem_iff,hI.mem,List.take_length];constructor
  ·rintro ⟨a,b,ha,hb,hab,hm,e⟩
   exact ⟨a,b,((hy a).1 ha).1,hab,((hy b).1 hb).2.1,hm,e⟩
  ·rintro ⟨a,b,a0,hab,b1,hm,e⟩
   exact ⟨a,b,(hy a).2 ⟨a0,by omega,hm.1⟩,(hy b).2 ⟨by omega,b1,hm.2.1⟩,hab,hm,e⟩
 refine ⟨r,?_,⟨AG (r1.nodup_iff.2 hI.ndo) r2 ?_,hmem⟩,?_⟩
 ·unfold ak
  have e3:ak.c2 k l y k 0 [] []=some out:=e3;rw [e1,bS,e2,bS,e3,bS,e4,bS]
 ·intro p hp
  obtain ⟨a,b,_,_,_,_,e⟩:=(hmem p).1 hp;exact ⟨a,b,e⟩
 ·rw [r1.length_eq]
  omega
end Go.Proofs.T1
namespace Go.Proofs.T1
open Go Go.Sx Go.Sort
theorem rB {α:Type} (f:α→α→Bool) (h:∀ x,f x x=true):∀ l:List α,zR f l l=true
 | []=>rfl
 | x :: l=>by
  show (f x x && zR f l l)=true;rw [h x,rB f h l];rfl
theorem zL (l:List Int):Ty.kY (.arr 2 T2) l l=true:=rB (fun x y:Int=>gB x y) (fun _=>fw rfl) l
end Go.Proofs.T1
namespace Go.Proofs.T1
open Go Go.Sx Go.Sort
theorem yL (k:Nat) (b:iH):gY k b=some (decide (rT b)):=by
 unfold gY rT
 by_cases h:b.1.1≤b.2.1.1
 ·rw [iJ h,bT]
  unfold jb;simp [h]
 ·rw [iI (by omega),bF]
  simp [h]
theorem AT (k:Nat) (a b:iH):gj k a b=some (decide (w9 a b)):=by
 unfold gj;rw [yL,yL,bS]
 by_cases h1:rT a
 ·rw [decide_eq_true h1,bT,bS]
  by_cases h2:rT b
  ·rw [decide_eq_true h2,bT]
   have e:w9 a b↔imax a.1.1 b.1.1≤gd a.2.1.1 b.2.1.1∧imax a.1.2.1 b.1.2.1≤gd a.2.1.2.1 b.2.1.2.1:=by
    have:=h1;have:=h2;unfold w9 rT imax gd at *
    omega
   by_cases h3:imax a.1.1 b.1.1≤gd a.2.1.1 b.2.1.1
   ·rw [iJ h3,bT]
    unfold jb;congr 1;exact decide_eq_decide.2 ⟨fun h=>e.2 ⟨h3,h⟩,fun h=>(e.1 h).2⟩
   ·rw [iI (by omega),bF,decide_eq_false (fun h=>h3 (e.1 h).1)]
  ·rw [decide_eq_false h2,bF,decide_eq_false (fun h=>h2 h.2.1)]
 ·rw [decide_eq_false h1,bF,decide_eq_false (fun h=>h1 h.1)]
theorem CJ {α β:Type} (z:α) (l:List α) (B:Nat) (g:α→Option β) (F:Nat→Int→List β→Option (List β))
  (hstep:∀ (n v:Nat) (acc:List β),v<l.length→acc.length≤B+v→F (n+1) (v:Int) acc=F n ((v+1:Nat):Int) (acc++(g (el z l (v:Int))).toList))
  (hend:∀ (n v:Nat) (acc:List β),l.length≤v→F (n+1) (v:Int) acc=some acc) :
  ∀ (n v:Nat) (acc:List β),acc.length≤B+v→l.length<v+n→0<n→F n (v:Int) acc=some (acc++(l.drop v).filterMap g):=by
 intro n
 induction n with
 | zero=>intro v acc _ _ h2; omega
 | succ n ih =>
  intro v acc h2 h3 _
  by_cases hv:v<l.length
  ·have e:el z l (v:Int)=l[v]:=iN z l hv
   rw [hstep n v acc hv h2,ih (v+1) _ ?_ (by omega) (by omega),List.drop_eq_getElem_cons hv,List.filterMap_cons,e]
   ·cases h:g l[v] with
    | none=>simp
    | some y=>simp
   ·rw [List.length_append]
    have:(g (el z l (v:Int))).toList.length≤1:=by cases g (el z l (v:Int)) <;> simp
    omega
  ·rw [hend n v acc (by omega),List.drop_of_length_le (by omega)]
   simp
theorem zH {β:Type} (N B:Nat) (R:Nat→List β) (F:Nat→Int→List β→Option (List β)) (hR:∀ v,(R v).length≤B)
  (hstep:∀ (n v:Nat) (acc:List β),v<N→acc.length≤B*v→F (n+1) (v:Int) acc=F n ((v+1:Nat):Int) (acc++R v))
  (hend:∀ (n:Nat) (acc:List β),F (n+1) (N:Int) acc=some acc) :
  ∀ (n v:Nat) (acc:List β),v≤N→acc.length≤B*v→N<v+n→F n (v:Int) acc=some (acc++((List.range N).drop v).flatMap R):=by
 intro n
 induction n with
 | zero=>intro v acc h1 _ h2; omega
 | succ n ih =>
  intro v acc h1 h2 h3
  by_cases hv:v<N
  ·have hr:=hR v
   rw [hstep n v acc hv h2,ih (v+1) _ (by omega) (by rw [List.length_append,Nat.mul_succ]; omega) (by omega),List.drop_eq_getElem_cons (show v<(List.range N).length by rw [List.length_range]; exact hv),List.flatMap_cons,List.getElem_range,List.append_assoc]
  ·obtain rfl:v=N:=by omega
   rw [hend n acc,List.drop_of_length_le (by rw [List.length_range]; omega)];simp
theorem lh {N v j:Nat}:j∈(List.range N).drop v↔v≤j∧j<N:=by
 rw [List.mem_iff_getElem];constructor
 ·rintro ⟨i,hi,rfl⟩
  rw [List.length_drop,List.length_range] at hi;rw [List.getElem_drop,List.getElem_range];omega
 ·rintro ⟨h1,h2⟩
  refine ⟨j - v,by rw [List.length_drop,List.length_range]; omega,?_⟩;rw [List.getElem_drop,List.getElem_range];omega
theorem Cu {N v:Nat} (h:v<N):el (0:Nat) (List.range N) (v:Int)=v:=by
 have h':v<(List.range N).length:=by rw [List.length_range]; exact h
 rw [iN 0 _ h',List.getElem_range]
def rowOf (N v:Nat) (i:Nat) (g:Nat→Bool):List (List Int):=((List.range N).drop v).filterMap (fun j=>if g j then some [(i:Int),(j:Int)] else none)
theorem l5 {N v i:Nat} {g:Nat→Bool} {p:List Int}:p∈rowOf N v i g↔∃ j:Nat,v≤j∧j<N∧g j=true∧p=[(i:Int),(j:Int)]:=by
 unfold rowOf;rw [List.mem_filterMap];constructor
 ·rintro ⟨j,hj,h⟩
  obtain ⟨h1,h2⟩:=lh.1 hj;split at h
  ·rename_i hg
   exact ⟨j,h1,h2,hg,(Option.some.inj h).symm⟩
  ·cases h
 ·rintro ⟨j,h1,h2,hg,rfl⟩
  exact ⟨j,lh.2 ⟨h1,h2⟩,by rw [if_pos hg]⟩
theorem zm (N v i:Nat) (g:Nat→Bool):(rowOf N v i g).length≤N:=by
 unfold rowOf;refine Nat.le_trans (List.length_filterMap_le _ _) ?_
 rw [List.length_drop,List.length_range];omega
theorem tm (N v i:Nat) (g:Nat→Bool):(rowOf N v i g).Pairwise (fun p s=>q9 p s=true):=by
 unfold rowOf;rw [List.pairwise_filterMap];refine (List.pairwise_lt_range.sublist (List.drop_sublist v (List.range N))).imp ?_
 intro a b h x hx y hy;split at hx
 ·split at hy
  ·obtain rfl:=Option.some.inj hx
   obtain rfl:=Option.some.inj hy;exact decide_eq_true (.inr ⟨rfl,Int.ofNat_lt.2 h⟩)
  ·cases hy
 ·cases hx
theorem vK (M N:Nat) (V:Nat→Nat) (g:Nat→Nat→Bool):((List.range M).flatMap (fun i=>rowOf N (V i) i (g i))).Pairwise (fun p s=>q9 p s=true):=by
 rw [List.pairwise_flatMap];refine ⟨fun i _=>tm _ _ _ _,List.pairwise_lt_range.imp ?_⟩;intro a b h x hx y hy;obtain ⟨j,_,_,_,rfl⟩:=l5.1 hx;obtain ⟨j',_,_,_,rfl⟩:=l5.1 hy;exact decide_eq_true (.inl (Int.ofNat_lt.2 h))
end Go.Proofs.T1
