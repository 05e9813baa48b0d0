import Derived.Test.YtipddonkkhjegaaGreatPlPairs
import Derived.Test.YtipddonkkhjegaaGreatPlOf
import Derived.Test.YtipddonkkhjegaaGreatG11
namespace Go.Proofs.T1
open Go Go.Sx
abbrev OKb (k:Nat) (b:V57):Prop:=body_Check k b=some 0
def AllK (k:Nat) (l:List V57):Prop:=∀ i,0≤i→i<len l→OKb k (el Z57 l i)
section
variable {p v:V26} {ang spin mass inertia bounce rub:Int} {l:List V26} {asleep:Bool} {calm:Int}
end
end Go.Proofs.T1
namespace Go.Proofs.T1
open Go Go.Sx
def P1 (nb:Int) (x:V39):Prop:=0≤x.1∧x.1<x.2.1∧x.2.1<nb∧0≤x.2.2.1
def P2 (x:V39):Prop:=Bd x.2.2.2.1 65536000∧Bd x.2.2.2.2.1 65536
def P3 (x:V39):Prop:=(0≤x.2.2.2.2.2.1∧x.2.2.2.2.2.1≤65536000)∧(0≤x.2.2.2.2.2.2.1∧x.2.2.2.2.2.2.1≤1099511627776)∧(-1099511627776≤x.2.2.2.2.2.2.2.1∧x.2.2.2.2.2.2.2.1≤1099511627776)
def CVx (nb:Int) (x:V39):Prop:=P1 nb x∧P2 x∧P3 x
end Go.Proofs.T1
namespace Go.Proofs.T1
open Go Go.Sx
section
variable {p v:V26} {ang spin mass inertia bounce rub:Int} {l:List V26} {asleep:Bool} {calm:Int}
theorem Place_all {k:Nat} (hk:10≤k) (hc:body_Check k (p,v,ang,spin,mass,inertia,bounce,rub,l,asleep,calm,())=some 0) :
  ∃ l',body_Place k (p,v,ang,spin,mass,inertia,bounce,rub,l,asleep,calm,())=some l'∧Val l'∧len l'=len l∧∃ c s,l'=tpl c s p l∧(-65536≤c∧c≤65536)∧(-65536≤s∧s≤65536):=by
 obtain ⟨e,e1,h1⟩:=bodyCheck_gen (k:=k) (by omega) (p:=p) (v:=v) (ang:=ang) (spin:=spin) (mass:=mass) (inertia:=inertia) (bounce:=bounce) (rub:=rub) (l:=l) (asleep:=asleep) (calm:=calm)
 rw [hc] at e1
 cases e1
 have hv:(Shp l 0)∧R1 p v ang spin:=by
  rcases h1 with ⟨_,h⟩ | ⟨_,_,h⟩ | ⟨_,_,_,_,h⟩ | ⟨h,g,_,_,_⟩
  ·exact absurd rfl h
  ·cases h
  ·cases h
  ·exact ⟨h,g⟩
 obtain ⟨hS,hR⟩:=hv
 have hs:Val l∧AllR l∧FatP l:=by
  rcases hS with ⟨_,h⟩ | ⟨_,_,h⟩ | ⟨_,_,_,h⟩ | ⟨a,b,c,_,_⟩
  ·exact absurd rfl h
  ·cases h
  ·cases h
  ·exact ⟨a,b,c⟩
 obtain ⟨⟨l3,l8,lw,le⟩,lr,lf⟩:=hs
 obtain ⟨bp,_,_,ba⟩:=hR
 unfold Bd at bp
 obtain ⟨c,s,tc,ts,c0,s0,D⟩:=trig_eq k ba.1 ba.2
 have ll:len l=(l.length:Int):=rfl
 obtain ⟨z,a,b⟩:=inv_loop (fun n (z:List V26) i=>body_Place.c1 k (p,v,ang,spin,mass,inertia,bounce,rub,l,asleep,calm,()) n i z) 0 (len l) (fun z i=>z=tpl c s p (l.take i.toNat))
  (by
   intro n z i i0 i1 hz
   have hr:=lr i i0 i1
   obtain ⟨t,t1,t2⟩:=Turn_eq (k:=k) (by omega) tc ts c0 s0 (v:=q l i) (p:=p) hr (by omega)
   refine ⟨z++[tp c s p (q l i)],?_,?_⟩
   ·obtain ⟨i,rfl⟩:=Int.eq_ofNat_of_zero_le i0
    have hi:i<l.length:=by omega
    have hq:q l (i:Int)=l[i]:=by
     show l.getD i Z26=_
     rw [List.getD_eq_getElem?_getD,List.getElem?_eq_getElem hi]
     rfl
    rw [hq,hz,show ((i:Int)+1).toNat=i+1 by omega,show ((i:Int)).toNat=i by omega]
    unfold tpl
    rw [List.take_succ_eq_append_getElem hi,List.map_append]
    rfl
   ·show body_Place.c1 k (p,v,ang,spin,mass,inertia,bounce,rub,l,asleep,calm,()) (n+1) i z=_
    have t1:vec_Turn k (el Z26 l i) ang=some t:=t1
    rw [body_Place.c1]
    dsimp only
    rw [ilt_pos i1,bT,rP (inL_of i0 i1),t1,bS,t2,bS,iadd_i64 (by omega) (by omega)]
    refine rP ?_ _
    have hs:z.length≤8:=by
     rw [hz]
     unfold tpl
     rw [List.length_map,List.length_take]
     omega
    show (z.length+1)*16≤140737488355328
    omega)
  (by
   intro n z i i0 i1
   show body_Place.c1 k (p,v,ang,spin,mass,inertia,bounce,rub,l,asleep,calm,()) (n+1) i z=some z
   rw [body_Place.c1]
   dsimp only
   rw [ilt_neg i1,bF])
  k [] 0 (by omega) (by omega) (by omega) rfl
 have b:body_Place.c1 k (p,v,ang,spin,mass,inertia,bounce,rub,l,asleep,calm,()) k 0 []=some z:=b
 have hz:z=tpl c s p l:=by
  rw [a,ll,show ((l.length:Nat):Int).toNat=l.length by omega,List.take_length]
 refine ⟨z,?_,?_,by rw [hz,len_tpl],c,s,hz,c0,s0⟩
 ·unfold body_Place
  rw [hc,bS,ine_neg rfl,bF,b,bS]
  exact rP (NE_of (by rw [hz,len_tpl]; omega)) _
 ·rw [hz]
  refine ⟨by rw [len_tpl]; exact l3,by rw [len_tpl]; exact l8,?_,?_⟩
  ·intro i i0 i1
   rw [len_tpl] at i1
   rw [q_tpl i0 i1]
   have hr:=lr i i0 i1
   have rb:∀ {x y:Int},-2097152≤x→x≤2097152→-65536≤y→y≤65536→-2097152≤rnd (x*y) 65536∧rnd (x*y) 65536≤2097152:=by
    intro x y x0 x1 y0 y1
    have:=mul_bd (x:=x) (y:=y) (M:=2097152) (N:=65536) x0 x1 y0 y1
    exact rnd_bd (by decide) (by omega) (by omega)
   have b1:=rb hr.1 hr.2.1 c0.1 c0.2
   have b2:=rb hr.2.2.1 hr.2.2.2 s0.1 s0.2
   have b3:=rb hr.1 hr.2.1 s0.1 s0.2
   have b4:=rb hr.2.2.1 hr.2.2.2 c0.1 c0.2
   unfold Wn tp
   dsimp only
   omega
  ·intro i j i0 i1 j0 j1 n1 n2
   rw [len_tpl] at *
   have hn:=nx_range i0 i1
   rw [q_tpl i0 i1,q_tpl j0 j1,q_tpl hn.1 hn.2]
   exact turn_pos c0 s0 D p _ _ _ (lf i j i0 i1 j0 j1 n1 n2) (le i j i0 i1 j0 j1 n1 n2)
end
theorem DeleteP_ok {k:Nat} {a1:(List Int × Unit)→Option Bool} {g:List Int→Bool} {l:List (List Int)} (hg:∀ x,x∈l→a1 (x,())=some (g x)) (hk:l.length+1<k) (hl:l.length≤1000000000) :
  slices_DeleteFunc_34 k a1 l=some (l.filter (fun x=>!g x)):=by
 have ll:len l=(l.length:Int):=rfl
 have hm:∀ j:Int,0≤j→j<len l→el (List.replicate 2 0) l j∈l:=by
  intro j h0 h1
  have:j.toNat<l.length:=by omega
  unfold el
  rw [List.getD_eq_getElem?_getD,List.getElem?_eq_getElem this]
  exact List.getElem_mem _
 have H:=find_loop (fun n v=>slices_IndexFunc_73.c1 k l a1 n v) 0 (len l) (fun j=>g (el (List.replicate 2 0) l j)=true) (fun j=>j)
  (by
   intro n v h0 h1 hp
   show slices_IndexFunc_73.c1 k l a1 (n+1) v=_
   rw [slices_IndexFunc_73.c1,ilt_pos h1,bT,rP (inL_of h0 h1),hg _ (hm v h0 h1),bS,hp,bT])
  (by
   intro n v h0 h1 hp
   show slices_IndexFunc_73.c1 k l a1 (n+1) v=slices_IndexFunc_73.c1 k l a1 n (v+1)
   have hp:g (el (List.replicate 2 0) l v)=false:=by simpa using hp
   rw [slices_IndexFunc_73.c1,ilt_pos h1,bT,rP (inL_of h0 h1),hg _ (hm v h0 h1),bS,hp,bF,iadd_i64 (by omega) (by omega)])
  (by
   intro n v h0 h1
   show slices_IndexFunc_73.c1 k l a1 (n+1) v=_
   rw [slices_IndexFunc_73.c1,ilt_neg h1,bF])
  k 0 (by omega) (by omega)
 unfold slices_DeleteFunc_34 slices_IndexFunc_73
 rcases H with ⟨j,j0,j1,hj,hbef,e⟩ | ⟨hno,e⟩
 ·have e:slices_IndexFunc_73.c1 k l a1 k 0=some (.inl j):=e
  rw [e,bS,two_inl,bS,ieq_neg (by omega),bF]
  obtain ⟨j,rfl⟩:=Int.eq_ofNat_of_zero_le j0
  have hjl:j<l.length:=by omega
  rw [iadd_i64 (by omega) (by omega)]
  obtain ⟨i',v',e1,hi',hv',ht⟩:=del_loop (List.replicate 2 (0:Int)) g (fun n i j v=>slices_DeleteFunc_34.c1 k a1 n i j v) l
   (by
    intro n i j v hv hij hj hm
    show slices_DeleteFunc_34.c1 k a1 (n+1) i j v=_
    have h1:(j:Int)<len v:=by unfold len; omega
    have e:el (List.replicate 2 0) v (j:Int)=v.getD j (List.replicate 2 0):=rfl
    have e2:st v (i:Int) (v.getD j (List.replicate 2 0))=v.set i (v.getD j (List.replicate 2 0)):=rfl
    rw [slices_DeleteFunc_34.c1,ilt_pos h1,bT,rP (inL_of (by omega) h1),e,hg _ hm,bS]
    unfold slices_DeleteFunc_34.c2
    rw [iadd_i64 (by omega) (by omega)]
    cases hg':g (v.getD j (List.replicate 2 0)) with
    | true =>
     rw [bT,bS,iadd_i64 (by omega) (by omega)]
     rfl
    | false =>
     rw [bF,rP (inL_of (by omega) (by unfold len; omega)),bS,iadd_i64 (by omega) (by omega),e,e2]
     rfl)
   (by
    intro n i v hv
    show slices_DeleteFunc_34.c1 k a1 (n+1) i l.length v=_
    rw [slices_DeleteFunc_34.c1,ilt_neg (by unfold len; omega),bF])
   k j (j+1) l rfl (by omega) (by omega) (by omega) rfl
   (by
    rw [take_succ_getD (List.replicate 2 (0:Int)) l hjl,List.filter_append]
    have h1:(l.take j).filter (fun x=>!g x)=l.take j:=by
     rw [List.filter_eq_self]
     intro x hx
     obtain ⟨i,hi,rfl⟩:=List.mem_iff_getElem.1 hx
     rw [List.length_take] at hi
     have:=hbef i (by omega) (by omega)
     have e:el (List.replicate 2 0) l (i:Int)=l[i]'(by omega):=by
      show l.getD i (List.replicate 2 0)=_
      rw [List.getD_eq_getElem?_getD,List.getElem?_eq_getElem (by omega)]
      rfl
     rw [e] at this
     rw [List.getElem_take]
     simpa using this
    have h2:g (l.getD j (List.replicate 2 0))=true:=hj
    rw [h1,filter_one,h2]
    simp)
  have e1:slices_DeleteFunc_34.c1 k a1 k (j:Int) ((j:Int)+1) l=some ((i':Int),v'):=e1
  rw [e1,bS]
  dsimp only
  rw [rP (show sufIn (i':Int) v'.length from ⟨by omega,by omega⟩),rP (show Int.toNat (i':Int)≤v'.length by omega),
   rP (show tkOk (clr (List.replicate 2 0) v' (Int.toNat (i':Int))) (i':Int) from ⟨by omega,by rw [clr_length _ _ _ (by omega)]; omega⟩)]
  show some ((clr (List.replicate 2 0) v' i').take i')=_
  rw [clr_take _ _ _ (by omega),ht]
 ·have e:slices_IndexFunc_73.c1 k l a1 k 0=some (.inr ()):=e (by omega)
  rw [e,bS,two_inr,bS,ieq_pos rfl,bT]
  congr 1
  symm
  rw [List.filter_eq_self]
  intro x hx
  obtain ⟨i,hi,rfl⟩:=List.mem_iff_getElem.1 hx
  have:=hno i (by omega) (by omega)
  have e:el (List.replicate 2 0) l (i:Int)=l[i]:=by
   show l.getD i (List.replicate 2 0)=_
   rw [List.getD_eq_getElem?_getD,List.getElem?_eq_getElem hi]
   rfl
  rw [e] at this
  simpa using this
theorem KCheck_ok {k:Nat} (hk:100<k) {l:List V57} (hA:AllK k l) (hl:len l≤64):keep_Check k l=some 0:=by
 have ll:len l=(l.length:Int):=rfl
 unfold keep_Check
 rw [igt_neg (by omega),bF]
 have H:=find_loop (fun n v=>keep_Check.c1 k l n v) 0 (len l) (fun _=>False) (fun _=>(0:Int))
  (fun _ _ _ _ h=>h.elim)
  (by
   intro n v a b _
   show keep_Check.c1 k l (n+1) v=keep_Check.c1 k l n (v+1)
   have h:body_Check k (el Z57 l v)=some 0:=hA v a b
   rw [keep_Check.c1,ilt_pos b,bT,rP (inL_of a b),h,bS,ine_neg rfl,bF,iadd_i64 (by omega) (by omega)])
  (by
   intro n v a b
   show keep_Check.c1 k l (n+1) v=_
   rw [keep_Check.c1,ilt_neg b,bF])
  k 0 (by omega) (by omega)
 rcases H with ⟨_,_,_,h,_⟩ | ⟨_,h⟩
 ·exact h.elim
 ·have h:keep_Check.c1 k l k 0=some (.inr ()):=h (by omega)
  rw [h,bS,two_inr]
def AllP (k:Nat) (l:List V57):Prop:=∀ i,0≤i→i<len l→∃ c,body_Place k (el Z57 l i)=some c∧Val c∧∀ j,0≤j→j<len c→Bx 1179648 (q c j)
theorem Bounds_tot {k:Nat} (hk:70≤k) {b:V57} {c:List V26} (h:body_Place k b=some c) (hv:Val c):∃ x,body_Bounds k b=some x:=by
 have l3:=hv.1
 have l8:=hv.2.1
 have lc:len c=(c.length:Int):=rfl
 match c,h,l3,l8,lc with
 | [],_,l3,_,_=>exact absurd l3 (by decide)
 | a :: t,h,l3,l8,lc =>
  have lt:len (a :: t)=(t.length:Int)+1:=by rw [lc,List.length_cons]; omega
  have ec:cut (a :: t) 1 (List.length (a :: t):Int)=t:=by
   show List.drop 1 (List.take (a :: t).length (a :: t))=t
   rw [List.take_length]
   rfl
  have ltt:len t=(t.length:Int):=rfl
  obtain ⟨z,_,e⟩:=inv_loop (fun n (z:V26 × V26) i=>body_Bounds.c1 k (a,t) n i z.1 z.2) 0 (len t) (fun _ _=>True)
   (by
    intro n z i i0 i1 _
    refine ⟨((imin z.1.1 (el Z26 t i).1,imin z.1.2.1 (el Z26 t i).2.1,()),(imax z.2.1 (el Z26 t i).1,imax z.2.2.1 (el Z26 t i).2.1,())),trivial,?_⟩
    show body_Bounds.c1 k (a,t) (n+1) i z.1 z.2=_
    rw [body_Bounds.c1]
    dsimp only
    rw [ec,ilt_pos i1,bT,rP (inL_of i0 i1),iadd_i64 (by omega) (by omega)])
   (by
    intro n z i i0 i1
    show body_Bounds.c1 k (a,t) (n+1) i z.1 z.2=some z
    rw [body_Bounds.c1]
    dsimp only
    rw [ec,ilt_neg i1,bF])
   k (a,a) 0 (by omega) (by omega) (by omega) trivial
  have e:body_Bounds.c1 k (a,t) k 0 a a=some z:=e
  refine ⟨(z.1,z.2,()),?_⟩
  unfold body_Bounds
  have hs:splitL (some (a :: t))=some (.inr (a,t)):=rfl
  have g0:el Z26 (a :: t) 0=a:=rfl
  rw [h,hs,bS,two_inr]
  dsimp only
  rw [rP (inL_of (by decide) (by omega)),rP (show cutOk (a :: t) 1 (List.length (a :: t):Int) from ⟨by decide,by rw [List.length_cons]; omega,Int.le_refl _⟩),g0,e,bS]
def PairsIn (n:Int) (r:List (List Int)):Prop:=r.Pairwise (fun p s=>plt p s=true)∧(∀ p,p∈r→∃ a b:Int,0≤a∧a<b∧b<n∧p=[a,b])
theorem KPairs_ok {k:Nat} (hk:10000≤k) {l:List V57} (hA:AllK k l) (hP:AllP k l) (hl:len l≤64):∃ r,keep_Pairs k l=some (r,0)∧PairsIn (len l) r∧r.length≤l.length*l.length:=by
 have ll:len l=(l.length:Int):=rfl
 obtain ⟨bs,hbs,e1⟩:=inv_loop (fun n (z:List V74) i=>keep_Pairs.c1 k l n i z) 0 (len l) (fun z i=>len z=i)
  (by
   intro n z i i0 i1 hz
   obtain ⟨c,hc,hv,_⟩:=hP i i0 i1
   obtain ⟨x,hx⟩:=Bounds_tot (k:=k) (by omega) hc hv
   have lz:len z=(z.length:Int):=rfl
   refine ⟨z++[x],by rw [len_app,hz],?_⟩
   show keep_Pairs.c1 k l (n+1) i z=_
   rw [keep_Pairs.c1,ilt_pos i1,bT,rP (inL_of i0 i1),hx,bS,rP (show room 32 z [x] by unfold room roomFor; simp only [List.length_singleton]; omega),iadd_i64 (by omega) (by omega)])
  (by
   intro n z i i0 i1
   show keep_Pairs.c1 k l (n+1) i z=some z
   rw [keep_Pairs.c1,ilt_neg i1,bF])
  k [] 0 (by omega) (by omega) (by omega) rfl
 have e1:keep_Pairs.c1 k l k 0 []=some bs:=e1
 have lb:len bs=(bs.length:Int):=rfl
 obtain ⟨r,e2,hr,lr⟩:=Pairs_ok (k:=k) bs (by omega) (by omega)
 have hbl:bs.length=l.length:=by omega
 have sq:=Nat.mul_le_mul (show l.length≤64 by omega) (show l.length≤64 by omega)
 rw [hbl] at lr
 have hin:∀ p,p∈r→∃ a b:Int,0≤a∧a<b∧b<len l∧p=[a,b]:=by
  intro p hp
  obtain ⟨a,b,h0,h1,h2,_,h3⟩:=(hr.2 p).1 hp
  exact ⟨a,b,h0,h1,by omega,h3⟩
 let g:List Int→Bool:=fun x=>decide ((el Z57 l (x.getD 0 0)).2.2.2.2.1=0∧(el Z57 l (x.getD 1 0)).2.2.2.2.1=0)
 have e3:=DeleteP_ok (k:=k) (a1:=fun x:((List Int) × Unit)=>keep_Pairs_1 k (x.1) l) (g:=g) (l:=r) (fun x hx=>by
   obtain ⟨a,b,h0,h1,h2,rfl⟩:=hin x hx
   show keep_Pairs_1 k [a,b] l=some (decide ((el Z57 l (([a,b]:List Int).getD 0 0)).2.2.2.2.1=0∧(el Z57 l (([a,b]:List Int).getD 1 0)).2.2.2.2.1=0))
   have g0:el 0 [a,b] 0=a:=rfl
   have g1:el 0 [a,b] 1=b:=rfl
   have d0:([a,b]:List Int).getD 0 0=a:=rfl
   have d1:([a,b]:List Int).getD 1 0=b:=rfl
   unfold keep_Pairs_1
   rw [g0,g1,d0,d1,rP (inL_of h0 (by omega)),rP (inL_of (by omega) h2)]
   by_cases c:(el Z57 l a).2.2.2.2.1=0
   ·rw [ieq_pos c,bT]
    unfold ieq
    congr 1
    exact decide_eq_decide.2 ⟨fun h=>⟨c,h⟩,fun h=>h.2⟩
   ·rw [ieq_neg c,bF,decide_eq_false (fun h=>c h.1)]) (by omega) (by omega)
 refine ⟨r.filter (fun x=>!g x),?_,⟨hr.1.sublist List.filter_sublist,fun p hp=>hin p (List.mem_filter.1 hp).1⟩,Nat.le_trans (List.length_filter_le _ _) lr⟩
 unfold keep_Pairs
 rw [KCheck_ok (by omega) hA hl,bS,ine_neg rfl,bF,e1,bS,e2,bS,e3,bS]
def clt (c d:V39):Prop:=c.1<d.1∨c.1=d.1∧(c.2.1<d.2.1∨c.2.1=d.2.1∧c.2.2.1<d.2.2.1)
structure Fnd (nb:Int) (ps:List (List Int)) (C:List V39):Prop where
 ord:C.Pairwise clt
 prs:∀ c,c∈C→[c.1,c.2.1]∈ps
 ok:∀ c,c∈C→CVx nb c
 zero:∀ c,c∈C→c.2.2.2.2.2.2=(0,0,())
def mkc (p:List Int) (x:V26 × (V26 × V26)):V39:=(p.getD 0 0,p.getD 1 0,x.2.2.2.1,x.1,x.2.1,x.2.2.1,0,0,())
theorem Find_c2 {k:Nat} {v:Int} {y1:List (List Int) × Int} {p:List Int} (hp:el (List.replicate 2 0) y1.1 v=p) {X:List (V26 × (V26 × V26))} (hX:X.length≤2) (hk:3≤k) {acc:List V39} (ha:acc.length≤1000000) :
  keep_Find.c2 k v y1 X k 0 acc=some (acc++X.map (mkc p)):=by
 have lX:len X=(X.length:Int):=rfl
 have e0:el 0 p 0=p.getD 0 0:=rfl
 have e1:el 0 p 1=p.getD 1 0:=rfl
 have key:∀ (n u:Nat) (a:List V39),X.length<u+n→u≤X.length→a.length≤1000000+u→keep_Find.c2 k v y1 X n (u:Int) a=some (a++(X.drop u).map (mkc p)):=by
  intro n
  induction n with
  | zero=>intro u a h1 h2; omega
  | succ n ih =>
   intro u a h1 h2 h3
   rw [keep_Find.c2,hp,e0,e1]
   by_cases c:u<X.length
   ·have hr:∀ x:V39,room 80 a [x]:=fun x=>by unfold room roomFor; simp only [List.length_singleton]; omega
    rw [ilt_pos (by omega),bT,rP (inL_of (by omega) (by omega)),rP (hr _),iadd_i64 (x:=(u:Int)) (y:=1) (by omega) (by omega),(show (u:Int)+1=((u+1:Nat):Int) by omega),ih (u+1) _ (by omega) (by omega) (by rw [List.length_append,List.length_singleton]; omega),List.drop_eq_getElem_cons c]
    have ex:el ((0,0,()),(0,0,()),0,0,()) X (u:Int)=X[u]:=el_get _ X c
    rw [ex,List.map_cons,List.append_assoc]
    rfl
   ·rw [ilt_neg (by omega),bF,List.drop_of_length_le (by omega)]
    simp
 have:=key k 0 acc (by omega) (by omega) (by omega)
 exact this
theorem Find_ok {k:Nat} (hk:10000≤k) {l:List V57} (hA:AllK k l) (hP:AllP k l) (hl:len l≤64):∃ ps C,keep_Pairs k l=some (ps,0)∧PairsIn (len l) ps∧keep_Find.c1 k l (ps,0) k 0 []=some C∧Fnd (len l) ps C∧C.length≤2*(l.length*l.length):=by
 have ll:len l=(l.length:Int):=rfl
 obtain ⟨ps,ep,⟨hs,hin⟩,lp⟩:=KPairs_ok hk hA hP hl
 have sq:=Nat.mul_le_mul (show l.length≤64 by omega) (show l.length≤64 by omega)
 have lps:len ps=(ps.length:Int):=rfl
 have key:∀ (n v:Nat) (acc:List V39),ps.length<v+n→v≤ps.length→acc.length≤2*v→Fnd (len l) (ps.take v) acc→∃ C,keep_Find.c1 k l (ps,0) n (v:Int) acc=some C∧Fnd (len l) ps C∧C.length≤2*ps.length:=by
  intro n
  induction n with
  | zero=>intro v acc h1 h2; omega
  | succ n ih =>
   intro v acc h1 h2 h3 hF
   rw [keep_Find.c1]
   dsimp only
   by_cases c:v<ps.length
   ·obtain ⟨a,b,a0,ab,bn,hp⟩:=hin _ (el_in (List.replicate 2 (0:Int)) ps (j:=(v:Int)) (by omega) (by omega))
    have g0:el 0 [a,b] 0=a:=rfl
    have g1:el 0 [a,b] 1=b:=rfl
    obtain ⟨ca,ea,va,ba⟩:=hP a a0 (by omega)
    obtain ⟨cb,eb,vb,bb⟩:=hP b (by omega) bn
    obtain ⟨X,u,eX,⟨lX,hX,oX⟩,hu⟩:=Of_any (k:=k) (by omega) va vb ba bb
    have eF:=Find_c2 (k:=k) (v:=(v:Int)) (y1:=(ps,0)) (p:=[a,b]) hp lX (by omega) (acc:=acc) (by omega)
    have hget:ps[v]=[a,b]:=by rw [← hp]; exact (el_get _ ps c).symm
    have htake:ps.take (v+1)=ps.take v++[[a,b]]:=by rw [List.take_succ_eq_append_getElem c,hget]
    have hmem:∀ c,c∈X.map (mkc [a,b])→c.1=a∧c.2.1=b∧CVx (len l) c∧c.2.2.2.2.2.2=(0,0,()):=by
     intro c hc
     obtain ⟨x,hx,rfl⟩:=List.mem_map.1 hc
     obtain ⟨x1,x2,x3,x4,x5,x6⟩:=hX x hx
     refine ⟨rfl,rfl,⟨⟨a0,ab,bn,x5⟩,⟨?_,?_⟩,⟨x3,by show x.2.2.1≤65536000; omega⟩,⟨show (0:Int)≤0 by decide,show (0:Int)≤1099511627776 by decide⟩,show (-1099511627776:Int)≤0 by decide,show (0:Int)≤1099511627776 by decide⟩,rfl⟩
     ·unfold Bx at x1
      show Bd x.1 65536000
      unfold Bd
      omega
     ·show Bd x.2.1 65536
      rw [x2]
      unfold Bd
      omega
    obtain ⟨C,e,r1,r2⟩:=ih (v+1) (acc++X.map (mkc [a,b])) (by omega) (by omega) (by rw [List.length_append,List.length_map]; omega) ⟨by
      rw [List.pairwise_append]
      refine ⟨hF.ord,?_,?_⟩
      ·rw [List.pairwise_map]
       exact oX.imp fun {x y} h=>.inr ⟨rfl,.inr ⟨rfl,h⟩⟩
      ·intro x hc d hd
       obtain ⟨d1,d2,_,_⟩:=hmem d hd
       have hpc:=hF.prs x hc
       obtain ⟨i,hi,hpi⟩:=List.mem_take_iff_getElem.1 hpc
       have hlt:=List.pairwise_iff_getElem.1 hs i v (by omega) c (by omega)
       rw [hpi,hget] at hlt
       unfold plt at hlt
       have hlt:=of_decide_eq_true hlt
       simp only [List.getD_cons_zero,List.getD_cons_succ] at hlt
       unfold clt
       omega,by
      intro c hc
      rw [htake,List.mem_append]
      rcases List.mem_append.1 hc with h | h
      ·exact .inl (hF.prs c h)
      ·obtain ⟨d1,d2,_,_⟩:=hmem c h
       right
       rw [d1,d2]
       exact List.mem_singleton.2 rfl,by
      intro c hc
      rcases List.mem_append.1 hc with h | h
      ·exact hF.ok c h
      ·exact (hmem c h).2.2.1,by
      intro c hc
      rcases List.mem_append.1 hc with h | h
      ·exact hF.zero c h
      ·exact (hmem c h).2.2.2⟩
    refine ⟨C,?_,r1,r2⟩
    rw [ilt_pos (by omega),bT,rP (inL_of (by omega) (by omega)),hp,g0,g1,rP (inL_of a0 (by omega)),ea,bS,rP (inL_of (by omega) bn),eb,bS,eX,bS,eF,bS,iadd_i64 (x:=(v:Int)) (y:=1) (by omega) (by omega)]
    exact e
   ·rw [ilt_neg (by omega),bF]
    refine ⟨acc,rfl,?_,by omega⟩
    rw [List.take_of_length_le (by omega)] at hF
    exact hF
 obtain ⟨C,e,r1,r2⟩:=key k 0 [] (by omega) (by omega) (by simp) ⟨List.Pairwise.nil,fun c hc=>(nomatch hc),fun c hc=>(nomatch hc),fun c hc=>(nomatch hc)⟩
 exact ⟨ps,C,ep,⟨hs,hin⟩,e,r1,by omega⟩
end Go.Proofs.T1
