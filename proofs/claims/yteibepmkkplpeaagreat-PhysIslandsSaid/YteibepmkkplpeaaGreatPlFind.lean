import Derived.Test.YteibepmkkplpeaaGreatPlPairs
import Derived.Test.YteibepmkkplpeaaGreatPlOf
import Derived.Test.YteibepmkkplpeaaGreatG8
import Derived.Test.YteibepmkkplpeaaGreatG9
import Derived.Test.YteibepmkkplpeaaGreatG10
import Derived.Test.YteibepmkkplpeaaGreatG12
namespace Go.Proofs.T1
open Go Go.Sx
abbrev E0 (k:Nat) (b:ct):Prop:=ak k b=some 0
def q9 (k:Nat) (l:List ct):Prop:=∀ i,0≤i→i<len l→E0 k (el au l i)
section
variable {p v:aV} {ang spin mass inertia bounce rub:Int} {l:List aV} {asleep:Bool} {calm:Int}
end
end Go.Proofs.T1
namespace Go.Proofs.T1
open Go Go.Sx
def P1 (nb:Int) (x:dX):Prop:=0≤x.1∧x.1<x.2.1∧x.2.1<nb∧0≤x.2.2.1
def P2 (x:dX):Prop:=Bd x.2.2.2.1 65536000∧Bd x.2.2.2.2.1 65536
def P3 (x:dX):Prop:=(0≤x.2.2.2.2.2.1∧x.2.2.2.2.2.1≤65536000)∧(0≤x.2.2.2.2.2.2.1∧x.2.2.2.2.2.2.1≤1099511627776)∧(-1099511627776≤x.2.2.2.2.2.2.2.1∧x.2.2.2.2.2.2.2.1≤1099511627776)
instance (nb:Int) (x:dX):Decidable (P1 nb x):=by unfold P1; infer_instance
instance (x:dX):Decidable (P2 x):=by unfold P2; infer_instance
instance (x:dX):Decidable (P3 x):=by unfold P3; infer_instance
theorem oO (k:Nat) (n a b:Int):cQ k n a b=some (decide (a≤n∧n≤b)):=by
 unfold cQ
 by_cases h:n ≥ a
 ·rw [il h,bT]
  unfold jR;congr 1;rw [decide_eq_decide];exact ⟨fun x=>⟨h,x⟩,fun x=>x.2⟩
 ·rw [gO (by omega),bF,decide_eq_false (fun x=>h x.1)]
theorem Eb (k:Nat) {l:List ct} (hl:len l≤64) (c:List dX) (v:Int):ah.c2 k l c v=some (!decide (P1 (len l) (el bf c v))):=by
 have h0:(0:Int)≤len l:=by unfold len; omega
 unfold ah.c2;generalize el bf c v=x;rw [dN (by omega) (by omega),oO,bS,oO]
 by_cases a:0≤x.1∧x.1≤len l - 1
 ·rw [decide_eq_true a,bT,bS]
  by_cases b:0≤x.2.1∧x.2.1≤len l - 1
  ·rw [decide_eq_true b,bT]
   by_cases d:x.1 ≥ x.2.1
   ·rw [il d,bT,decide_eq_false (by unfold P1; omega)]; rfl
   ·rw [gO (by omega),bF]
    unfold fy
    by_cases e:x.2.2.1<0
    ·rw [decide_eq_true e,decide_eq_false (by unfold P1; omega)]; rfl
    ·rw [decide_eq_false e,decide_eq_true (by unfold P1; omega)]; rfl
  ·rw [decide_eq_false b,bF,decide_eq_false (by unfold P1; omega)]; rfl
 ·rw [decide_eq_false a,bF,decide_eq_false (by unfold P1; omega)]; rfl
theorem DG (k:Nat) (c:List dX) (v:Int):ah.c3 k c v=some (!decide (P2 (el bf c v))):=by
 unfold ah.c3;generalize el bf c v=x;simp only [oO,bS]
 by_cases a:-65536000≤x.2.2.2.1.1∧x.2.2.2.1.1≤65536000
 ·rw [decide_eq_true a,bT]
  by_cases b:-65536000≤x.2.2.2.1.2.1∧x.2.2.2.1.2.1≤65536000
  ·rw [decide_eq_true b,bT]
   by_cases d:-65536≤x.2.2.2.2.1.1∧x.2.2.2.2.1.1≤65536
   ·rw [decide_eq_true d,bT]
    congr 2;rw [decide_eq_decide];exact ⟨fun e=>⟨⟨a.1,a.2,b.1,b.2⟩,d.1,d.2,e.1,e.2⟩,fun e=>e.2.2.2⟩
   ·rw [decide_eq_false d,bF,decide_eq_false (fun e=>d ⟨e.2.1,e.2.2.1⟩)]; rfl
  ·rw [decide_eq_false b,bF,decide_eq_false (fun e=>b e.1.2.2)]; rfl
 ·rw [decide_eq_false a,bF,decide_eq_false (fun e=>a ⟨e.1.1,e.1.2.1⟩)]; rfl
theorem D1 (k:Nat) (c:List dX) (v:Int):ah.c4 k c v=some (!decide (P3 (el bf c v))):=by
 unfold ah.c4;generalize el bf c v=x;simp only [oO,bS]
 by_cases a:0≤x.2.2.2.2.2.1∧x.2.2.2.2.2.1≤65536000
 ·rw [decide_eq_true a,bT]
  by_cases b:0≤x.2.2.2.2.2.2.1∧x.2.2.2.2.2.2.1≤1099511627776
  ·rw [decide_eq_true b,bT]
   congr 2;rw [decide_eq_decide];exact ⟨fun e=>⟨a,b,e⟩,fun e=>e.2.2⟩
  ·rw [decide_eq_false b,bF,decide_eq_false (fun e=>b e.2.1)]; rfl
 ·rw [decide_eq_false a,bF,decide_eq_false (fun e=>a e.1)]; rfl
def DA (nb:Int) (x:dX):Prop:=P1 nb x∧P2 x∧P3 x
instance (nb:Int) (x:dX):Decidable (DA nb x):=by unfold DA; infer_instance
end Go.Proofs.T1
namespace Go.Proofs.T1
open Go Go.Sx
section
variable {p v:aV} {ang spin mass inertia bounce rub:Int} {l:List aV} {asleep:Bool} {calm:Int}
theorem xY {k:Nat} (hk:10≤k) (hc:ak k (p,v,ang,spin,mass,inertia,bounce,rub,l,asleep,calm,())=some 0) :
  ∃ l',bM k (p,v,ang,spin,mass,inertia,bounce,rub,l,asleep,calm,())=some l'∧kg l'∧len l'=len l∧∃ c s,l'=AZ c s p l∧(-65536≤c∧c≤65536)∧(-65536≤s∧s≤65536):=by
 obtain ⟨e,e1,h1⟩:=jQ (k:=k) (by omega) (p:=p) (v:=v) (ang:=ang) (spin:=spin) (mass:=mass) (inertia:=inertia) (bounce:=bounce) (rub:=rub) (l:=l) (asleep:=asleep) (calm:=calm);rw [hc] at e1;cases e1;have hv:(CX l 0)∧R1 p v ang spin:=by
  rcases h1 with ⟨_,h⟩ | ⟨_,_,h⟩ | ⟨_,_,_,_,h⟩ | ⟨h,g,_,_,_⟩
  ·exact absurd rfl h
  ·cases h
  ·cases h
  ·exact ⟨h,g⟩
 obtain ⟨hS,hR⟩:=hv;have hs:kg l∧rm l∧yv l:=by
  rcases hS with ⟨_,h⟩ | ⟨_,_,h⟩ | ⟨_,_,_,h⟩ | ⟨a,b,c,_,_⟩
  ·exact absurd rfl h
  ·cases h
  ·cases h
  ·exact ⟨a,b,c⟩
 obtain ⟨⟨l3,l8,lw,le⟩,lr,lf⟩:=hs;obtain ⟨bp,_,_,ba⟩:=hR;unfold Bd at bp;obtain ⟨c,s,tc,ts,c0,s0,D⟩:=B8 k ba.1 ba.2;have ll:len l=(l.length:Int):=rfl;obtain ⟨z,a,b⟩:=iz (fun n (z:List aV) i=>bM.c1 k (p,v,ang,spin,mass,inertia,bounce,rub,l,asleep,calm,()) n i z) 0 (len l) (fun z i=>z=AZ c s p (l.take i.toNat))
  (by
   intro n z i i0 i1 hz;have hr:=lr i i0 i1;obtain ⟨t,t1,t2⟩:=Bp (k:=k) (by omega) tc ts c0 s0 (v:=q l i) (p:=p) hr (by omega);refine ⟨z++[tp c s p (q l i)],?_,?_⟩
   ·obtain ⟨i,rfl⟩:=Int.eq_ofNat_of_zero_le i0
    have hi:i<l.length:=by omega
    have hq:q l (i:Int)=l[i]:=by
     show l.getD i dT=_;rw [List.getD_eq_getElem?_getD,List.getElem?_eq_getElem hi];rfl
    rw [hq,hz,show ((i:Int)+1).toNat=i+1 by omega,show ((i:Int)).toNat=i by omega];unfold AZ;rw [List.take_succ_eq_append_getElem hi,List.map_append];rfl
   ·show bM.c1 k (p,v,ang,spin,mass,inertia,bounce,rub,l,asleep,calm,()) (n+1) i z=_
    have t1:fQ k (el dT l i) ang=some t:=t1;rw [bM.c1];dsimp only;rw [cg i1,bT,rP (bZ i0 i1),t1,bS,t2,bS,bJ (by omega) (by omega)];refine rP ?_ _;have hs:z.length≤8:=by
     rw [hz];unfold AZ;rw [List.length_map,List.length_take];omega
    show (z.length+1)*16≤140737488355328
    omega)
  (by
   intro n z i i0 i1;show bM.c1 k (p,v,ang,spin,mass,inertia,bounce,rub,l,asleep,calm,()) (n+1) i z=some z;rw [bM.c1];dsimp only
   rw [cp i1,bF])
  k [] 0 (by omega) (by omega) (by omega) rfl
 have b:bM.c1 k (p,v,ang,spin,mass,inertia,bounce,rub,l,asleep,calm,()) k 0 []=some z:=b;have hz:z=AZ c s p l:=by
  rw [a,ll,show ((l.length:Nat):Int).toNat=l.length by omega,List.take_length]
 refine ⟨z,?_,?_,by rw [hz,lD],c,s,hz,c0,s0⟩
 ·unfold bM
  rw [hc,bS,dE rfl,bF,b,bS];exact rP (DX (by rw [hz,lD]; omega)) _
 ·rw [hz]
  refine ⟨by rw [lD]; exact l3,by rw [lD]; exact l8,?_,?_⟩
  ·intro i i0 i1
   rw [lD] at i1;rw [uD i0 i1];have hr:=lr i i0 i1;have rb:∀ {x y:Int},-2097152≤x→x≤2097152→-65536≤y→y≤65536→-2097152≤iH (x*y) 65536∧iH (x*y) 65536≤2097152:=by
    intro x y x0 x1 y0 y1;have:=eA (x:=x) (y:=y) (M:=2097152) (N:=65536) x0 x1 y0 y1;exact nH (by decide) (by omega) (by omega)
   have b1:=rb hr.1 hr.2.1 c0.1 c0.2;have b2:=rb hr.2.2.1 hr.2.2.2 s0.1 s0.2;have b3:=rb hr.1 hr.2.1 s0.1 s0.2;have b4:=rb hr.2.2.1 hr.2.2.2 c0.1 c0.2;unfold Wn tp;dsimp only;omega
  ·intro i j i0 i1 j0 j1 n1 n2
   rw [lD] at *
   have hn:=fB i0 i1;rw [uD i0 i1,uD j0 j1,uD hn.1 hn.2];exact zS c0 s0 D p _ _ _ (lf i j i0 i1 j0 j1 n1 n2) (le i j i0 i1 j0 j1 n1 n2)
end
theorem vc {k:Nat} {a1:(List Int × Unit)→Option Bool} {g:List Int→Bool} {l:List (List Int)} (hg:∀ x,x∈l→a1 (x,())=some (g x)) (hk:l.length+1<k) (hl:l.length≤1000000000) :
  aq k a1 l=some (l.filter (fun x=>!g x)):=by
 have ll:len l=(l.length:Int):=rfl;have hm:∀ j:Int,0≤j→j<len l→el (List.replicate 2 0) l j∈l:=by
  intro j h0 h1;have:j.toNat<l.length:=by omega
  unfold el;rw [List.getD_eq_getElem?_getD,List.getElem?_eq_getElem this];exact List.getElem_mem _
 have H:=gJ (fun n v=>aH.c1 k l a1 n v) 0 (len l) (fun j=>g (el (List.replicate 2 0) l j)=true) (fun j=>j)
  (by
   intro n v h0 h1 hp;show aH.c1 k l a1 (n+1) v=_
   rw [aH.c1,cg h1,bT,rP (bZ h0 h1),hg _ (hm v h0 h1),bS,hp,bT])
  (by
   intro n v h0 h1 hp;show aH.c1 k l a1 (n+1) v=aH.c1 k l a1 n (v+1);have hp:g (el (List.replicate 2 0) l v)=false:=by simpa using hp
   rw [aH.c1,cg h1,bT,rP (bZ h0 h1),hg _ (hm v h0 h1),bS,hp,bF,bJ (by omega) (by omega)])
  (by
   intro n v h0 h1;show aH.c1 k l a1 (n+1) v=_
   rw [aH.c1,cp h1,bF])
  k 0 (by omega) (by omega)
 unfold aq aH;rcases H with ⟨j,j0,j1,hj,hbef,e⟩ | ⟨hno,e⟩
 ·have e:aH.c1 k l a1 k 0=some (.inl j):=e
  rw [e,bS,gD,bS,eL (by omega),bF];obtain ⟨j,rfl⟩:=Int.eq_ofNat_of_zero_le j0;have hjl:j<l.length:=by omega
  rw [bJ (by omega) (by omega)];obtain ⟨i',v',e1,hi',hv',ht⟩:=sE (List.replicate 2 (0:Int)) g (fun n i j v=>aq.c1 k a1 n i j v) l
   (by
    intro n i j v hv hij hj hm;show aq.c1 k a1 (n+1) i j v=_;have h1:(j:Int)<len v:=by unfold len; omega
    have e:el (List.replicate 2 0) v (j:Int)=v.getD j (List.replicate 2 0):=rfl;have e2:st v (i:Int) (v.getD j (List.replicate 2 0))=v.set i (v.getD j (List.replicate 2 0)):=rfl;rw [aq.c1,cg h1,bT,rP (bZ (by omega) h1),e,hg _ hm,bS];unfold aq.c2;rw [bJ (by omega) (by omega)];cases hg':g (v.getD j (List.replicate 2 0)) with
    | true =>
     rw [bT,bS,bJ (by omega) (by omega)];rfl
    | false =>
     rw [bF,rP (bZ (by omega) (by unfold len; omega)),bS,bJ (by omega) (by omega),e,e2]
     rfl)
   (by
    intro n i v hv;show aq.c1 k a1 (n+1) i l.length v=_
    rw [aq.c1,cp (by unfold len; omega),bF])
   k j (j+1) l rfl (by omega) (by omega) (by omega) rfl
   (by
    rw [gR (List.replicate 2 (0:Int)) l hjl,List.filter_append];have h1:(l.take j).filter (fun x=>!g x)=l.take j:=by
     rw [List.filter_eq_self];intro x hx;obtain ⟨i,hi,rfl⟩:=List.mem_iff_getElem.1 hx;rw [List.length_take] at hi;have:=hbef i (by omega) (by omega);have e:el (List.replicate 2 0) l (i:Int)=l[i]'(by omega):=by
      show l.getD i (List.replicate 2 0)=_;rw [List.getD_eq_getElem?_getD,List.getElem?_eq_getElem (by omega)];rfl
     rw [e] at this;rw [List.getElem_take]
     simpa using this
    have h2:g (l.getD j (List.replicate 2 0))=true:=hj;rw [h1,filter_one,h2]
    simp)
  have e1:aq.c1 k a1 k (j:Int) ((j:Int)+1) l=some ((i':Int),v'):=e1;rw [e1,bS];dsimp only
  rw [rP (show oh (i':Int) v'.length from ⟨by omega,by omega⟩),rP (show Int.toNat (i':Int)≤v'.length by omega),
   rP (show yq (wE (List.replicate 2 0) v' (Int.toNat (i':Int))) (i':Int) from ⟨by omega,by rw [pH _ _ _ (by omega)]; omega⟩)]
  show some ((wE (List.replicate 2 0) v' i').take i')=_;rw [uv _ _ _ (by omega),ht]
 ·have e:aH.c1 k l a1 k 0=some (.inr ()):=e (by omega)
  rw [e,bS,fN,bS,fh rfl,bT];congr 1;symm;rw [List.filter_eq_self];intro x hx;obtain ⟨i,hi,rfl⟩:=List.mem_iff_getElem.1 hx;have:=hno i (by omega) (by omega);have e:el (List.replicate 2 0) l (i:Int)=l[i]:=by
   show l.getD i (List.replicate 2 0)=_;rw [List.getD_eq_getElem?_getD,List.getElem?_eq_getElem hi];rfl
  rw [e] at this
  simpa using this
theorem qK {k:Nat} (hk:100<k) {l:List ct} (hA:q9 k l) (hl:len l≤64):bu k l=some 0:=by
 have ll:len l=(l.length:Int):=rfl;unfold bu;rw [gd (by omega),bF];have H:=gJ (fun n v=>bu.c1 k l n v) 0 (len l) (fun _=>False) (fun _=>(0:Int))
  (fun _ _ _ _ h=>h.elim)
  (by
   intro n v a b _;show bu.c1 k l (n+1) v=bu.c1 k l n (v+1);have h:ak k (el au l v)=some 0:=hA v a b
   rw [bu.c1,cg b,bT,rP (bZ a b),h,bS,dE rfl,bF,bJ (by omega) (by omega)])
  (by
   intro n v a b;show bu.c1 k l (n+1) v=_
   rw [bu.c1,cp b,bF])
  k 0 (by omega) (by omega)
 rcases H with ⟨_,_,_,h,_⟩ | ⟨_,h⟩
 ·exact h.elim
 ·have h:bu.c1 k l k 0=some (.inr ()):=h (by omega)
  rw [h,bS,fN]
def Bl (k:Nat) (l:List ct):Prop:=∀ i,0≤i→i<len l→∃ c,bM k (el au l i)=some c∧kg c∧∀ j,0≤j→j<len c→Bx 1179648 (q c j)
theorem u9 {k:Nat} (hk:70≤k) {b:ct} {c:List aV} (h:bM k b=some c) (hv:kg c):∃ x,bG k b=some x:=by
 have l3:=hv.1;have l8:=hv.2.1;have lc:len c=(c.length:Int):=rfl
 match c,h,l3,l8,lc with
 | [],_,l3,_,_=>exact absurd l3 (by decide)
 | a :: t,h,l3,l8,lc =>
  have lt:len (a :: t)=(t.length:Int)+1:=by rw [lc,List.length_cons]; omega
  have ec:cut (a :: t) 1 (List.length (a :: t):Int)=t:=by
   show List.drop 1 (List.take (a :: t).length (a :: t))=t;rw [List.take_length];rfl
  have ltt:len t=(t.length:Int):=rfl;obtain ⟨z,_,e⟩:=iz (fun n (z:aV × aV) i=>bG.c1 k (a,t) n i z.1 z.2) 0 (len t) (fun _ _=>True)
   (by
    intro n z i i0 i1 _;refine ⟨((fH z.1.1 (el dT t i).1,fH z.1.2.1 (el dT t i).2.1,()),(imax z.2.1 (el dT t i).1,imax z.2.2.1 (el dT t i).2.1,())),trivial,?_⟩;show bG.c1 k (a,t) (n+1) i z.1 z.2=_;rw [bG.c1];dsimp only
    rw [ec,cg i1,bT,rP (bZ i0 i1),bJ (by omega) (by omega)])
   (by
    intro n z i i0 i1;show bG.c1 k (a,t) (n+1) i z.1 z.2=some z;rw [bG.c1];dsimp only
    rw [ec,cp i1,bF])
   k (a,a) 0 (by omega) (by omega) (by omega) trivial
  have e:bG.c1 k (a,t) k 0 a a=some z:=e;refine ⟨(z.1,z.2,()),?_⟩;unfold bG;have hs:rn (some (a :: t))=some (.inr (a,t)):=rfl;have g0:el dT (a :: t) 0=a:=rfl;rw [h,hs,bS,fN];dsimp only;rw [rP (bZ (by decide) (by omega)),rP (show qH (a :: t) 1 (List.length (a :: t):Int) from ⟨by decide,by rw [List.length_cons]; omega,Int.le_refl _⟩),g0,e,bS]
def sk (n:Int) (r:List (List Int)):Prop:=r.Pairwise (fun p s=>qo p s=true)∧(∀ p,p∈r→∃ a b:Int,0≤a∧a<b∧b<n∧p=[a,b])
theorem yC {k:Nat} (hk:10000≤k) {l:List ct} (hA:q9 k l) (hP:Bl k l) (hl:len l≤64):∃ r,bP k l=some (r,0)∧sk (len l) r∧r.length≤l.length*l.length:=by
 have ll:len l=(l.length:Int):=rfl;obtain ⟨bs,hbs,e1⟩:=iz (fun n (z:List eW) i=>bP.c1 k l n i z) 0 (len l) (fun z i=>len z=i)
  (by
   intro n z i i0 i1 hz;obtain ⟨c,hc,hv,_⟩:=hP i i0 i1;obtain ⟨x,hx⟩:=u9 (k:=k) (by omega) hc hv;have lz:len z=(z.length:Int):=rfl;refine ⟨z++[x],by rw [ry,hz],?_⟩;show bP.c1 k l (n+1) i z=_
   rw [bP.c1,cg i1,bT,rP (bZ i0 i1),hx,bS,rP (show room 32 z [x] by unfold room roomFor; simp only [List.length_singleton]; omega),bJ (by omega) (by omega)])
  (by
   intro n z i i0 i1;show bP.c1 k l (n+1) i z=some z
   rw [bP.c1,cp i1,bF])
  k [] 0 (by omega) (by omega) (by omega) rfl
 have e1:bP.c1 k l k 0 []=some bs:=e1;have lb:len bs=(bs.length:Int):=rfl;obtain ⟨r,e2,hr,lr⟩:=uq (k:=k) bs (by omega) (by omega);have hbl:bs.length=l.length:=by omega
 have sq:=Nat.mul_le_mul (show l.length≤64 by omega) (show l.length≤64 by omega);rw [hbl] at lr;have hin:∀ p,p∈r→∃ a b:Int,0≤a∧a<b∧b<len l∧p=[a,b]:=by
  intro p hp;obtain ⟨a,b,h0,h1,h2,_,h3⟩:=(hr.2 p).1 hp;exact ⟨a,b,h0,h1,by omega,h3⟩
 let g:List Int→Bool:=fun x=>decide ((el au l (x.getD 0 0)).2.2.2.2.1=0∧(el au l (x.getD 1 0)).2.2.2.2.1=0)
 have e3:=vc (k:=k) (a1:=fun x:((List Int) × Unit)=>dB k (x.1) l) (g:=g) (l:=r) (fun x hx=>by
   obtain ⟨a,b,h0,h1,h2,rfl⟩:=hin x hx;show dB k [a,b] l=some (decide ((el au l (([a,b]:List Int).getD 0 0)).2.2.2.2.1=0∧(el au l (([a,b]:List Int).getD 1 0)).2.2.2.2.1=0));have g0:el 0 [a,b] 0=a:=rfl;have g1:el 0 [a,b] 1=b:=rfl;have d0:([a,b]:List Int).getD 0 0=a:=rfl;have d1:([a,b]:List Int).getD 1 0=b:=rfl;unfold dB;rw [g0,g1,d0,d1,rP (bZ h0 (by omega)),rP (bZ (by omega) h2)]
   by_cases c:(el au l a).2.2.2.2.1=0
   ·rw [fh c,bT]
    unfold gI;congr 1;exact decide_eq_decide.2 ⟨fun h=>⟨c,h⟩,fun h=>h.2⟩
   ·rw [eL c,bF,decide_eq_false (fun h=>c h.1)]) (by omega) (by omega)
 refine ⟨r.filter (fun x=>!g x),?_,⟨hr.1.sublist List.filter_sublist,fun p hp=>hin p (List.mem_filter.1 hp).1⟩,Nat.le_trans (List.length_filter_le _ _) lr⟩;unfold bP;rw [qK (by omega) hA hl,bS,dE rfl,bF,e1,bS,e2,bS,e3,bS]
def E6 (c d:dX):Prop:=c.1<d.1∨c.1=d.1∧(c.2.1<d.2.1∨c.2.1=d.2.1∧c.2.2.1<d.2.2.1)
structure Et (nb:Int) (ps:List (List Int)) (C:List dX):Prop where
 ord:C.Pairwise E6
 prs:∀ c,c∈C→[c.1,c.2.1]∈ps
 ok:∀ c,c∈C→DA nb c
 zero:∀ c,c∈C→c.2.2.2.2.2.2=(0,0,())
def Es (p:List Int) (x:aV × (aV × aV)):dX:=(p.getD 0 0,p.getD 1 0,x.2.2.2.1,x.1,x.2.1,x.2.2.1,0,0,())
theorem BY {k:Nat} {v:Int} {y1:List (List Int) × Int} {p:List Int} (hp:el (List.replicate 2 0) y1.1 v=p) {X:List (aV × (aV × aV))} (hX:X.length≤2) (hk:3≤k) {acc:List dX} (ha:acc.length≤1000000) :
  br.c2 k v y1 X k 0 acc=some (acc++X.map (Es p)):=by
 have lX:len X=(X.length:Int):=rfl;have e0:el 0 p 0=p.getD 0 0:=rfl;have e1:el 0 p 1=p.getD 1 0:=rfl;have key:∀ (n u:Nat) (a:List dX),X.length<u+n→u≤X.length→a.length≤1000000+u→br.c2 k v y1 X n (u:Int) a=some (a++(X.drop u).map (Es p)):=by
  intro n
  induction n with
  | zero=>intro u a h1 h2; omega
  | succ n ih =>
   intro u a h1 h2 h3;rw [br.c2,hp,e0,e1]
   by_cases c:u<X.length
   ·have hr:∀ x:dX,room 80 a [x]:=fun x=>by unfold room roomFor; simp only [List.length_singleton]; omega
    rw [cg (by omega),bT,rP (bZ (by omega) (by omega)),rP (hr _),bJ (x:=(u:Int)) (y:=1) (by omega) (by omega),(show (u:Int)+1=((u+1:Nat):Int) by omega),ih (u+1) _ (by omega) (by omega) (by rw [List.length_append,List.length_singleton]; omega),List.drop_eq_getElem_cons c];have ex:el ((0,0,()),(0,0,()),0,0,()) X (u:Int)=X[u]:=l5 _ X c;rw [ex,List.map_cons,List.append_assoc];rfl
   ·rw [cp (by omega),bF,List.drop_of_length_le (by omega)]
    simp
 have:=key k 0 acc (by omega) (by omega) (by omega);exact this
theorem BZ {k:Nat} (hk:10000≤k) {l:List ct} (hA:q9 k l) (hP:Bl k l) (hl:len l≤64):∃ ps C,bP k l=some (ps,0)∧sk (len l) ps∧br.c1 k l (ps,0) k 0 []=some C∧Et (len l) ps C∧C.length≤2*(l.length*l.length):=by
 have ll:len l=(l.length:Int):=rfl;obtain ⟨ps,ep,⟨hs,hin⟩,lp⟩:=yC hk hA hP hl;have sq:=Nat.mul_le_mul (show l.length≤64 by omega) (show l.length≤64 by omega);have lps:len ps=(ps.length:Int):=rfl;have key:∀ (n v:Nat) (acc:List dX),ps.length<v+n→v≤ps.length→acc.length≤2*v→Et (len l) (ps.take v) acc→∃ C,br.c1 k l (ps,0) n (v:Int) acc=some C∧Et (len l) ps C∧C.length≤2*ps.length:=by
  intro n
  induction n with
  | zero=>intro v acc h1 h2; omega
  | succ n ih =>
   intro v acc h1 h2 h3 hF;rw [br.c1];dsimp only
   by_cases c:v<ps.length
   ·obtain ⟨a,b,a0,ab,bn,hp⟩:=hin _ (mE (List.replicate 2 (0:Int)) ps (j:=(v:Int)) (by omega) (by omega))
    have g0:el 0 [a,b] 0=a:=rfl;have g1:el 0 [a,b] 1=b:=rfl;obtain ⟨ca,ea,va,ba⟩:=hP a a0 (by omega);obtain ⟨cb,eb,vb,bb⟩:=hP b (by omega) bn;obtain ⟨X,u,eX,⟨lX,hX,oX⟩,hu⟩:=C7 (k:=k) (by omega) va vb ba bb;have eF:=BY (k:=k) (v:=(v:Int)) (y1:=(ps,0)) (p:=[a,b]) hp lX (by omega) (acc:=acc) (by omega);have hget:ps[v]=[a,b]:=by rw [← hp]; exact (l5 _ ps c).symm
    have htake:ps.take (v+1)=ps.take v++[[a,b]]:=by rw [List.take_succ_eq_append_getElem c,hget]
    have hmem:∀ c,c∈X.map (Es [a,b])→c.1=a∧c.2.1=b∧DA (len l) c∧c.2.2.2.2.2.2=(0,0,()):=by
     intro c hc;obtain ⟨x,hx,rfl⟩:=List.mem_map.1 hc;obtain ⟨x1,x2,x3,x4,x5,x6⟩:=hX x hx;refine ⟨rfl,rfl,⟨⟨a0,ab,bn,x5⟩,⟨?_,?_⟩,⟨x3,by show x.2.2.1≤65536000; omega⟩,⟨show (0:Int)≤0 by decide,show (0:Int)≤1099511627776 by decide⟩,show (-1099511627776:Int)≤0 by decide,show (0:Int)≤1099511627776 by decide⟩,rfl⟩
     ·unfold Bx at x1
      show Bd x.1 65536000;unfold Bd;omega
     ·show Bd x.2.1 65536
      rw [x2];unfold Bd;omega
    obtain ⟨C,e,r1,r2⟩:=ih (v+1) (acc++X.map (Es [a,b])) (by omega) (by omega) (by rw [List.length_append,List.length_map]; omega) ⟨by
      rw [List.pairwise_append];refine ⟨hF.ord,?_,?_⟩
      ·rw [List.pairwise_map]
       exact oX.imp fun {x y} h=>.inr ⟨rfl,.inr ⟨rfl,h⟩⟩
      ·intro x hc d hd
       obtain ⟨d1,d2,_,_⟩:=hmem d hd;have hpc:=hF.prs x hc;obtain ⟨i,hi,hpi⟩:=List.mem_take_iff_getElem.1 hpc;have hlt:=List.pairwise_iff_getElem.1 hs i v (by omega) c (by omega);rw [hpi,hget] at hlt;unfold qo at hlt;have hlt:=of_decide_eq_true hlt;simp only [List.getD_cons_zero,List.getD_cons_succ] at hlt;unfold E6;omega,by
      intro c hc;rw [htake,List.mem_append];rcases List.mem_append.1 hc with h | h
      ·exact .inl (hF.prs c h)
      ·obtain ⟨d1,d2,_,_⟩:=hmem c h
       right;rw [d1,d2];exact List.mem_singleton.2 rfl,by
      intro c hc;rcases List.mem_append.1 hc with h | h
      ·exact hF.ok c h
      ·exact (hmem c h).2.2.1,by
      intro c hc;rcases List.mem_append.1 hc with h | h
      ·exact hF.zero c h
      ·exact (hmem c h).2.2.2⟩
    refine ⟨C,?_,r1,r2⟩;rw [cg (by omega),bT,rP (bZ (by omega) (by omega)),hp,g0,g1,rP (bZ a0 (by omega)),ea,bS,rP (bZ (by omega) bn),eb,bS,eX,bS,eF,bS,bJ (x:=(v:Int)) (y:=1) (by omega) (by omega)];exact e
   ·rw [cp (by omega),bF]
    refine ⟨acc,rfl,?_,by omega⟩;rw [List.take_of_length_le (by omega)] at hF;exact hF
 obtain ⟨C,e,r1,r2⟩:=key k 0 [] (by omega) (by omega) (by simp) ⟨List.Pairwise.nil,fun c hc=>(nomatch hc),fun c hc=>(nomatch hc),fun c hc=>(nomatch hc)⟩;exact ⟨ps,C,ep,⟨hs,hin⟩,e,r1,by omega⟩
end Go.Proofs.T1
