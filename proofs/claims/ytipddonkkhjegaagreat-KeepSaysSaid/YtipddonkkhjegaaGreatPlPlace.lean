import Derived.Test.YtipddonkkhjegaaGreatPlTurn
namespace Go.Proofs.T1
open Go Go.Sx
theorem Gp {z:List ay} {i j:Int} {y:ay} (i0:0≤i) (i1:i<len z) (j0:0≤j):q (st z i y) j=if j=i then y else q z j:=by
 obtain ⟨i,rfl⟩:=Int.eq_ofNat_of_zero_le i0;obtain ⟨j,rfl⟩:=Int.eq_ofNat_of_zero_le j0;have hi:i<z.length:=by unfold len at i1; omega
 show (z.set i y).getD j cH=if (j:Int)=(i:Int) then y else z.getD j cH
 rw [List.getD_eq_getElem?_getD,List.getD_eq_getElem?_getD,List.getElem?_set]
 by_cases c:j=i
 ·subst c
  rw [if_pos rfl,if_pos hi,if_pos rfl];rfl
 ·rw [if_neg (fun h=>c h.symm),if_neg (by omega)]
theorem GO {a b:List ay} (h:a.length=b.length) (g:∀ j,0≤j→j<len a→q a j=q b j):a=b:=by
 refine List.ext_getElem h fun n h1 h2=>?_
 have:=g n (by omega) (by unfold len; omega);have e1:q a n=a[n]:=by
  show a.getD n cH=_;rw [List.getD_eq_getElem?_getD,List.getElem?_eq_getElem h1];rfl
 have e2:q b n=b[n]:=by
  show b.getD n cH=_;rw [List.getD_eq_getElem?_getD,List.getElem?_eq_getElem h2];rfl
 rw [← e1,← e2];exact this
section
variable {p v:ay} {ang spin mass inertia bounce rub:Int} {l:List ay} {asleep:Bool} {calm:Int}
theorem oV {k:Nat} (hk:9≤k) (hc:aj k (p,v,ang,spin,mass,inertia,bounce,rub,l,asleep,calm,())=some 0) :
  AR l 0∧(ju l∧rf l∧xB l)∧R1 p v ang spin∧R2 mass inertia bounce rub calm∧R3 v spin mass inertia asleep calm:=by
 obtain ⟨e,e1,h1⟩:=kf hk (p:=p) (v:=v) (ang:=ang) (spin:=spin) (mass:=mass) (inertia:=inertia) (bounce:=bounce) (rub:=rub) (l:=l) (asleep:=asleep) (calm:=calm);rw [hc] at e1;cases e1;rcases h1 with ⟨_,h⟩ | ⟨_,_,h⟩ | ⟨_,_,_,_,h⟩ | ⟨h,g,g2,g3,_⟩
 ·exact absurd rfl h
 ·cases h
 ·cases h
 ·refine ⟨h,?_,g,g2,g3⟩
  rcases h with ⟨_,h⟩ | ⟨_,_,h⟩ | ⟨_,_,_,h⟩ | ⟨a,b,c,_,_⟩
  ·exact absurd rfl h
  ·cases h
  ·cases h
  ·exact ⟨a,b,c⟩
theorem xA {k:Nat} (hk:10≤k) (hc:aj k (p,v,ang,spin,mass,inertia,bounce,rub,l,asleep,calm,())=some 0) :
  ∃ l',bD k (p,v,ang,spin,mass,inertia,bounce,rub,l,asleep,calm,())=some l'∧cg k (p,v,ang,spin,mass,inertia,bounce,rub,l,asleep,calm,())=some l'∧ju l':=by
 obtain ⟨_,⟨⟨l3,l8,lw,le⟩,lr,lf⟩,⟨bp,_,_,ba⟩,_,_⟩:=oV (by omega) hc;obtain ⟨l',e1,hv',hlen⟩:=zG hk hc;unfold Bd at bp;obtain ⟨c,s,tc,ts,c0,s0,D⟩:=yv k ba.1 ba.2;have ll:len l=(l.length:Int):=rfl;have isT:l'=xf c s p l:=by
  obtain ⟨z,a,b⟩:=gS (fun n (z:List ay) i=>bD.c1 k (p,v,ang,spin,mass,inertia,bounce,rub,l,asleep,calm,()) n i z) 0 (len l) (fun z i=>z=xf c s p (l.take i.toNat))
   (by
    intro n z i i0 i1 hz;have hr:=lr i i0 i1;obtain ⟨t,t1,t2⟩:=sW (k:=k) (by omega) tc ts c0 s0 (v:=q l i) (p:=p) hr (by omega);refine ⟨z++[tp c s p (q l i)],?_,?_⟩
    ·obtain ⟨i,rfl⟩:=Int.eq_ofNat_of_zero_le i0
     have hi:i<l.length:=by omega
     have hq:q l (i:Int)=l[i]:=by
      show l.getD i cH=_;rw [List.getD_eq_getElem?_getD,List.getElem?_eq_getElem hi];rfl
     rw [hq,hz,show ((i:Int)+1).toNat=i+1 by omega,show ((i:Int)).toNat=i by omega];unfold xf;rw [List.take_succ_eq_append_getElem hi,List.map_append];rfl
    ·show bD.c1 k (p,v,ang,spin,mass,inertia,bounce,rub,l,asleep,calm,()) (n+1) i z=_
     have t1:fm k (el cH l i) ang=some t:=t1;rw [bD.c1];dsimp only;rw [bA i1,bT,rP (bu i0 i1),t1,bS,t2,bS,aX (by omega) (by omega)];refine rP ?_ _;have hs:z.length≤8:=by
      rw [hz];unfold xf;rw [List.length_map,List.length_take];omega
     show (z.length+1)*16≤140737488355328
     omega)
   (by
    intro n z i i0 i1;show bD.c1 k (p,v,ang,spin,mass,inertia,bounce,rub,l,asleep,calm,()) (n+1) i z=some z;rw [bD.c1];dsimp only
    rw [bZ i1,bF])
   k [] 0 (by omega) (by omega) (by omega) rfl
  have b:bD.c1 k (p,v,ang,spin,mass,inertia,bounce,rub,l,asleep,calm,()) k 0 []=some z:=b;unfold bD at e1;have hz:z=xf c s p l:=by rw [a,ll,show ((l.length:Nat):Int).toNat=l.length by omega,List.take_length]
  rw [hc,bS,dR rfl,bF,b,bS,rP (EX (by rw [hz,jW]; omega))] at e1;cases e1;rw [a,ll,show ((l.length:Nat):Int).toNat=l.length by omega,List.take_length]
 refine ⟨l',e1,?_,hv'⟩;rw [isT];have lm:len (C7 cH (len l))=len l:=by
  unfold len C7;rw [List.length_replicate];omega
 obtain ⟨z,⟨z1,z2⟩,b⟩:=gS (fun n (z:List ay) i=>cg.c1 k (p,v,ang,spin,mass,inertia,bounce,rub,l,asleep,calm,()) n i z) 0 (len l) (fun z i=>len z=len l∧∀ j,0≤j→j<i→q z j=tp c s p (q l j))
  (by
   intro n z i i0 i1 ⟨h1,h2⟩;have hr:=lr i i0 i1;obtain ⟨t,t1,t2⟩:=sW (k:=k) (by omega) tc ts c0 s0 (v:=q l i) (p:=p) hr (by omega);have wl:gk k (p,v,ang,spin,mass,inertia,bounce,rub,l,asleep,calm,()) (el cH l i)=some (tp c s p (q l i)):=by
    have t1:fm k (el cH l i) ang=some t:=t1;unfold gk;dsimp only;rw [t1,bS];exact t2
   refine ⟨st z i (tp c s p (q l i)),⟨?_,fun j j0 j1=>?_⟩,?_⟩
   ·rw [← h1]
    unfold len st;rw [List.length_set]
   ·rw [Gp i0 (by omega) j0]
    by_cases c:j=i
    ·rw [if_pos c,c]
    ·rw [if_neg c]; exact h2 j j0 (by omega)
   ·show cg.c1 k (p,v,ang,spin,mass,inertia,bounce,rub,l,asleep,calm,()) (n+1) i z=_
    rw [cg.c1];dsimp only
    rw [lm,bA i1,bT,rP (bu i0 i1),wl,bS,rP (bu i0 (by omega)),aX (by omega) (by omega)])
  (by
   intro n z i i0 i1;show cg.c1 k (p,v,ang,spin,mass,inertia,bounce,rub,l,asleep,calm,()) (n+1) i z=some z;rw [cg.c1];dsimp only
   rw [lm,bZ i1,bF])
  k (C7 cH (len l)) 0 (by omega) (by omega) (by omega) ⟨lm,fun j a b=>by omega⟩
 have b:cg.c1 k (p,v,ang,spin,mass,inertia,bounce,rub,l,asleep,calm,()) k 0 (C7 cH (len l))=some z:=b;have hz:z=xf c s p l:=by
  have ln:=jW c s p l;refine GO (by unfold len at z1 ln; omega) fun j j0 j1=>?_
  rw [ve j0 (by omega)];exact z2 j j0 (by omega)
 unfold cg;dsimp only;rw [rP (show AN 16 (len l) (len l) from ⟨rfl,by omega,by omega,by omega⟩),b,bS,hz]
end
end Go.Proofs.T1
namespace Go.Proofs.T1
open Go Go.Sx
abbrev HC (k:Nat) (b:fQ):Prop:=aj k b=some 0
def wO (k:Nat) (l:List fQ):Prop:=∀ i,0≤i→i<len l→HC k (el kG l i)
theorem ka {k:Nat} (hk:9≤k) (b:fQ):∃ e,aj k b=some e∧ah k b=some e:=by
 obtain ⟨p,v,ang,spin,mass,inertia,bounce,rub,l,asleep,calm,_⟩:=b;obtain ⟨e,e1,h1⟩:=kf hk (p:=p) (v:=v) (ang:=ang) (spin:=spin) (mass:=mass) (inertia:=inertia) (bounce:=bounce) (rub:=rub) (l:=l) (asleep:=asleep) (calm:=calm);obtain ⟨e',e2,h2⟩:=Aj hk (p:=p) (v:=v) (ang:=ang) (spin:=spin) (mass:=mass) (inertia:=inertia) (bounce:=bounce) (rub:=rub) (l:=l) (asleep:=asleep) (calm:=calm);have ee:=DM h1 h2;subst ee;exact ⟨e,e1,e2⟩
section
variable {p v:ay} {ang spin mass inertia bounce rub:Int} {l:List ay} {asleep:Bool} {calm:Int}
end
end Go.Proofs.T1
namespace Go.Proofs.T1
open Go Go.Sx
def sF (f:Nat→Int):Nat→Int
 | 0=>f 0
 | n+1=>imax (sF f n) (f (n+1))
def ta (f:Nat→Int):Nat→Int
 | 0=>f 0
 | n+1=>gd (ta f n) (f (n+1))
def fx (l:List ay):Nat→Int:=fun j=>(q l (j:Int)).1
def fy (l:List ay):Nat→Int:=fun j=>(q l (j:Int)).2.1
def k7 (l:List ay):ay × (ay × Unit):=((ta (fx l) (l.length - 1),ta (fy l) (l.length - 1),()),(sF (fx l) (l.length - 1),sF (fy l) (l.length - 1),()),())
theorem vA {α:Type} (a:α) (t:List α):cut (a :: t) 1 (List.length (a :: t):Int)=t:=by
 unfold cut;have:((List.length (a :: t):Int)).toNat=(a :: t).length:=by omega
 rw [this,List.take_length];rfl
theorem FL (a:ay) (t:List ay) (i:Int) (h:0≤i):q t i=q (a :: t) (i+1):=by
 obtain ⟨i,rfl⟩:=Int.eq_ofNat_of_zero_le h;show t.getD i cH=(a :: t).getD ((i:Int)+1).toNat cH;rw [show ((i:Int)+1).toNat=i+1 by omega];rfl
section
variable {X:fQ}
theorem wA {k:Nat} (hk:70≤k) {l:List ay} (hp:bD k X=some l) (h1:1≤l.length) (h2:l.length≤60):bP k X=some (k7 l):=by
 match l,hp,h1,h2 with
 | a :: t,hp,_,h2 =>
  unfold bP;rw [hp];show bB (some (Sum.inr (a,t))) _=_;rw [bS,eW];dsimp only;have lt:len t=(t.length:Int):=rfl;have hl:(a :: t).length=t.length+1:=rfl;rw [rP (bu (by decide) (by show (0:Int)<((a :: t).length:Int); omega)),rP (show rH (a :: t) 1 (List.length (a :: t):Int) from ⟨by decide,by omega,by omega⟩)];have loop:bP.c1 k (a,t) k 0 (el cH (a :: t) 0) (el cH (a :: t) 0)=some ((ta (fx (a :: t)) t.length,ta (fy (a :: t)) t.length,()),(sF (fx (a :: t)) t.length,sF (fy (a :: t)) t.length,())):=by
   obtain ⟨z,hz,e⟩:=gS (fun n (z:ay × ay) i=>bP.c1 k (a,t) n i z.1 z.2) 0 (len t) (fun z i=>z=((ta (fx (a :: t)) i.toNat,ta (fy (a :: t)) i.toNat,()),(sF (fx (a :: t)) i.toNat,sF (fy (a :: t)) i.toNat,())))
    (by
     intro n z i i0 i1 hz;refine ⟨((ta (fx (a :: t)) (i.toNat+1),ta (fy (a :: t)) (i.toNat+1),()),(sF (fx (a :: t)) (i.toNat+1),sF (fy (a :: t)) (i.toNat+1),())),by rw [show (i+1).toNat=i.toNat+1 by omega],?_⟩;show bP.c1 k (a,t) (n+1) i z.1 z.2=_;rw [bP.c1];dsimp only;rw [vA,bA i1,bT,rP (bu i0 i1),aX (by omega) (by omega),hz];have e1:el cH t i=q (a :: t) ((i.toNat+1:Nat):Int):=by
      have:=FL a t i i0;rw [show ((i.toNat+1:Nat):Int)=i+1 by omega];exact this
     rw [e1]
     rfl)
    (by
     intro n z i i0 i1;show bP.c1 k (a,t) (n+1) i z.1 z.2=some z;rw [bP.c1];dsimp only
     rw [vA,bZ i1,bF])
    k (el cH (a :: t) 0,el cH (a :: t) 0) 0 (by omega) (by omega) (by omega) rfl
   have e:bP.c1 k (a,t) k 0 (el cH (a :: t) 0) (el cH (a :: t) 0)=some z:=e;rw [e,hz,lt,show ((t.length:Nat):Int).toNat=t.length by omega]
  rw [loop,bS];rfl
end
theorem yo {k:Nat} (hk:70≤k) {z:List Int} (h1:1≤z.length) (h2:z.length≤60):ca k z=some (ta (fun j=>z.getD j 0) (z.length - 1)):=by
 have lz:len z=(z.length:Int):=rfl;obtain ⟨s,s1,f⟩:=gS (fun n s i=>ca.c1 k z n s i) 1 (len z) (fun s i=>s=ta (fun j=>z.getD j 0) (i.toNat - 1))
  (by
   intro n s i i0 i1 hs;refine ⟨gd s (el 0 z i),?_,?_⟩
   ·obtain ⟨j,hj⟩:∃ j,i.toNat=j+1:=⟨i.toNat - 1,by omega⟩
    rw [show (i+1).toNat - 1=i.toNat by omega,hj];rw [hj,Nat.add_sub_cancel] at hs;rw [hs];show gd _ (z.getD i.toNat 0)=_;rw [hj];rfl
   ·show ca.c1 k z (n+1) s i=_
    rw [ca.c1,bA i1,bT,rP (bu (by omega) (by omega)),aX (by omega) (by omega)])
  (by
   intro n s i i0 i1;show ca.c1 k z (n+1) s i=some s
   rw [ca.c1,bZ i1,bF])
  k (el 0 z 0) 1 (by omega) (by omega) (by omega) rfl
 have f:ca.c1 k z k (el 0 z 0) 1=some s:=f;unfold ca;rw [bZ (by omega),bF,rP (bu (by decide) (by omega)),f,bS,s1,lz,show ((z.length:Nat):Int).toNat=z.length by omega]
theorem yS {k:Nat} (hk:70≤k) {z:List Int} (h1:1≤z.length) (h2:z.length≤60):cb k z=some (sF (fun j=>z.getD j 0) (z.length - 1)):=by
 have lz:len z=(z.length:Int):=rfl;obtain ⟨s,s1,f⟩:=gS (fun n s i=>cb.c1 k z n s i) 1 (len z) (fun s i=>s=sF (fun j=>z.getD j 0) (i.toNat - 1))
  (by
   intro n s i i0 i1 hs;refine ⟨imax s (el 0 z i),?_,?_⟩
   ·obtain ⟨j,hj⟩:∃ j,i.toNat=j+1:=⟨i.toNat - 1,by omega⟩
    rw [show (i+1).toNat - 1=i.toNat by omega,hj];rw [hj,Nat.add_sub_cancel] at hs;rw [hs];show imax _ (z.getD i.toNat 0)=_;rw [hj];rfl
   ·show cb.c1 k z (n+1) s i=_
    rw [cb.c1,bA i1,bT,rP (bu (by omega) (by omega)),aX (by omega) (by omega)])
  (by
   intro n s i i0 i1;show cb.c1 k z (n+1) s i=some s
   rw [cb.c1,bZ i1,bF])
  k (el 0 z 0) 1 (by omega) (by omega) (by omega) rfl
 have f:cb.c1 k z k (el 0 z 0) 1=some s:=f;unfold cb;rw [bZ (by omega),bF,rP (bu (by decide) (by omega)),f,bS,s1,lz,show ((z.length:Nat):Int).toNat=z.length by omega]
theorem r6 {f g:Nat→Int}:∀ n,(∀ j,j≤n→f j=g j)→ta f n=ta g n:=by
 intro n
 induction n with
 | zero=>intro h; exact h 0 (Nat.le_refl 0)
 | succ n ih =>
  intro h;show gd (ta f n) (f (n+1))=gd (ta g n) (g (n+1));rw [ih fun j hj=>h j (by omega),h (n+1) (Nat.le_refl _)]
theorem rG {f g:Nat→Int}:∀ n,(∀ j,j≤n→f j=g j)→sF f n=sF g n:=by
 intro n
 induction n with
 | zero=>intro h; exact h 0 (Nat.le_refl 0)
 | succ n ih =>
  intro h;show imax (sF f n) (f (n+1))=imax (sF g n) (g (n+1));rw [ih fun j hj=>h j (by omega),h (n+1) (Nat.le_refl _)]
theorem xT {k:Nat} (hk:70≤k) {l:List ay} (h1:1≤l.length) (h2:l.length≤60):cA k l=some (k7 l):=by
 have lz:len l=(l.length:Int):=rfl;obtain ⟨z,hz,e⟩:=gS (fun n (z:List Int × List Int) i=>cA.c1 k l n i z.1 z.2) 0 (len l) (fun z i=>z.1.length=i.toNat∧z.2.length=i.toNat∧∀ j:Nat,j<i.toNat→z.1.getD j 0=fx l j∧z.2.getD j 0=fy l j)
  (by
   intro n z i i0 i1 ⟨a,b,c⟩;have app:∀ (z:List Int) (x:Int) (j:Nat),(z++[x]).getD j 0=if j<z.length then z.getD j 0 else if j=z.length then x else 0:=by
    intro z x j;rw [List.getD_eq_getElem?_getD]
    by_cases d:j<z.length
    ·rw [List.getElem?_append_left d,if_pos d,List.getD_eq_getElem?_getD]
    ·rw [if_neg d]
     by_cases d':j=z.length
     ·rw [if_pos d',d',List.getElem?_concat_length]
      rfl
     ·rw [if_neg d',List.getElem?_eq_none (by rw [List.length_append]; show z.length+1≤j; omega)]
      rfl
   refine ⟨(z.1++[(q l i).1],z.2++[(q l i).2.1]),⟨by rw [List.length_append]; show z.1.length+1=_; omega,by rw [List.length_append]; show z.2.length+1=_; omega,fun j hj=>?_⟩,?_⟩
   ·dsimp only
    rw [app,app,a,b]
    by_cases d:j<i.toNat
    ·rw [if_pos d,if_pos d]
     exact c j d
    ·have d':j=i.toNat:=by omega
     have:(j:Int)=i:=by omega
     rw [if_neg d,if_neg d,if_pos d',if_pos d'];unfold fx fy;rw [this];exact ⟨rfl,rfl⟩
   ·show cA.c1 k l (n+1) i z.1 z.2=_
    rw [cA.c1,bA i1,bT,rP (bu i0 i1),rP (show room 8 z.1 [(el cH l i).1] by show (z.1.length+1)*8≤140737488355328; omega),rP (show room 8 z.2 [(el cH l i).2.1] by show (z.2.length+1)*8≤140737488355328; omega),aX (by omega) (by omega)]
    rfl)
  (by
   intro n z i i0 i1;show cA.c1 k l (n+1) i z.1 z.2=some z
   rw [cA.c1,bZ i1,bF])
  k ([],[]) 0 (by omega) (by omega) (by omega) ⟨rfl,rfl,fun j h=>by omega⟩
 have e:cA.c1 k l k 0 [] []=some z:=e;obtain ⟨a,b,c⟩:=hz;rw [lz,show ((l.length:Nat):Int).toNat=l.length by omega] at a b c;unfold cA;rw [e,bS,yo hk (by omega) (by omega),bS,yo hk (by omega) (by omega),bS,yS hk (by omega) (by omega),bS,yS hk (by omega) (by omega),bS,a,b];have g1:ta (fun j=>z.1.getD j 0) (l.length - 1)=ta (fx l) (l.length - 1):=r6 _ fun j hj=>(c j (by omega)).1;have g2:ta (fun j=>z.2.getD j 0) (l.length - 1)=ta (fy l) (l.length - 1):=r6 _ fun j hj=>(c j (by omega)).2;have g3:sF (fun j=>z.1.getD j 0) (l.length - 1)=sF (fx l) (l.length - 1):=rG _ fun j hj=>(c j (by omega)).1;have g4:sF (fun j=>z.2.getD j 0) (l.length - 1)=sF (fy l) (l.length - 1):=rG _ fun j hj=>(c j (by omega)).2;rw [g1,g2,g3,g4];rfl
end Go.Proofs.T1
