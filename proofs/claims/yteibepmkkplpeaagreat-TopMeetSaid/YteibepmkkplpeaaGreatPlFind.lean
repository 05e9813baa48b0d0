import Derived.Test.YteibepmkkplpeaaGreatPlPairs
import Derived.Test.YteibepmkkplpeaaGreatPlOf
import Derived.Test.YteibepmkkplpeaaGreatG10
namespace Go.Proofs.T1
open Go Go.Sx
abbrev GD (k:Nat) (b:cI):Prop:=aj k b=some 0
def AT (k:Nat) (l:List cI):Prop:=∀ i,0≤i→i<len l→GD k (el ao l i)
section
variable {p v:aB} {ang spin mass inertia bounce rub:Int} {l:List aB} {asleep:Bool} {calm:Int}
end
end Go.Proofs.T1
namespace Go.Proofs.T1
open Go Go.Sx
section
variable {p v:aB} {ang spin mass inertia bounce rub:Int} {l:List aB} {asleep:Bool} {calm:Int}
theorem An {k:Nat} (hk:10≤k) (hc:aj k (p,v,ang,spin,mass,inertia,bounce,rub,l,asleep,calm,())=some 0) :
  ∃ l',bt k (p,v,ang,spin,mass,inertia,bounce,rub,l,asleep,calm,())=some l'∧jx l'∧len l'=len l∧∃ c s,l'=xV c s p l∧(-65536≤c∧c≤65536)∧(-65536≤s∧s≤65536):=by
 obtain ⟨e,e1,h1⟩:=mD (k:=k) (by omega) (p:=p) (v:=v) (ang:=ang) (spin:=spin) (mass:=mass) (inertia:=inertia) (bounce:=bounce) (rub:=rub) (l:=l) (asleep:=asleep) (calm:=calm);rw [hc] at e1;cases e1;have hv:(EK l 0)∧R1 p v ang spin:=by
  rcases h1 with ⟨_,h⟩ | ⟨_,_,h⟩ | ⟨_,_,_,_,h⟩ | ⟨h,g,_,_,_⟩
  ·exact absurd rfl h
  ·cases h
  ·cases h
  ·exact ⟨h,g⟩
 obtain ⟨hS,hR⟩:=hv;have hs:jx l∧sH l∧Aj l:=by
  rcases hS with ⟨_,h⟩ | ⟨_,_,h⟩ | ⟨_,_,_,h⟩ | ⟨a,b,c,_,_⟩
  ·exact absurd rfl h
  ·cases h
  ·cases h
  ·exact ⟨a,b,c⟩
 obtain ⟨⟨l3,l8,lw,le⟩,lr,lf⟩:=hs;obtain ⟨bp,_,_,ba⟩:=hR;unfold Bd at bp;obtain ⟨c,s,tc,ts,c0,s0,D⟩:=yL k ba.1 ba.2;have ll:len l=(l.length:Int):=rfl;obtain ⟨z,a,b⟩:=iM (fun n (z:List aB) i=>bt.c1 k (p,v,ang,spin,mass,inertia,bounce,rub,l,asleep,calm,()) n i z) 0 (len l) (fun z i=>z=xV c s p (l.take i.toNat))
  (by
   intro n z i i0 i1 hz;have hr:=lr i i0 i1;obtain ⟨t,t1,t2⟩:=xT (k:=k) (by omega) tc ts c0 s0 (v:=q l i) (p:=p) hr (by omega);refine ⟨z++[tp c s p (q l i)],?_,?_⟩
   ·obtain ⟨i,rfl⟩:=Int.eq_ofNat_of_zero_le i0
    have hi:i<l.length:=by omega
    have hq:q l (i:Int)=l[i]:=by
     show l.getD i bK=_;rw [List.getD_eq_getElem?_getD,List.getElem?_eq_getElem hi];rfl
    rw [hq,hz,show ((i:Int)+1).toNat=i+1 by omega,show ((i:Int)).toNat=i by omega];unfold xV;rw [List.take_succ_eq_append_getElem hi,List.map_append];rfl
   ·show bt.c1 k (p,v,ang,spin,mass,inertia,bounce,rub,l,asleep,calm,()) (n+1) i z=_
    have t1:gf k (el bK l i) ang=some t:=t1;rw [bt.c1];dsimp only;rw [cB i1,bT,rP (cZ i0 i1),t1,bS,t2,bS,bH (by omega) (by omega)];refine rP ?_ _;have hs:z.length≤8:=by
     rw [hz];unfold xV;rw [List.length_map,List.length_take];omega
    show (z.length+1)*16≤140737488355328
    omega)
  (by
   intro n z i i0 i1;show bt.c1 k (p,v,ang,spin,mass,inertia,bounce,rub,l,asleep,calm,()) (n+1) i z=some z;rw [bt.c1];dsimp only
   rw [cD i1,bF])
  k [] 0 (by omega) (by omega) (by omega) rfl
 have b:bt.c1 k (p,v,ang,spin,mass,inertia,bounce,rub,l,asleep,calm,()) k 0 []=some z:=b;have hz:z=xV c s p l:=by
  rw [a,ll,show ((l.length:Nat):Int).toNat=l.length by omega,List.take_length]
 refine ⟨z,?_,?_,by rw [hz,jf],c,s,hz,c0,s0⟩
 ·unfold bt
  rw [hc,bS,ek rfl,bF,b,bS];exact rP (D6 (by rw [hz,jf]; omega)) _
 ·rw [hz]
  refine ⟨by rw [jf]; exact l3,by rw [jf]; exact l8,?_,?_⟩
  ·intro i i0 i1
   rw [jf] at i1;rw [nI i0 i1];have hr:=lr i i0 i1;have rb:∀ {x y:Int},-2097152≤x→x≤2097152→-65536≤y→y≤65536→-2097152≤jg (x*y) 65536∧jg (x*y) 65536≤2097152:=by
    intro x y x0 x1 y0 y1;have:=dB (x:=x) (y:=y) (M:=2097152) (N:=65536) x0 x1 y0 y1;exact mP (by decide) (by omega) (by omega)
   have b1:=rb hr.1 hr.2.1 c0.1 c0.2;have b2:=rb hr.2.2.1 hr.2.2.2 s0.1 s0.2;have b3:=rb hr.1 hr.2.1 s0.1 s0.2;have b4:=rb hr.2.2.1 hr.2.2.2 c0.1 c0.2;unfold Wn tp;dsimp only;omega
  ·intro i j i0 i1 j0 j1 n1 n2
   rw [jf] at *
   have hn:=dK i0 i1;rw [nI i0 i1,nI j0 j1,nI hn.1 hn.2];exact uU c0 s0 D p _ _ _ (lf i j i0 i1 j0 j1 n1 n2) (le i j i0 i1 j0 j1 n1 n2)
end
def G2 (k:Nat) (l:List cI):Prop:=∀ i,0≤i→i<len l→∃ c,bt k (el ao l i)=some c∧jx c∧∀ j,0≤j→j<len c→Bx 1179648 (q c j)
end Go.Proofs.T1
namespace Go.Proofs.T1
open Go Go.Sx
theorem yY (k:Nat) (s:(List Int) × Unit):∃ s' p v ang spin mass inertia bounce rub l,bu k s=some (s',(p,v,ang,spin,mass,inertia,bounce,rub,l,false,0,()))∧yM p v ang spin mass inertia bounce rub l:=by
 obtain ⟨raw,_⟩:=s;obtain ⟨l,e1,hs⟩:=xH k raw;unfold jF at e1;obtain ⟨⟨s0,l'⟩,e0,e2⟩:=ka e1;obtain rfl:l'=l:=Option.some.inj e2;obtain ⟨s1,y3,f3,a3,b3⟩:=iq k s0 (n:=41) (by decide) (by decide);obtain ⟨s2,y5,f5,a5,b5⟩:=iq k s1 (n:=41) (by decide) (by decide);obtain ⟨s3,y7,f7,a7,b7⟩:=iq k s2 (n:=65536) (by decide) (by decide);obtain ⟨s4,y9,f9,a9,b9⟩:=iq k s3 (n:=3) (by decide) (by decide);obtain ⟨s5,y14,f14,a14,b14⟩:=iq k s4 (n:=65537) (by decide) (by decide);obtain ⟨s6,y16,f16,a16,b16⟩:=iq k s5 (n:=65537) (by decide) (by decide);obtain ⟨s7,y18,f18,a18,b18⟩:=iq k s6 (n:=4) (by decide) (by decide);have hc1:∃ ang,bu.c1 k (s3,y7) (s4,y9)=some ang∧0≤ang∧ang≤65535:=by
  unfold bu.c1
  by_cases h:y9=0
  ·rw [fw h,bT]
   exact ⟨0,rfl,by decide,by decide⟩
  ·rw [fu h,bF]
   exact ⟨y7,rfl,a7,by omega⟩
 obtain ⟨ang,f12,g0,g1⟩:=hc1;have e0:de k (raw,())=some (s0,l'):=e0;unfold bu;rw [e0,bS];dsimp only;rw [f3,bS];dsimp only;rw [f5,bS];dsimp only;rw [f7,bS];dsimp only;rw [f9,bS,f12,bS];dsimp only;rw [f14,bS];dsimp only;rw [f16,bS];dsimp only;rw [f18,bS];dsimp only;rw [pL a3 (by omega) (by decide) (by decide),pL a5 (by omega) (by decide) (by decide)]
 by_cases h:y18=0
 ·rw [fw h,bT]
  exact ⟨_,_,_,_,_,_,_,_,_,_,rfl,⟨hs,by dsimp only; omega,by dsimp only; omega,⟨g0,g1⟩,by decide,⟨a14,by omega⟩,⟨a16,by omega⟩,Or.inl ⟨rfl,rfl,rfl,rfl⟩⟩⟩
 ·rw [fu h,bF]
  obtain ⟨s8,y21,f21,a21,b21⟩:=iq k s7 (n:=21) (by decide) (by decide);obtain ⟨s9,y23,f23,a23,b23⟩:=iq k s8 (n:=21) (by decide) (by decide);obtain ⟨s10,y25,f25,a25,b25⟩:=iq k s9 (n:=65536) (by decide) (by decide);obtain ⟨s11,y27,f27,a27,b27⟩:=iq k s10 (n:=8) (by decide) (by decide);obtain ⟨s12,y29,f29,a29,b29⟩:=iq k s11 (n:=30) (by decide) (by decide);rw [f21,bS];dsimp only;rw [f23,bS];dsimp only;rw [f25,bS];dsimp only;rw [f27,bS];dsimp only;rw [f29,bS];dsimp only;rw [pL a21 (by omega) (by decide) (by decide),pL a23 (by omega) (by decide) (by decide)];have m1:aN .i64 (ag .i64 1 y27) 65536=(1+y27)*65536:=by rw [bH (by omega) (by omega),dr (by omega) (by omega)]
  have m2:aN .i64 (ag .i64 1 y29) 65536=(1+y29)*65536:=by rw [bH (by omega) (by omega),dr (by omega) (by omega)]
  rw [m1,m2,cR (by omega) (by omega)];exact ⟨_,_,_,_,_,_,_,_,_,_,rfl,⟨hs,by dsimp only; omega,by dsimp only; omega,⟨g0,g1⟩,by omega,⟨a14,by omega⟩,⟨a16,by omega⟩,Or.inr ⟨by omega,by omega,by omega,by omega⟩⟩⟩
end Go.Proofs.T1
namespace Go.Proofs.T1
open Go Go.Sx
def GB (b:cI):Prop:=∃ p v ang spin mass inertia bounce rub l,b=(p,v,ang,spin,mass,inertia,bounce,rub,l,false,0,())∧yM p v ang spin mass inertia bounce rub l
def Ft (l:List cI):Prop:=∀ i,0≤i→i<len l→GB (el ao l i)
theorem Fp {k:Nat} (hk:9≤k) {l:List cI} (h:Ft l):AT k l:=by
 intro i i0 i1;obtain ⟨p,v,ang,spin,mass,inertia,bounce,rub,c,e,hm⟩:=h i i0 i1;show aj k (el ao l i)=some 0;rw [e];exact hm.check hk
theorem Fk {k:Nat} (hk:10≤k) {l:List cI} (h:Ft l):G2 k l:=by
 intro i i0 i1;obtain ⟨p,v,ang,spin,mass,inertia,bounce,rub,c,e,hm⟩:=h i i0 i1;obtain ⟨c',e1,hv,hl,a,s,hc,ha,hs⟩:=An (k:=k) hk (hm.check (by omega));refine ⟨c',by rw [e]; exact e1,hv,fun j j0 j1=>?_⟩;rw [hl] at j1;have h4:=hm.hl.1.2.2.1 j j0 j1;have hp:=hm.hp;rw [hc,nI j0 j1];have rb:∀ {x y:Int},-262144≤x→x≤262144→-65536≤y→y≤65536→-262144≤jg (x*y) 65536∧jg (x*y) 65536≤262144:=by
  intro x y x0 x1 y0 y1;have:=dB (x:=x) (y:=y) (M:=262144) (N:=65536) x0 x1 y0 y1;exact mP (by decide) (by omega) (by omega)
 have b1:=rb (x:=(q c j).1) (y:=a) (by omega) (by omega) ha.1 ha.2;have b2:=rb (x:=(q c j).2.1) (y:=s) (by omega) (by omega) hs.1 hs.2;have b3:=rb (x:=(q c j).1) (y:=s) (by omega) (by omega) hs.1 hs.2;have b4:=rb (x:=(q c j).2.1) (y:=a) (by omega) (by omega) ha.1 ha.2;unfold Bx tp;dsimp only;omega
end Go.Proofs.T1
