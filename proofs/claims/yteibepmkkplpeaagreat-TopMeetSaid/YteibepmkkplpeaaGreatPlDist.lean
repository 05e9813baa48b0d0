import Derived.Test.YteibepmkkplpeaaGreatPlTail
import Derived.Test.YteibepmkkplpeaaGreatG5
namespace Go.Proofs.T1
open Go Go.Sx
def Au (p r:aB) (n:Int):Prop:=∀ X Y w,0<w→Ea p r X Y w→n*n*(w*w)≤X*X+Y*Y
def Gh (l:List aB) (n:Int):Prop:=∀ X Y w,0<w→x6 l X Y w→n*n*(w*w)≤X*X+Y*Y
theorem uv {p r:aB} {m n:Int} (m0:0≤m) (h:m≤n) (g:Au p r n):Au p r m:=by
 intro X Y w hw hin;have:=Int.mul_le_mul_of_nonneg_right (rE m0 h) (iJ w);have:=g X Y w hw hin;omega
theorem Cy {p r:aB} {X Y w:Int} (h:Ea p r X Y w):Ea r p X Y w:=by
 obtain ⟨α,β,D,h1,h2,h3,e1,e2,e3⟩:=h;exact ⟨β,α,D,h2,h1,h3,by omega,by omega,by omega⟩
theorem uJ {p r:aB} {n:Int} (h:Au p r n):Au r p n:=fun X Y w hw g=>h X Y w hw (Cy g)
theorem pV {p r:aB} {n:Int} (h:0≤dt p (sb r p)):Au p r n↔n*n≤dt p p:=by
 constructor
 ·intro g
  have:=g p.1 p.2.1 1 (by decide) DP.1;unfold dt;omega
 ·intro g X Y w hw ⟨α,β,D,h1,h2,h3,e1,e2,e3⟩
  refine iC (Int.mul_pos h3 h3) ?_
  have k1:D*D*(X*X+Y*Y)=(D*X)*(D*X)+(D*Y)*(D*Y):=by grind
  have k2:D*D*(n*n*(w*w))=(D*w)*(D*w)*(n*n):=by grind
  rw [k1,k2,e1,e2,e3];have k3:(α*p.1+β*r.1)*(α*p.1+β*r.1)+(α*p.2.1+β*r.2.1)*(α*p.2.1+β*r.2.1)=(α+β)*(α+β)*dt p p+2*((α+β)*β*dt p (sb r p))+β*β*dt (sb r p) (sb r p):=by unfold dt sb; grind
  have k4:=Int.mul_le_mul_of_nonneg_left g (iJ (α+β));have k5:=Int.mul_nonneg (Int.mul_nonneg (show 0≤α+β by omega) h2) h;have k6:0≤dt (sb r p) (sb r p):=by
   have:=iJ (sb r p).1;have:=iJ (sb r p).2.1;unfold dt;omega
  have k7:=Int.mul_nonneg (iJ β) k6;omega
theorem u5 {p r:aB} {n:Int} (h:dt r (sb r p)≤0):Au p r n↔n*n≤dt r r:=by
 have h':0≤dt r (sb p r):=by
  have:dt r (sb p r)=- dt r (sb r p):=by unfold dt sb; grind
  omega
 exact ⟨fun g=>(pV h').1 (uJ g),fun g=>uJ ((pV h').2 g)⟩
theorem yf {p r:aB} {n:Int} (h:dt p (sb r p)<0) (h':0<dt r (sb r p)):Au p r n↔n*n*dt (sb r p) (sb r p)≤cr p r*cr p r:=by
 have hs:dt r (sb r p)=dt (sb r p) (sb r p)+dt p (sb r p):=by unfold dt sb; grind
 constructor
 ·intro g
  have sg:Ea p r ((dt r (sb r p))*p.1+(- dt p (sb r p))*r.1) ((dt r (sb r p))*p.2.1+(- dt p (sb r p))*r.2.1) (dt (sb r p) (sb r p)):=⟨dt r (sb r p),- dt p (sb r p),1,by omega,by omega,by decide,by omega,by omega,by omega⟩;have:=g _ _ _ (by omega) sg;have k1:(dt r (sb r p))*p.1+(- dt p (sb r p))*r.1=(sb r p).2.1*cr p r:=by unfold dt sb cr; grind
  have k2:(dt r (sb r p))*p.2.1+(- dt p (sb r p))*r.2.1=- ((sb r p).1*cr p r):=by unfold dt sb cr; grind
  rw [k1,k2] at this;have k3:(sb r p).2.1*cr p r*((sb r p).2.1*cr p r)+- ((sb r p).1*cr p r)*- ((sb r p).1*cr p r)=dt (sb r p) (sb r p)*(cr p r*cr p r):=by
   generalize cr p r=c;unfold dt;grind
  rw [k3] at this;refine iC (c:=dt (sb r p) (sb r p)) (by omega) ?_
  have k4:dt (sb r p) (sb r p)*(n*n*dt (sb r p) (sb r p))=n*n*(dt (sb r p) (sb r p)*dt (sb r p) (sb r p)):=by grind
  omega
 ·intro g X Y w hw ⟨α,β,D,h1,h2,h3,e1,e2,e3⟩
  have hS:0<dt (sb r p) (sb r p):=by omega
  refine iC (Int.mul_pos hS (Int.mul_pos h3 h3)) ?_
  have k1:dt (sb r p) (sb r p)*(D*D)*(X*X+Y*Y)=dt (sb r p) (sb r p)*((D*X)*(D*X)+(D*Y)*(D*Y)):=by grind
  have k2:dt (sb r p) (sb r p)*(D*D)*(n*n*(w*w))=(D*w)*(D*w)*(n*n*dt (sb r p) (sb r p)):=by grind
  rw [k1,k2,e1];have k3:dt (sb r p) (sb r p)*((D*X)*(D*X)+(D*Y)*(D*Y))=((sb r p).1*(D*X)+(sb r p).2.1*(D*Y))*((sb r p).1*(D*X)+(sb r p).2.1*(D*Y))+((sb r p).1*(D*Y) - (sb r p).2.1*(D*X))*((sb r p).1*(D*Y) - (sb r p).2.1*(D*X)):=by
   generalize D*X=U;generalize D*Y=V;unfold dt;grind
  have k4:(sb r p).1*(D*Y) - (sb r p).2.1*(D*X)=- ((α+β)*cr p r):=by
   rw [e2,e3];unfold sb cr;grind
  have k5:- ((α+β)*cr p r)*- ((α+β)*cr p r)=(α+β)*(α+β)*(cr p r*cr p r):=by grind
  have k6:=iJ ((sb r p).1*(D*X)+(sb r p).2.1*(D*Y));have k7:=Int.mul_le_mul_of_nonneg_left g (iJ (α+β));rw [k3,k4,k5];omega
theorem ye {l:List aB} (he:iz l) (h3:3≤len l) (hz:¬ pY l iF) {n:Int}:Gh l n↔∀ i,0≤i→i<len l→Au (q l i) (q l (nx (len l) i)) n:=by
 constructor
 ·intro h i i0 i1 X Y w hw g
  exact h X Y w hw (CY he i0 i1 g)
 ·intro h X Y w hw hin
  have hout:¬ x6 l 0 0 1:=fun g=>hz (xN.1 g);obtain ⟨k,α,β,k0,k1,a0,b0,p0,hh,z⟩:=Ak hw (by decide) hin hout;have sg:=Dr he h3 k0 k1 hh z;have g:=h k k0 k1 _ _ _ p0 sg;simp only [Int.mul_zero,Int.add_zero,Int.mul_one] at g;have a1:0<α:=by
   rcases Int.lt_or_le 0 α with c | c
   ·exact c
   ·have:α=0:=by omega
    subst this;simp only [Int.zero_mul,Int.mul_zero,Int.add_zero,Int.zero_add,Int.mul_one] at hh p0;exfalso;refine hout fun i i0 i1=>mo (b:=β) p0 ?_
    have:=hh i i0 i1;have e:hs (q l i) (q l (nx (len l) i)) 0 0 β=β*hs (q l i) (q l (nx (len l) i)) 0 0 1:=by unfold hs; grind
    omega
  refine iC (Int.mul_pos a1 a1) ?_
  have e1:α*α*(X*X+Y*Y)=α*X*(α*X)+α*Y*(α*Y):=by grind
  have e2:α*α*(n*n*(w*w))=n*n*(α*w*(α*w)):=by grind
  have e3:α*w*(α*w)≤(α*w+β)*(α*w+β):=rE (Int.mul_nonneg a0 (Int.le_of_lt hw)) (by omega);have e4:=Int.mul_le_mul_of_nonneg_left e3 (iJ n);omega
theorem Ca (l:List aB):Gh l 0:=by
 intro X Y w _ _;have:=iJ X;have:=iJ Y;simp only [Int.zero_mul];omega
theorem Cl {l:List aB} (h:pY l iF) {n:Int} (n0:0≤n) (g:Gh l n):n=0:=by
 have:=g 0 0 1 (by decide) (xN (p:=iF).2 h);simp only [Int.mul_one,Int.mul_zero,Int.add_zero] at this;rcases Int.lt_or_le 0 n with c | c
 ·have:=Int.mul_pos c c; omega
 ·omega
end Go.Proofs.T1
