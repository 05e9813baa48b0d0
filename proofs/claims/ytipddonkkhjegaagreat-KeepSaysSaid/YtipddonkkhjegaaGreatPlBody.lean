import Derived.Test.YtipddonkkhjegaaGreatPlTail
import Derived.Test.YtipddonkkhjegaaGreatG4
import Derived.Test.YtipddonkkhjegaaGreatG5
namespace Go.Proofs.T1
open Go Go.Sx
def dH (a c:ay):ay:=(a.1 - c.1,a.2.1 - c.2.1,())
def rf (l:List ay):Prop:=∀ i,0≤i→i<len l→-2097152≤(q l i).1∧(q l i).1≤2097152∧-2097152≤(q l i).2.1∧(q l i).2.1≤2097152
end Go.Proofs.T1
namespace Go.Proofs.T1
open Go Go.Sx
theorem mH (k:Nat) (a:ay) {m:Int} (h0:0≤m) (h1:m≤9223372036854775807):dO k a m=some (decide (-m≤a.1∧a.1≤m∧-m≤a.2.1∧a.2.1≤m)):=jO k a m h0 h1
end Go.Proofs.T1
namespace Go.Proofs.T1
open Go Go.Sx
theorem EV (x:Int):CM (CM x)=CM x:=iG (pg x).1 (pg x).2
theorem wG {k:Nat} (hk:2≤k) (a b:Int) {c:Int} (hc:0<c) (hc':c≤1099511627776):aq k a b c=some (CM (iF (CM a*CM b) c)):=by
 rw [← wE hk (pg a) (pg b) hc hc'];unfold aq;rw [fZ,bS,fZ,bS,fZ k (CM a),bS,fZ k (CM b),bS,EV,EV]
theorem BZ {k:Nat} (hk:2≤k) (a b:Int):gb k a b=some (CM (iF (CM a*CM b) 65536)):=by
 unfold gb;rw [wG hk a b (by decide) (by decide),bS]
theorem qk (k:Nat) (a b:Int):fE k a b=some (CM (CM a+CM b)):=by
 have h1:=pg a;have h2:=pg b;unfold fE;rw [fZ,bS,fZ,bS,aX (by omega) (by omega),fZ,bS]
theorem Bf (k:Nat) (a b:Int):gF k a b=some (CM (CM a - CM b)):=by
 have h1:=pg a;have h2:=pg b;unfold gF;rw [fZ,bS,fZ,bS,cR (by omega) (by omega),fZ,bS]
end Go.Proofs.T1
namespace Go.Proofs.T1
open Go Go.Sx
def sz (v:ay):Int:=ga v.1+ga v.2.1
def xB (l:List ay):Prop:=∀ i j,0≤i→i<len l→0≤j→j<len l→j≠i→j≠nx (len l) i→8*(sz (dH (q l (nx (len l) i)) (q l i))+sz (dH (q l j) (q l i)))≤cV (q l i) (q l (nx (len l) i)) (q l j)
theorem kz {x:Int} (h0:-1000000000000≤x) (h1:x≤1000000000000):imax x (fk .i64 x)=ga x:=by
 have n1:fk .i64 x=-x:=by unfold fk; rw [wrap_i64 (by omega) (by omega)]; omega
 rw [n1];unfold imax ga;split <;> split <;> omega
theorem oo {x M:Int} (h0:-M≤x) (h1:x≤M):0≤ga x∧ga x≤M:=by unfold ga; split <;> omega
theorem vR (k:Nat) {v:ay} {M:Int} (hM:M≤1000000000) (h:-M≤v.1∧v.1≤M∧-M≤v.2.1∧v.2.1≤M):fh k v=some (sz v)∧0≤sz v∧sz v≤2*M:=by
 have a1:=oo h.1 h.2.1;have a2:=oo h.2.2.1 h.2.2.2;unfold fh sz;rw [kz (by omega) (by omega),kz (by omega) (by omega),aX (by omega) (by omega)];exact ⟨rfl,by omega,by omega⟩
theorem ye (k:Nat) {l:List ay} (h8:len l≤8) (hr:rf l) {i j:Int} (i0:0≤i) (i1:i<len l) (j0:0≤j) (j1:j<len l) :
  aN.c3 k l i j=some (decide (j≠i∧j≠nx (len l) i∧cV (q l i) (q l (nx (len l) i)) (q l j)<8*(sz (dH (q l (nx (len l) i)) (q l i))+sz (dH (q l j) (q l i))))):=by
 have hn:=dK i0 i1;have hi:=hr i i0 i1;have hj:=hr j j0 j1;have hx:=hr _ hn.1 hn.2;unfold aN.c3
 by_cases a:j=i
 ·rw [dR a,bF,decide_eq_false (fun h=>h.1 a)]
 rw [gn a,bT,rP (show nz (len l) by unfold nz; omega),gK i0 i1 (by omega)]
 by_cases b:j=nx (len l) i
 ·rw [dR b,bF,decide_eq_false (fun h=>h.2.1 b)]
 rw [gn b,bT];have hq1:el cH l i=q l i:=rfl;have hq2:el cH l (nx (len l) i)=q l (nx (len l) i):=rfl;have hq3:el cH l j=q l j:=rfl;rw [hq1,hq2,hq3];have s1:bY .i64 (q l (nx (len l) i)).1 (q l i).1=(q l (nx (len l) i)).1 - (q l i).1:=cR (by omega) (by omega);have s2:bY .i64 (q l (nx (len l) i)).2.1 (q l i).2.1=(q l (nx (len l) i)).2.1 - (q l i).2.1:=cR (by omega) (by omega);have s3:bY .i64 (q l j).1 (q l i).1=(q l j).1 - (q l i).1:=cR (by omega) (by omega);have s4:bY .i64 (q l j).2.1 (q l i).2.1=(q l j).2.1 - (q l i).2.1:=cR (by omega) (by omega);rw [s1,s2,s3,s4];obtain ⟨e1,u0,u1⟩:=vR k (v:=dH (q l (nx (len l) i)) (q l i)) (M:=4194304) (by decide) (by unfold dH; dsimp only; omega);obtain ⟨e2,w0,w1⟩:=vR k (v:=dH (q l j) (q l i)) (M:=4194304) (by decide) (by unfold dH; dsimp only; omega);have e1':fh k ((q l (nx (len l) i)).1 - (q l i).1,(q l (nx (len l) i)).2.1 - (q l i).2.1,())=some (sz (dH (q l (nx (len l) i)) (q l i))):=e1;have e2':fh k ((q l j).1 - (q l i).1,(q l j).2.1 - (q l i).2.1,())=some (sz (dH (q l j) (q l i))):=e2;have p1:=ek (x:=(q l (nx (len l) i)).1 - (q l i).1) (y:=(q l j).2.1 - (q l i).2.1) (M:=4194304) (N:=4194304) (by omega) (by omega) (by omega) (by omega);have p2:=ek (x:=(q l (nx (len l) i)).2.1 - (q l i).2.1) (y:=(q l j).1 - (q l i).1) (M:=4194304) (N:=4194304) (by omega) (by omega) (by omega) (by omega);rw [e1',bS,e2',bS,eB (x:=(q l (nx (len l) i)).1 - (q l i).1) (by omega) (by omega),eB (x:=(q l (nx (len l) i)).2.1 - (q l i).2.1) (by omega) (by omega),cR (by omega) (by omega),aX (by omega) (by omega),eB (by omega) (by omega)];unfold eK;congr 1;rw [decide_eq_decide];exact ⟨fun h=>⟨a,b,h⟩,fun h=>h.2.2⟩
open Classical in
theorem Ds {k:Nat} (hk:9≤k) {l:List ay} (h3:3≤len l) (h8:len l≤8) (hr:rf l):aN k l=some (decide (xB l)):=by
 have c2:∀ i,0≤i→i<len l→(aN.c2 k l i k 0=some (.inl ())∧∃ j,0≤j∧j<len l∧(j≠i∧j≠nx (len l) i∧cV (q l i) (q l (nx (len l) i)) (q l j)<8*(sz (dH (q l (nx (len l) i)) (q l i))+sz (dH (q l j) (q l i))))) ∨
   (aN.c2 k l i k 0=some (.inr ())∧∀ j,0≤j→j<len l→¬ (j≠i∧j≠nx (len l) i∧cV (q l i) (q l (nx (len l) i)) (q l j)<8*(sz (dH (q l (nx (len l) i)) (q l i))+sz (dH (q l j) (q l i))))):=by
  intro i i0 i1;have H:=fM (fun n v=>aN.c2 k l i n v) 0 (len l) (fun j=>j≠i∧j≠nx (len l) i∧cV (q l i) (q l (nx (len l) i)) (q l j)<8*(sz (dH (q l (nx (len l) i)) (q l i))+sz (dH (q l j) (q l i)))) (fun _=>())
   (by
    intro n v a b c;show aN.c2 k l i (n+1) v=_
    rw [aN.c2,bA b,bT,rP (bu a b),ye k h8 hr i0 i1 a b,bS,decide_eq_true c,bT])
   (by
    intro n v a b c;show aN.c2 k l i (n+1) v=aN.c2 k l i n (v+1)
    rw [aN.c2,bA b,bT,rP (bu a b),ye k h8 hr i0 i1 a b,bS,decide_eq_false c,bF,aX (by omega) (by omega)])
   (by
    intro n v a b;show aN.c2 k l i (n+1) v=_
    rw [aN.c2,bZ b,bF])
   k 0 (by omega) (by omega)
  rcases H with ⟨j,a,b,c,_,e⟩ | ⟨a,e⟩
  ·exact Or.inl ⟨e,j,a,b,c⟩
  ·exact Or.inr ⟨e (by omega),a⟩
 have H:=fM (fun n v=>aN.c1 k l n v) 0 (len l) (fun i=>∃ j,0≤j∧j<len l∧(j≠i∧j≠nx (len l) i∧cV (q l i) (q l (nx (len l) i)) (q l j)<8*(sz (dH (q l (nx (len l) i)) (q l i))+sz (dH (q l j) (q l i))))) (fun _=>())
  (by
   intro n v a b c;show aN.c1 k l (n+1) v=_;have hn:=dK a b;rw [aN.c1,bA b,bT,rP (bu a b),rP (show nz (len l) by unfold nz; omega),gK a b (by omega),rP (bu hn.1 hn.2)];rcases c2 v a b with ⟨e,_⟩ | ⟨_,e⟩
   ·rw [e,bS,eE]
   ·obtain ⟨j,x,y,z⟩:=c
    exact absurd z (e j x y))
  (by
   intro n v a b c;show aN.c1 k l (n+1) v=aN.c1 k l n (v+1);have hn:=dK a b;rw [aN.c1,bA b,bT,rP (bu a b),rP (show nz (len l) by unfold nz; omega),gK a b (by omega),rP (bu hn.1 hn.2)];rcases c2 v a b with ⟨_,e⟩ | ⟨e,_⟩
   ·exact absurd e c
   ·rw [e,bS,eW,aX (by omega) (by omega)])
  (by
   intro n v a b;show aN.c1 k l (n+1) v=_
   rw [aN.c1,bZ b,bF])
  k 0 (by omega) (by omega)
 unfold aN;rcases H with ⟨i,a,b,⟨j,c,d,f⟩,_,e⟩ | ⟨a,e⟩
 ·have e:aN.c1 k l k 0=some (.inl ()):=e
  rw [e,bS,eE,decide_eq_false];intro h;have:=h i j a b c d f.1 f.2.1;omega
 ·have e:aN.c1 k l k 0=some (.inr ()):=e (by omega)
  rw [e,bS,eW,decide_eq_true];intro i j i0 i1 j0 j1 h1 h2;have:=a i i0 i1;rcases Int.lt_or_le (cV (q l i) (q l (nx (len l) i)) (q l j)) (8*(sz (dH (q l (nx (len l) i)) (q l i))+sz (dH (q l j) (q l i)))) with g | g
  ·exact absurd ⟨j,j0,j1,h1,h2,g⟩ this
  ·exact g
def AR (l:List ay) (e:Int):Prop :=
 (C6 l e∧e≠0)∨(ju l∧¬ rf l∧e=1)∨(ju l∧rf l∧¬ (xB l∧lj l cH)∧e=3)∨(ju l∧rf l∧xB l∧lj l cH∧e=0)
theorem vC {l:List ay} {e f:Int} (h:AR l e) (g:AR l f):e=f:=by
 have key:∀ {x y:Int},C6 l x→x≠0→ju l→False:=fun hx h0 hv=>h0 (qF hx (yp hv));rcases h with ⟨a,b⟩ | ⟨a,b,c⟩ | ⟨a,b,c,d⟩ | ⟨a,b,c,d,e'⟩ <;> rcases g with ⟨x,y⟩ | ⟨x,y,z⟩ | ⟨x,y,z,w⟩ | ⟨x,y,z,w,u⟩
 ·exact qF a x
 ·exact (key (y:=0) a b x).elim
 ·exact (key (y:=0) a b x).elim
 ·exact (key (y:=0) a b x).elim
 ·exact (key (y:=0) x y a).elim
 ·rw [c,z]
 ·exact absurd y b
 ·exact absurd y b
 ·exact (key (y:=0) x y a).elim
 ·exact absurd b y
 ·rw [d,w]
 ·exact absurd ⟨z,w⟩ c
 ·exact (key (y:=0) x y a).elim
 ·exact absurd b y
 ·exact absurd ⟨c,d⟩ z
 ·rw [e',u]
open Classical in
theorem zY {k:Nat} (hk:9≤k) (l:List ay):∃ e,cq k l=some e∧AR l e:=by
 obtain ⟨c,e1,c1⟩:=uG hk l;unfold cq;rw [e1,bS]
 by_cases hc:c=0
 ·subst hc
  have hv:=uV c1;have h8:=hv.2.1;rw [dR rfl,bF];have hf:∀ x:ay,(fun x:(ay × Unit)=>dF k (x.1)) (x,())=some (!decide (-2097152≤x.1∧x.1≤2097152∧-2097152≤x.2.1∧x.2.1≤2097152)):=by
   intro x;show dF k x=_;unfold dF;rw [mH k x (by decide) (by decide),bS]
  rcases oJ (l:=l) (k:=k) (f:=fun x:(ay × Unit)=>dF k (x.1)) (by omega) (by omega) (g:=fun x=>!decide (-2097152≤x.1∧x.1≤2097152∧-2097152≤x.2.1∧x.2.1≤2097152)) hf with ⟨g,i,i0,i1,i2⟩ | ⟨g,g2⟩
  ·rw [g,bS,bT]
   refine ⟨1,rfl,Or.inr (Or.inl ⟨hv,fun h=>?_,rfl⟩)⟩;have:=h i i0 i1;simp [this] at i2
  ·have hr:rf l:=by
    intro i i0 i1;have:=g2 i i0 i1
    simpa using this
   rw [g,bS,bF];unfold cq.c1;rw [Ds hk hv.1 h8 hr,bS]
   by_cases hF:xB l
   ·rw [decide_eq_true hF,bT,DH hk hv,bS,bS]
    by_cases hI:lj l cH
    ·have:(Wn (0,0,())∧lj l (0,0,())):=⟨by decide,hI⟩
     rw [decide_eq_true this];exact ⟨0,rfl,Or.inr (Or.inr (Or.inr ⟨hv,hr,hF,hI,rfl⟩))⟩
    ·have:¬ (Wn (0,0,())∧lj l (0,0,())):=fun h=>hI h.2
     rw [decide_eq_false this];exact ⟨3,rfl,Or.inr (Or.inr (Or.inl ⟨hv,hr,fun h=>hI h.2,rfl⟩))⟩
   ·rw [decide_eq_false hF,bF,bS,bT]
    exact ⟨3,rfl,Or.inr (Or.inr (Or.inl ⟨hv,hr,fun h=>hF h.1,rfl⟩))⟩
 ·rw [gn hc,bT]
  exact ⟨c,rfl,Or.inl ⟨c1,hc⟩⟩
end Go.Proofs.T1
namespace Go.Proofs.T1
open Go Go.Sx
def Bd (a:ay) (m:Int):Prop:=-m≤a.1∧a.1≤m∧-m≤a.2.1∧a.2.1≤m
instance (a:ay) (m:Int):Decidable (Bd a m):=by unfold Bd; infer_instance
def R1 (p v:ay) (ang spin:Int):Prop:=Bd p 58982400∧Bd v 268435456∧(-16777216≤spin∧spin≤16777216)∧(0≤ang∧ang≤65535)
def R2 (mass inertia bounce rub calm:Int):Prop:=(0≤mass∧mass≤1099511627776)∧(0≤inertia∧inertia≤1099511627776)∧(0≤bounce∧bounce≤65536)∧(0≤rub∧rub≤65536)∧(0≤calm∧calm≤1000)
def R3 (v:ay) (spin mass inertia:Int) (asleep:Bool) (calm:Int):Prop:=(mass=0↔inertia=0)∧(mass=0→v=(0,0,())∧spin=0∧asleep=false∧calm=0)∧(asleep=true→v=(0,0,())∧spin=0)
instance (p v:ay) (ang spin:Int):Decidable (R1 p v ang spin):=by unfold R1; infer_instance
instance (a b c d e:Int):Decidable (R2 a b c d e):=by unfold R2; infer_instance
def Bc (p v:ay) (ang spin mass inertia bounce rub:Int) (l:List ay) (asleep:Bool) (calm:Int) (e:Int):Prop :=
 (AR l e∧e≠0)∨(AR l 0∧¬ (R1 p v ang spin∧R2 mass inertia bounce rub calm)∧e=1)∨(AR l 0∧R1 p v ang spin∧R2 mass inertia bounce rub calm∧¬ R3 v spin mass inertia asleep calm∧e=3) ∨
 (AR l 0∧R1 p v ang spin∧R2 mass inertia bounce rub calm∧R3 v spin mass inertia asleep calm∧e=0)
section
variable {p v:ay} {ang spin mass inertia bounce rub:Int} {l:List ay} {asleep:Bool} {calm:Int}
theorem DM {e f:Int} (h:Bc p v ang spin mass inertia bounce rub l asleep calm e) (g:Bc p v ang spin mass inertia bounce rub l asleep calm f):e=f:=by
 have key:∀ {x:Int},AR l x→x≠0→AR l 0→False:=fun hx h0 hz=>h0 (vC hx hz);rcases h with ⟨a,b⟩ | ⟨a,b,c⟩ | ⟨a,b,c,d,e'⟩ | ⟨a,b,c,d,e'⟩ <;> rcases g with ⟨x,y⟩ | ⟨x,y,z⟩ | ⟨x,y,z,w,u⟩ | ⟨x,y,z,w,u⟩
 ·exact vC a x
 ·exact (key a b x).elim
 ·exact (key a b x).elim
 ·exact (key a b x).elim
 ·exact (key x y a).elim
 ·rw [c,z]
 ·exact absurd ⟨y,z⟩ b
 ·exact absurd ⟨y,z⟩ b
 ·exact (key x y a).elim
 ·exact absurd ⟨b,c⟩ y
 ·rw [e',u]
 ·exact absurd w d
 ·exact (key x y a).elim
 ·exact absurd ⟨b,c⟩ y
 ·exact absurd d w
 ·rw [e',u]
theorem kM (k:Nat) (n a b:Int):c9 k n a b=some (decide (a≤n∧n≤b)):=by
 unfold c9
 by_cases h:n ≥ a
 ·rw [j3 h,bT]
  unfold jb;congr 1;rw [decide_eq_decide];exact ⟨fun x=>⟨h,x⟩,fun x=>x.2⟩
 ·rw [iV (by omega),bF,decide_eq_false (fun x=>h x.1)]
theorem Ak (k:Nat):aj.c1 k (p,v,ang,spin,mass,inertia,bounce,rub,l,asleep,calm,())=some (!decide (R1 p v ang spin)):=by
 unfold aj.c1 R1;dsimp only;rw [mH k p (by decide) (by decide),bS,mH k v (by decide) (by decide),kM,kM];have e1:(-58982400≤p.1∧p.1≤58982400∧-58982400≤p.2.1∧p.2.1≤58982400)=Bd p 58982400:=rfl;have e2:(-268435456≤v.1∧v.1≤268435456∧-268435456≤v.2.1∧v.2.1≤268435456)=Bd v 268435456:=rfl
 by_cases h1:Bd p 58982400 <;> by_cases h2:Bd v 268435456 <;> by_cases h3:(-16777216≤spin∧spin≤16777216) <;> by_cases h4:(0≤ang∧ang≤65535) <;>
  simp [e1,e2,h1,h2,h3,h4,aM,bB]
theorem zi (k:Nat):aj.c2 k (p,v,ang,spin,mass,inertia,bounce,rub,l,asleep,calm,())=some (!decide (R2 mass inertia bounce rub calm)):=by
 unfold aj.c2 R2;dsimp only;rw [kM,kM,kM,kM,kM]
 by_cases h1:(0≤mass∧mass≤1099511627776) <;> by_cases h2:(0≤inertia∧inertia≤1099511627776) <;> by_cases h3:(0≤bounce∧bounce≤65536) <;> by_cases h4:(0≤rub∧rub≤65536) <;> by_cases h5:(0≤calm∧calm≤1000) <;>
  simp [h1,h2,h3,h4,h5,aM,bB]
theorem zC (k:Nat):aj.c3 k (p,v,ang,spin,mass,inertia,bounce,rub,l,asleep,calm,())=some (decide (v=(0,0,())∧spin=0)):=by
 unfold aj.c3;dsimp only;refine (congrArg (fun b=>aM b (some (gB spin 0)) (some false)) (sf v (0,0,()))).trans ?_
 by_cases a:v=(0,0,())
 ·rw [decide_eq_true a,bT]
  unfold gB;congr 1;rw [decide_eq_decide];exact ⟨fun h=>⟨a,h⟩,fun h=>h.2⟩
 ·rw [decide_eq_false a,bF,decide_eq_false (fun h=>a h.1)]
open Classical in
theorem zA (k:Nat) {st:Bool} (hst:st=decide (v=(0,0,())∧spin=0)):aj.c4 k (p,v,ang,spin,mass,inertia,bounce,rub,l,asleep,calm,()) st=some (decide (¬ R3 v spin mass inertia asleep calm)):=by
 have hs:st=true↔(v=(0,0,())∧spin=0):=by rw [hst]; exact decide_eq_true_iff
 have out:∀ {b:Bool},(b=true↔¬ R3 v spin mass inertia asleep calm)→some b=some (decide (¬ R3 v spin mass inertia asleep calm)):=by
  intro b hb;congr 1
  by_cases h:¬ R3 v spin mass inertia asleep calm
  ·rw [decide_eq_true h]; exact hb.2 h
  ·rw [decide_eq_false h]
   cases b
   ·rfl
   ·exact absurd (hb.1 rfl) h
 unfold aj.c4;dsimp only;have hq:Ty.kY T4 (gB mass (0:Int)) (gB inertia (0:Int))=(gB mass 0 == gB inertia 0):=rfl;refine (congrArg (fun b=>aM b _ (some true)) hq).trans ?_
 unfold R3 at out ⊢
 by_cases a:mass=0 <;> by_cases b:inertia=0
 ·rw [fw a,fw b]
  show aM true _ _=_;rw [bT,bT];cases st with
  | false =>
   rw [bF];exact out ⟨fun _ h=>(by have:=hs.2 ⟨(h.2.1 a).1,(h.2.1 a).2.1⟩; cases this),fun _=>rfl⟩
  | true =>
   rw [bT];have hv:=hs.1 rfl;cases asleep with
   | true =>
    rw [bT];exact out ⟨fun _ h=>(by have:=(h.2.1 a).2.2.1; cases this),fun _=>rfl⟩
   | false =>
    rw [bF]
    by_cases c:calm=0
    ·rw [dR c,bF]
     exact out ⟨fun h=>absurd h Bool.false_ne_true,fun h=>absurd ⟨⟨fun _=>b,fun _=>a⟩,fun _=>⟨hv.1,hv.2,rfl,c⟩,fun h=>by cases h⟩ h⟩
    ·rw [gn c,bT]
     exact out ⟨fun _ h=>c (h.2.1 a).2.2.2,fun _=>rfl⟩
 ·rw [fw a,fl b]
  exact out ⟨fun _ h=>b (h.1.1 a),fun _=>rfl⟩
 ·rw [fl a,fw b]
  exact out ⟨fun _ h=>a (h.1.2 b),fun _=>rfl⟩
 ·rw [fl a,fl b]
  show aM true _ _=_;rw [bT,bF];cases asleep with
  | false =>
   rw [bF];exact out ⟨fun h=>absurd h Bool.false_ne_true,fun h=>absurd ⟨⟨fun h=>absurd h a,fun h=>absurd h b⟩,fun h=>absurd h a,fun h=>by cases h⟩ h⟩
  | true =>
   rw [bT];cases st with
   | true=>exact out ⟨fun h=>absurd h Bool.false_ne_true,fun h=>absurd ⟨⟨fun h=>absurd h a,fun h=>absurd h b⟩,fun h=>absurd h a,fun _=>hs.1 rfl⟩ h⟩
   | false=>exact out ⟨fun _ h=>(by have:=hs.2 (h.2.2 rfl); cases this),fun _=>rfl⟩
open Classical in
theorem kf {k:Nat} (hk:9≤k):∃ e,aj k (p,v,ang,spin,mass,inertia,bounce,rub,l,asleep,calm,())=some e∧Bc p v ang spin mass inertia bounce rub l asleep calm e:=by
 obtain ⟨s,e1,hs⟩:=zY hk l;unfold aj;dsimp only;rw [e1,bS]
 by_cases h0:s=0
 ·subst h0
  rw [dR rfl,bF,Ak,bS]
  by_cases h1:R1 p v ang spin
  ·rw [decide_eq_true h1]
   show ∃ e,aM false _ _=some e∧_;rw [bF,zi,bS]
   by_cases h2:R2 mass inertia bounce rub calm
   ·rw [decide_eq_true h2]
    show ∃ e,aM false _ _=some e∧_;rw [bF,zC,bS,zA k rfl,bS]
    by_cases h3:R3 v spin mass inertia asleep calm
    ·rw [decide_eq_false (fun h=>h h3),bF]
     exact ⟨0,rfl,Or.inr (Or.inr (Or.inr ⟨hs,h1,h2,h3,rfl⟩))⟩
    ·rw [decide_eq_true h3,bT]
     exact ⟨3,rfl,Or.inr (Or.inr (Or.inl ⟨hs,h1,h2,h3,rfl⟩))⟩
   ·rw [decide_eq_false h2]
    show ∃ e,aM true _ _=some e∧_;rw [bT];exact ⟨1,rfl,Or.inr (Or.inl ⟨hs,fun h=>h2 h.2,rfl⟩)⟩
  ·rw [decide_eq_false h1]
   show ∃ e,aM true _ _=some e∧_;rw [bT];exact ⟨1,rfl,Or.inr (Or.inl ⟨hs,fun h=>h1 h.1,rfl⟩)⟩
 ·rw [gn h0,bT]
  exact ⟨s,rfl,Or.inl ⟨hs,h0⟩⟩
end
end Go.Proofs.T1
namespace Go.Proofs.T1
open Go Go.Sx
def jj (n i v:Int):Int:=if i+v<n then i+v else i+v - n
theorem D9 {n i v:Int} (i0:0≤i) (i1:i<n) (v0:0≤v) (v1:v<n) (h:n≤1000):en (ao .i64 i v) n=jj n i v:=by
 rw [aX (by omega) (by omega)];unfold en jj;rw [Int.tmod_eq_emod_of_nonneg (by omega)];split
 ·exact Int.emod_eq_of_lt (by omega) (by omega)
 ·have e:i+v=(i+v - n)+n*1:=by omega
  rw [e,Int.add_mul_emod_self_left,Int.emod_eq_of_lt (by omega) (by omega)];omega
theorem vY {n i v:Int} (i0:0≤i) (i1:i<n) (v0:0≤v) (v1:v<n):0≤jj n i v∧jj n i v<n:=by unfold jj; split <;> omega
theorem o0 {k:Nat} (hk:9≤k) {l:List ay} (h8:len l≤8) (hr:rf l) {i:Int} (i0:0≤i) (i1:i<len l) {n:Nat} {v:Int} (v0:2≤v) (v1:v<len l) :
  au.c3 k l i (dH (q l (nx (len l) i)) (q l i)) (n+1) v=aM (decide (cV (q l i) (q l (nx (len l) i)) (q l (jj (len l) i v))<8*(sz (dH (q l (nx (len l) i)) (q l i))+sz (dH (q l (jj (len l) i v)) (q l i))))) (some (.inl ())) (au.c3 k l i (dH (q l (nx (len l) i)) (q l i)) n (v+1)):=by
 have hn:=dK i0 i1;have hj:=vY (v:=v) i0 i1 (by omega) v1;have wi:=hr i i0 i1;have wj:=hr _ hj.1 hj.2;have wx:=hr _ hn.1 hn.2;rw [au.c3,bA v1,bT,rP (show nz (len l) by unfold nz; omega),D9 i0 i1 (by omega) v1 (by omega),rP (bu hj.1 hj.2)];have hq1:el cH l i=q l i:=rfl;have hq2:el cH l (jj (len l) i v)=q l (jj (len l) i v):=rfl;rw [hq1,hq2];generalize q l i=a at *
 generalize q l (nx (len l) i)=b at *
 generalize q l (jj (len l) i v)=c at *
 have es:dJ k c a=some (dH c a):=by
  unfold dJ;rw [cR (by omega) (by omega),cR (by omega) (by omega)];rfl
 have p1:=ek (x:=b.1 - a.1) (y:=c.2.1 - a.2.1) (M:=4194304) (N:=4194304) (by omega) (by omega) (by omega) (by omega);have p2:=ek (x:=b.2.1 - a.2.1) (y:=c.1 - a.1) (M:=4194304) (N:=4194304) (by omega) (by omega) (by omega) (by omega);obtain ⟨x,ex,rx⟩:=B6 hk (a:=dH b a) (b:=dH c a) (by unfold jd dH; dsimp only; omega) (by unfold jd dH; dsimp only; omega) (by unfold jd dH; dsimp only; omega) (by unfold jd dH; dsimp only; omega);have m1:imax (dH b a).1 (fk .i64 (dH b a).1)=ga (dH b a).1:=kz (by unfold dH; dsimp only; omega) (by unfold dH; dsimp only; omega);have m2:imax (dH b a).2.1 (fk .i64 (dH b a).2.1)=ga (dH b a).2.1:=kz (by unfold dH; dsimp only; omega) (by unfold dH; dsimp only; omega);have m3:imax (dH c a).1 (fk .i64 (dH c a).1)=ga (dH c a).1:=kz (by unfold dH; dsimp only; omega) (by unfold dH; dsimp only; omega);have m4:imax (dH c a).2.1 (fk .i64 (dH c a).2.1)=ga (dH c a).2.1:=kz (by unfold dH; dsimp only; omega) (by unfold dH; dsimp only; omega);have b1:=oo (x:=(dH b a).1) (M:=4194304) (by unfold dH; dsimp only; omega) (by unfold dH; dsimp only; omega);have b2:=oo (x:=(dH b a).2.1) (M:=4194304) (by unfold dH; dsimp only; omega) (by unfold dH; dsimp only; omega);have b3:=oo (x:=(dH c a).1) (M:=4194304) (by unfold dH; dsimp only; omega) (by unfold dH; dsimp only; omega);have b4:=oo (x:=(dH c a).2.1) (M:=4194304) (by unfold dH; dsimp only; omega) (by unfold dH; dsimp only; omega);have so:a7 .i64 8 (ao .i64 (ao .i64 (ao .i64 (ga (dH b a).1) (ga (dH b a).2.1)) (ga (dH c a).1)) (ga (dH c a).2.1))=8*(sz (dH b a)+sz (dH c a)):=by
  rw [aX (x:=ga (dH b a).1) (by omega) (by omega),aX (x:=ga (dH b a).1+ga (dH b a).2.1) (by omega) (by omega),aX (by omega) (by omega),eB (by omega) (by omega)];unfold sz;omega
 have sb:0≤sz (dH b a)+sz (dH c a)∧sz (dH b a)+sz (dH c a)≤16777216:=by unfold sz; omega
 obtain ⟨y,ey,ry⟩:=wh hk (n:=8*(sz (dH b a)+sz (dH c a))) (by omega) (by omega);have et:(dH b a).1*(dH c a).2.1 - (dH b a).2.1*(dH c a).1=cV a b c:=rfl;rw [et] at rx;have tb:-35184372088832≤cV a b c∧cV a b c≤35184372088832:=by unfold cV; omega
 rw [es,bS,ex,bS,m1,m2,m3,m4,so,ey,bS,wz hk rx ry (by unfold SR; omega) (by unfold SR; omega),bS,aX (by omega) (by omega)];congr 1;unfold eK iz;refine decide_eq_decide.2 ?_
 split
 ·exact ⟨fun _=>by assumption,fun _=>by decide⟩
 ·split
  ·exact ⟨fun h=>absurd h (by decide),fun h=>by omega⟩
  ·exact ⟨fun h=>absurd h (by decide),fun h=>by omega⟩
open Classical in
theorem tD {k:Nat} (hk:9≤k) (l:List ay):∃ e,au k l=some e∧AR l e:=by
 obtain ⟨c,e1,c1⟩:=DC hk l;unfold au;rw [e1,bS]
 by_cases hc:c=0
 ·subst hc
  have hv:=uV c1;have h3:=hv.1;have h8:=hv.2.1;rw [dR rfl,bF];rcases fM (fun n v=>au.c1 k l n v) 0 (len l) (fun i=>¬ (-2097152≤(q l i).1∧(q l i).1≤2097152∧-2097152≤(q l i).2.1∧(q l i).2.1≤2097152)) (fun _=>())
   (by
    intro n v a b p;show au.c1 k l (n+1) v=_;rw [au.c1,bA b,bT,rP (bu a b),jO k _ _ (by decide) (by decide),bS];show aM (decide (-2097152≤(q l v).1∧(q l v).1≤2097152∧-2097152≤(q l v).2.1∧(q l v).2.1≤2097152)) _ _=_
    rw [decide_eq_false p,bF])
   (by
    intro n v a b p;show au.c1 k l (n+1) v=au.c1 k l n (v+1);rw [au.c1,bA b,bT,rP (bu a b),jO k _ _ (by decide) (by decide),bS];show aM (decide (-2097152≤(q l v).1∧(q l v).1≤2097152∧-2097152≤(q l v).2.1∧(q l v).2.1≤2097152)) _ _=_
    rw [decide_eq_true (Classical.not_not.1 p),bT,aX (by omega) (by omega)])
   (by
    intro n v a b;show au.c1 k l (n+1) v=_
    rw [au.c1,bZ b,bF]) k 0 (by omega) (by omega) with ⟨j,a,b,p,_,e⟩ | ⟨a,e⟩
  ·have e:au.c1 k l k 0=some (.inl ()):=e
   rw [e,bS,eE];exact ⟨1,rfl,Or.inr (Or.inl ⟨hv,fun h=>p (h j a b),rfl⟩)⟩
  ·have e:au.c1 k l k 0=some (.inr ()):=e (by omega)
   have hr:rf l:=fun i i0 i1=>Classical.not_not.1 (a i i0 i1);rw [e,bS,eW];have C3:∀ i,0≤i→i<len l→(au.c3 k l i (dH (q l (nx (len l) i)) (q l i)) k 2=some (.inl ())∧∃ v,2≤v∧v<len l∧cV (q l i) (q l (nx (len l) i)) (q l (jj (len l) i v))<8*(sz (dH (q l (nx (len l) i)) (q l i))+sz (dH (q l (jj (len l) i v)) (q l i)))) ∨
     (au.c3 k l i (dH (q l (nx (len l) i)) (q l i)) k 2=some (.inr ())∧∀ v,2≤v→v<len l→¬ cV (q l i) (q l (nx (len l) i)) (q l (jj (len l) i v))<8*(sz (dH (q l (nx (len l) i)) (q l i))+sz (dH (q l (jj (len l) i v)) (q l i)))):=by
    intro i i0 i1;rcases fM (fun n v=>au.c3 k l i (dH (q l (nx (len l) i)) (q l i)) n v) 2 (len l) (fun v=>cV (q l i) (q l (nx (len l) i)) (q l (jj (len l) i v))<8*(sz (dH (q l (nx (len l) i)) (q l i))+sz (dH (q l (jj (len l) i v)) (q l i)))) (fun _=>())
     (by
      intro n v a b p;show au.c3 k l i (dH (q l (nx (len l) i)) (q l i)) (n+1) v=_
      rw [o0 hk h8 hr i0 i1 a b,decide_eq_true p,bT])
     (by
      intro n v a b p;show au.c3 k l i (dH (q l (nx (len l) i)) (q l i)) (n+1) v=_
      rw [o0 hk h8 hr i0 i1 a b,decide_eq_false p,bF])
     (by
      intro n v a b;show au.c3 k l i (dH (q l (nx (len l) i)) (q l i)) (n+1) v=_
      rw [au.c3,bZ b,bF]) k 2 (by omega) (by omega) with ⟨j,a,b,p,_,e⟩ | ⟨a,e⟩
    ·exact Or.inl ⟨e,j,a,b,p⟩
    ·exact Or.inr ⟨e (by omega),a⟩
   have st:∀ n i,0≤i→i<len l→au.c2 k l (n+1) i=bB (au.c3 k l i (dH (q l (nx (len l) i)) (q l i)) k 2) fun o36=>two o36 (fun _=>some (.inl ())) (fun _=>au.c2 k l n (i+1)):=by
    intro n i i0 i1;have hn:=dK i0 i1;have wi:=hr i i0 i1;have wx:=hr _ hn.1 hn.2;rw [au.c2,bA i1,bT,rP (bu i0 i1),rP (show nz (len l) by unfold nz; omega),gK i0 i1 (by omega),rP (bu hn.1 hn.2)];have es:dJ k (el cH l (nx (len l) i)) (el cH l i)=some (dH (q l (nx (len l) i)) (q l i)):=by
     show dJ k (q l (nx (len l) i)) (q l i)=_;unfold dJ;rw [cR (by omega) (by omega),cR (by omega) (by omega)];rfl
    rw [es,bS,aX (by omega) (by omega)]
   rcases fM (fun n v=>au.c2 k l n v) 0 (len l) (fun i=>∃ v,2≤v∧v<len l∧cV (q l i) (q l (nx (len l) i)) (q l (jj (len l) i v))<8*(sz (dH (q l (nx (len l) i)) (q l i))+sz (dH (q l (jj (len l) i v)) (q l i)))) (fun _=>())
    (by
     intro n v a b p;show au.c2 k l (n+1) v=_;rw [st n v a b];rcases C3 v a b with ⟨e,_⟩ | ⟨_,e⟩
     ·rw [e,bS,eE]
     ·obtain ⟨j,x,y,z⟩:=p
      exact absurd z (e j x y))
    (by
     intro n v a b p;show au.c2 k l (n+1) v=au.c2 k l n (v+1);rw [st n v a b];rcases C3 v a b with ⟨_,e⟩ | ⟨e,_⟩
     ·exact absurd e p
     ·rw [e,bS,eW])
    (by
     intro n v a b;show au.c2 k l (n+1) v=_
     rw [au.c2,bZ b,bF]) k 0 (by omega) (by omega) with ⟨i,a,b,⟨v,p1,p2,p3⟩,_,e⟩ | ⟨a,e⟩
   ·have e:au.c2 k l k 0=some (.inl ()):=e
    rw [e,bS,eE];refine ⟨3,rfl,Or.inr (Or.inr (Or.inl ⟨hv,hr,fun h=>?_,rfl⟩))⟩;have hj:=vY (v:=v) a b (by omega) p2;have:=h.1 i (jj (len l) i v) a b hj.1 hj.2 (by unfold jj; split <;> omega) (by unfold jj nx; split <;> split <;> omega);omega
   ·have e:au.c2 k l k 0=some (.inr ()):=e (by omega)
    rw [e,bS,eW,qK hk hv,bS];have hF:xB l:=by
     intro i j i0 i1 j0 j1 n1 n2;have h:=a i i0 i1;rcases Int.lt_or_le (cV (q l i) (q l (nx (len l) i)) (q l j)) (8*(sz (dH (q l (nx (len l) i)) (q l i))+sz (dH (q l j) (q l i)))) with g | g
     ·exfalso
      refine h ⟨if i<j then j - i else j - i+len l,?_,?_,?_⟩
      ·unfold nx at n2; split at n2 <;> split <;> omega
      ·split <;> omega
      ·have:jj (len l) i (if i<j then j - i else j - i+len l)=j:=by
        unfold jj
        by_cases c:i<j
        ·rw [if_pos c,if_pos (by omega)]; omega
        ·rw [if_neg c,if_neg (by omega)]; omega
       rw [this];exact g
     ·exact g
    by_cases hI:lj l cH
    ·have:Wn (0,0,())∧Ai l (0,0,()):=⟨by decide,sM hv.1 hI⟩
     rw [decide_eq_true this,bT];exact ⟨0,rfl,Or.inr (Or.inr (Or.inr ⟨hv,hr,hF,hI,rfl⟩))⟩
    ·have:¬ (Wn (0,0,())∧Ai l (0,0,())):=fun h=>hI (AX hv.2.2.2 h.2)
     rw [decide_eq_false this,bF];exact ⟨3,rfl,Or.inr (Or.inr (Or.inl ⟨hv,hr,fun h=>hI h.2,rfl⟩))⟩
 ·rw [gn hc,bT]
  exact ⟨c,rfl,Or.inl ⟨c1,hc⟩⟩
section
variable {p v:ay} {ang spin mass inertia bounce rub:Int} {l:List ay} {asleep:Bool} {calm:Int}
theorem iL (k:Nat) (n a b:Int):dP k n a b=some (decide (a≤n∧n≤b)):=by
 unfold dP
 by_cases h:a≤n
 ·rw [iJ h,bT]
  unfold jb;congr 1;rw [decide_eq_decide];exact ⟨fun x=>⟨h,x⟩,fun x=>x.2⟩
 ·rw [iI (by omega),bF,decide_eq_false (fun x=>h x.1)]
theorem BK (k:Nat):ah.c1 k (p,v,ang,spin,mass,inertia,bounce,rub,l,asleep,calm,())=some (!decide (R1 p v ang spin)):=by
 unfold ah.c1 R1;dsimp only;rw [jO k p 58982400 (by decide) (by decide),bS,jO k v 268435456 (by decide) (by decide),iL,iL];have e1:(-58982400≤p.1∧p.1≤58982400∧-58982400≤p.2.1∧p.2.1≤58982400)=Bd p 58982400:=rfl;have e2:(-268435456≤v.1∧v.1≤268435456∧-268435456≤v.2.1∧v.2.1≤268435456)=Bd v 268435456:=rfl
 by_cases h1:Bd p 58982400 <;> by_cases h2:Bd v 268435456 <;> by_cases h3:(-16777216≤spin∧spin≤16777216) <;> by_cases h4:(0≤ang∧ang≤65535) <;>
  simp [e1,e2,h1,h2,h3,h4,aM,bB]
theorem By (k:Nat):ah.c2 k (p,v,ang,spin,mass,inertia,bounce,rub,l,asleep,calm,())=some (!decide (R2 mass inertia bounce rub calm)):=by
 unfold ah.c2 R2;dsimp only;rw [iL,bS,iL,iL,iL,iL]
 by_cases h1:(0≤mass∧mass≤1099511627776) <;> by_cases h2:(0≤inertia∧inertia≤1099511627776) <;> by_cases h3:(0≤bounce∧bounce≤65536) <;> by_cases h4:(0≤rub∧rub≤65536) <;> by_cases h5:(0≤calm∧calm≤1000) <;>
  simp [h1,h2,h3,h4,h5,aM,bB]
theorem AZ (k:Nat):∃ m:Bool,ah.c3 k (p,v,ang,spin,mass,inertia,bounce,rub,l,asleep,calm,())=some m∧(m=false↔v=(0,0,())∧spin=0):=by
 obtain ⟨a,b,_⟩:=v;unfold ah.c3;dsimp only
 by_cases ha:a=0
 ·rw [dR ha,bF]
  by_cases hb:b=0
  ·rw [dR hb,bF]
   refine ⟨_,rfl,?_⟩;unfold j8;rw [decide_eq_false_iff_not];subst ha hb;exact ⟨fun h=>⟨rfl,Classical.not_not.1 h⟩,fun h g=>g h.2⟩
  ·rw [gn hb,bT]
   exact ⟨true,rfl,fun h=>(by cases h),fun h=>absurd (congrArg (fun x:ay=>x.2.1) h.1) hb⟩
 ·rw [gn ha,bT]
  exact ⟨true,rfl,fun h=>(by cases h),fun h=>absurd (congrArg (fun x:ay=>x.1) h.1) ha⟩
theorem Aj {k:Nat} (hk:9≤k):∃ e,ah k (p,v,ang,spin,mass,inertia,bounce,rub,l,asleep,calm,())=some e∧Bc p v ang spin mass inertia bounce rub l asleep calm e:=by
 obtain ⟨s,e1,hs⟩:=tD hk l;unfold ah;dsimp only;rw [e1,bS]
 by_cases h0:s=0
 ·subst h0
  rw [dR rfl,bF,BK,bS]
  by_cases h1:R1 p v ang spin
  ·rw [decide_eq_true h1]
   show ∃ e,aM false _ _=some e∧_;rw [bF,By,bS]
   by_cases h2:R2 mass inertia bounce rub calm
   ·rw [decide_eq_true h2]
    show ∃ e,aM false _ _=some e∧_;obtain ⟨m,em,hm⟩:=AZ (p:=p) (v:=v) (ang:=ang) (spin:=spin) (mass:=mass) (inertia:=inertia) (bounce:=bounce) (rub:=rub) (l:=l) (asleep:=asleep) (calm:=calm) k;have m0:=h2.1.1;have n0:=h2.2.1.1;have c0:=h2.2.2.2.2.1;have no:¬ R3 v spin mass inertia asleep calm→∃ e,some 3=some e∧Bc p v ang spin mass inertia bounce rub l asleep calm e:=fun h=>⟨3,rfl,Or.inr (Or.inr (Or.inl ⟨hs,h1,h2,h,rfl⟩))⟩;have yes:R3 v spin mass inertia asleep calm→∃ e,some 0=some e∧Bc p v ang spin mass inertia bounce rub l asleep calm e:=fun h=>⟨0,rfl,Or.inr (Or.inr (Or.inr ⟨hs,h1,h2,h,rfl⟩))⟩;rw [bF,em,bS];unfold ah.c4 ah.c5 ah.c6 ah.c7;dsimp only;unfold R3 at no yes
    by_cases a:mass=0
    ·rw [fw a,bT,bS]
     by_cases b:inertia=0
     ·rw [gG (by omega),bF,gG (by omega),bF,bS,bF,bT]
      cases m with
      | true =>
       rw [bT,bS,bT];exact no fun h=>(by have:=hm.2 ⟨(h.2.1 a).1,(h.2.1 a).2.1⟩; cases this)
      | false =>
       have hv:=hm.1 rfl;rw [bF];cases asleep with
       | true =>
        rw [bT,bS,bT];exact no fun h=>(by have:=(h.2.1 a).2.2.1; cases this)
       | false =>
        rw [bF,bS]
        by_cases c:calm=0
        ·rw [gG (by omega),bF,bF,bS,bF]
         exact yes ⟨⟨fun _=>b,fun _=>a⟩,fun _=>⟨hv.1,hv.2,rfl,c⟩,fun h=>(by cases h)⟩
        ·rw [gM (by omega),bT]
         exact no fun h=>c (h.2.1 a).2.2.2
     ·rw [gM (by omega),bT,bS,bT]
      exact no fun h=>b (h.1.1 a)
    ·rw [fl a,bF,bS,bF,gM (by omega),bT,bS]
     by_cases b:inertia=0
     ·rw [fw b,bT]
      exact no fun h=>a (h.1.2 b)
     ·rw [fl b,bF,bF,bS,bF]
      cases asleep with
      | false =>
       rw [bF,bS,bF];exact yes ⟨⟨fun h=>absurd h a,fun h=>absurd h b⟩,fun h=>absurd h a,fun h=>(by cases h)⟩
      | true =>
       rw [bT,bS];cases m with
       | true =>
        rw [bT];exact no fun h=>(by have:=hm.2 (h.2.2 rfl); cases this)
       | false =>
        rw [bF];exact yes ⟨⟨fun h=>absurd h a,fun h=>absurd h b⟩,fun h=>absurd h a,fun _=>hm.1 rfl⟩
   ·rw [decide_eq_false h2]
    show ∃ e,aM true _ _=some e∧_;rw [bT];exact ⟨1,rfl,Or.inr (Or.inl ⟨hs,fun h=>h2 h.2,rfl⟩)⟩
  ·rw [decide_eq_false h1]
   show ∃ e,aM true _ _=some e∧_;rw [bT];exact ⟨1,rfl,Or.inr (Or.inl ⟨hs,fun h=>h1 h.1,rfl⟩)⟩
 ·rw [gn h0,bT]
  exact ⟨s,rfl,Or.inl ⟨hs,h0⟩⟩
end
end Go.Proofs.T1
