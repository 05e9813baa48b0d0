import Derived.Test.YteibepmkkplpeaaGreatPlMid
import Derived.Test.YteibepmkkplpeaaGreatG5
import Derived.Test.YteibepmkkplpeaaGreatG6
import Derived.Test.YteibepmkkplpeaaGreatG17
namespace Go.Proofs.T1
open Go Go.Sx
theorem Ai (a b:bm):Ty.l5 bN a b=decide (a=b):=by
 obtain ⟨a1,a2,u⟩:=a;obtain ⟨b1,b2,u'⟩:=b;show (gK a1 b1 && (gK a2 b2 && true))=_
 by_cases h1:a1=b1
 ·by_cases h2:a2=b2
  ·rw [gB h1,gB h2]; subst h1 h2; exact (decide_eq_true rfl).symm
  ·rw [gB h1,gY h2]; exact (decide_eq_false (fun h=>h2 (congrArg (fun v=>v.2.1) h))).symm
 ·rw [gY h1]; exact (decide_eq_false (fun h=>h1 (congrArg Prod.fst h))).symm
end Go.Proofs.T1
namespace Go.Proofs.T1
open Go Go.Sx
def dY (a c:bm):bm:=(a.1 - c.1,a.2.1 - c.2.1,())
def qe (l:List bm):Prop:=∀ i,0≤i→i<len l→-2097152≤(q l i).1∧(q l i).1≤2097152∧-2097152≤(q l i).2.1∧(q l i).2.1≤2097152
end Go.Proofs.T1
namespace Go.Proofs.T1
open Go Go.Sx
theorem kQ (k:Nat) (a:bm) {m:Int} (h0:0≤m) (h1:m≤9223372036854775807):dU k a m=some (decide (-m≤a.1∧a.1≤m∧-m≤a.2.1∧a.2.1≤m)):=gR k a m h0 h1
end Go.Proofs.T1
namespace Go.Proofs.T1
open Go Go.Sx
end Go.Proofs.T1
namespace Go.Proofs.T1
open Go Go.Sx
def sz (v:bm):Int:=qA v.1+qA v.2.1
def vl (l:List bm):Prop:=∀ i j,0≤i→i<len l→0≤j→j<len l→j≠i→j≠nx (len l) i→8*(sz (dY (q l (nx (len l) i)) (q l i))+sz (dY (q l j) (q l i)))≤gr (q l i) (q l (nx (len l) i)) (q l j)
theorem jJ {x:Int} (h0:-1000000000000≤x) (h1:x≤1000000000000):imax x (fV .i64 x)=qA x:=by
 have n1:fV .i64 x=-x:=by unfold fV; rw [wrap_i64 (by omega) (by omega)]; omega
 rw [n1];unfold imax qA;split <;> split <;> omega
theorem mf {x M:Int} (h0:-M≤x) (h1:x≤M):0≤qA x∧qA x≤M:=by unfold qA; split <;> omega
theorem rB (k:Nat) {v:bm} {M:Int} (hM:M≤1000000000) (h:-M≤v.1∧v.1≤M∧-M≤v.2.1∧v.2.1≤M):eK k v=some (sz v)∧0≤sz v∧sz v≤2*M:=by
 have a1:=mf h.1 h.2.1;have a2:=mf h.2.2.1 h.2.2.2;unfold eK sz;rw [jJ (by omega) (by omega),jJ (by omega) (by omega),cA (by omega) (by omega)];exact ⟨rfl,by omega,by omega⟩
theorem tC (k:Nat) {l:List bm} (h8:len l≤8) (hr:qe l) {i j:Int} (i0:0≤i) (i1:i<len l) (j0:0≤j) (j1:j<len l) :
  aX.c3 k l i j=some (decide (j≠i∧j≠nx (len l) i∧gr (q l i) (q l (nx (len l) i)) (q l j)<8*(sz (dY (q l (nx (len l) i)) (q l i))+sz (dY (q l j) (q l i))))):=by
 have hn:=gU i0 i1;have hi:=hr i i0 i1;have hj:=hr j j0 j1;have hx:=hr _ hn.1 hn.2;unfold aX.c3
 by_cases a:j=i
 ·rw [eu a,bF,decide_eq_false (fun h=>h.1 a)]
 rw [fw a,bT,rP (show nz (len l) by unfold nz; omega),ja i0 i1 (by omega)]
 by_cases b:j=nx (len l) i
 ·rw [eu b,bF,decide_eq_false (fun h=>h.2.1 b)]
 rw [fw b,bT];have hq1:el ea l i=q l i:=rfl;have hq2:el ea l (nx (len l) i)=q l (nx (len l) i):=rfl;have hq3:el ea l j=q l j:=rfl;rw [hq1,hq2,hq3];have s1:cE .i64 (q l (nx (len l) i)).1 (q l i).1=(q l (nx (len l) i)).1 - (q l i).1:=fp (by omega) (by omega);have s2:cE .i64 (q l (nx (len l) i)).2.1 (q l i).2.1=(q l (nx (len l) i)).2.1 - (q l i).2.1:=fp (by omega) (by omega);have s3:cE .i64 (q l j).1 (q l i).1=(q l j).1 - (q l i).1:=fp (by omega) (by omega);have s4:cE .i64 (q l j).2.1 (q l i).2.1=(q l j).2.1 - (q l i).2.1:=fp (by omega) (by omega);rw [s1,s2,s3,s4];obtain ⟨e1,u0,u1⟩:=rB k (v:=dY (q l (nx (len l) i)) (q l i)) (M:=4194304) (by decide) (by unfold dY; dsimp only; omega);obtain ⟨e2,w0,w1⟩:=rB k (v:=dY (q l j) (q l i)) (M:=4194304) (by decide) (by unfold dY; dsimp only; omega);have e1':eK k ((q l (nx (len l) i)).1 - (q l i).1,(q l (nx (len l) i)).2.1 - (q l i).2.1,())=some (sz (dY (q l (nx (len l) i)) (q l i))):=e1;have e2':eK k ((q l j).1 - (q l i).1,(q l j).2.1 - (q l i).2.1,())=some (sz (dY (q l j) (q l i))):=e2;have p1:=ki (x:=(q l (nx (len l) i)).1 - (q l i).1) (y:=(q l j).2.1 - (q l i).2.1) (M:=4194304) (N:=4194304) (by omega) (by omega) (by omega) (by omega);have p2:=ki (x:=(q l (nx (len l) i)).2.1 - (q l i).2.1) (y:=(q l j).1 - (q l i).1) (M:=4194304) (N:=4194304) (by omega) (by omega) (by omega) (by omega);rw [e1',bS,e2',bS,ji (x:=(q l (nx (len l) i)).1 - (q l i).1) (by omega) (by omega),ji (x:=(q l (nx (len l) i)).2.1 - (q l i).2.1) (by omega) (by omega),fp (by omega) (by omega),cA (by omega) (by omega),ji (by omega) (by omega)];unfold eC;congr 1;rw [decide_eq_decide];exact ⟨fun h=>⟨a,b,h⟩,fun h=>h.2.2⟩
open Classical in
theorem yu {k:Nat} (hk:9≤k) {l:List bm} (h3:3≤len l) (h8:len l≤8) (hr:qe l):aX k l=some (decide (vl l)):=by
 have c2:∀ i,0≤i→i<len l→(aX.c2 k l i k 0=some (.inl ())∧∃ j,0≤j∧j<len l∧(j≠i∧j≠nx (len l) i∧gr (q l i) (q l (nx (len l) i)) (q l j)<8*(sz (dY (q l (nx (len l) i)) (q l i))+sz (dY (q l j) (q l i))))) ∨
   (aX.c2 k l i k 0=some (.inr ())∧∀ j,0≤j→j<len l→¬ (j≠i∧j≠nx (len l) i∧gr (q l i) (q l (nx (len l) i)) (q l j)<8*(sz (dY (q l (nx (len l) i)) (q l i))+sz (dY (q l j) (q l i))))):=by
  intro i i0 i1;have H:=fZ (fun n v=>aX.c2 k l i n v) 0 (len l) (fun j=>j≠i∧j≠nx (len l) i∧gr (q l i) (q l (nx (len l) i)) (q l j)<8*(sz (dY (q l (nx (len l) i)) (q l i))+sz (dY (q l j) (q l i)))) (fun _=>())
   (by
    intro n v a b c;show aX.c2 k l i (n+1) v=_
    rw [aX.c2,cI b,bT,rP (cF a b),tC k h8 hr i0 i1 a b,bS,decide_eq_true c,bT])
   (by
    intro n v a b c;show aX.c2 k l i (n+1) v=aX.c2 k l i n (v+1)
    rw [aX.c2,cI b,bT,rP (cF a b),tC k h8 hr i0 i1 a b,bS,decide_eq_false c,bF,cA (by omega) (by omega)])
   (by
    intro n v a b;show aX.c2 k l i (n+1) v=_
    rw [aX.c2,db b,bF])
   k 0 (by omega) (by omega)
  rcases H with ⟨j,a,b,c,_,e⟩ | ⟨a,e⟩
  ·exact Or.inl ⟨e,j,a,b,c⟩
  ·exact Or.inr ⟨e (by omega),a⟩
 have H:=fZ (fun n v=>aX.c1 k l n v) 0 (len l) (fun i=>∃ j,0≤j∧j<len l∧(j≠i∧j≠nx (len l) i∧gr (q l i) (q l (nx (len l) i)) (q l j)<8*(sz (dY (q l (nx (len l) i)) (q l i))+sz (dY (q l j) (q l i))))) (fun _=>())
  (by
   intro n v a b c;show aX.c1 k l (n+1) v=_;have hn:=gU a b;rw [aX.c1,cI b,bT,rP (cF a b),rP (show nz (len l) by unfold nz; omega),ja a b (by omega),rP (cF hn.1 hn.2)];rcases c2 v a b with ⟨e,_⟩ | ⟨_,e⟩
   ·rw [e,bS,fz]
   ·obtain ⟨j,x,y,z⟩:=c
    exact absurd z (e j x y))
  (by
   intro n v a b c;show aX.c1 k l (n+1) v=aX.c1 k l n (v+1);have hn:=gU a b;rw [aX.c1,cI b,bT,rP (cF a b),rP (show nz (len l) by unfold nz; omega),ja a b (by omega),rP (cF hn.1 hn.2)];rcases c2 v a b with ⟨_,e⟩ | ⟨e,_⟩
   ·exact absurd e c
   ·rw [e,bS,fQ,cA (by omega) (by omega)])
  (by
   intro n v a b;show aX.c1 k l (n+1) v=_
   rw [aX.c1,db b,bF])
  k 0 (by omega) (by omega)
 unfold aX;rcases H with ⟨i,a,b,⟨j,c,d,f⟩,_,e⟩ | ⟨a,e⟩
 ·have e:aX.c1 k l k 0=some (.inl ()):=e
  rw [e,bS,fz,decide_eq_false];intro h;have:=h i j a b c d f.1 f.2.1;omega
 ·have e:aX.c1 k l k 0=some (.inr ()):=e (by omega)
  rw [e,bS,fQ,decide_eq_true];intro i j i0 i1 j0 j1 h1 h2;have:=a i i0 i1;rcases Int.lt_or_le (gr (q l i) (q l (nx (len l) i)) (q l j)) (8*(sz (dY (q l (nx (len l) i)) (q l i))+sz (dY (q l j) (q l i)))) with g | g
  ·exact absurd ⟨j,j0,j1,h1,h2,g⟩ this
  ·exact g
def vI (l:List bm) (e:Int):Prop :=
 (xE l e∧e≠0)∨(xF l∧¬ qe l∧e=1)∨(xF l∧qe l∧¬ (vl l∧yq l ea)∧e=3)∨(xF l∧qe l∧vl l∧yq l ea∧e=0)
theorem rY {l:List bm} {e f:Int} (h:vI l e) (g:vI l f):e=f:=by
 have key:∀ {x y:Int},xE l x→x≠0→xF l→False:=fun hx h0 hv=>h0 (nP hx (tL hv));rcases h with ⟨a,b⟩ | ⟨a,b,c⟩ | ⟨a,b,c,d⟩ | ⟨a,b,c,d,e'⟩ <;> rcases g with ⟨x,y⟩ | ⟨x,y,z⟩ | ⟨x,y,z,w⟩ | ⟨x,y,z,w,u⟩
 ·exact nP a x
 ·exact (key (y:=0) a b x).elim
 ·exact (key (y:=0) a b x).elim
 ·exact (key (y:=0) a b x).elim
 ·exact (key (y:=0) x y a).elim
 ·rw [c,z]
 ·exact absurd y b
 ·exact absurd y b
 ·exact (key (y:=0) x y a).elim
 ·exact absurd b y
 ·rw [d,w]
 ·exact absurd ⟨z,w⟩ c
 ·exact (key (y:=0) x y a).elim
 ·exact absurd b y
 ·exact absurd ⟨c,d⟩ z
 ·rw [e',u]
open Classical in
theorem um {k:Nat} (hk:9≤k) (l:List bm):∃ e,cy k l=some e∧vI l e:=by
 obtain ⟨c,e1,c1⟩:=qG hk l;unfold cy;rw [e1,bS]
 by_cases hc:c=0
 ·subst hc
  have hv:=qS c1;have h8:=hv.2.1;rw [eu rfl,bF];have hf:∀ x:bm,(fun x:(bm × Unit)=>dN k (x.1)) (x,())=some (!decide (-2097152≤x.1∧x.1≤2097152∧-2097152≤x.2.1∧x.2.1≤2097152)):=by
   intro x;show dN k x=_;unfold dN;rw [kQ k x (by decide) (by decide),bS]
  rcases mS (l:=l) (k:=k) (f:=fun x:(bm × Unit)=>dN k (x.1)) (by omega) (by omega) (g:=fun x=>!decide (-2097152≤x.1∧x.1≤2097152∧-2097152≤x.2.1∧x.2.1≤2097152)) hf with ⟨g,i,i0,i1,i2⟩ | ⟨g,g2⟩
  ·rw [g,bS,bT]
   refine ⟨1,rfl,Or.inr (Or.inl ⟨hv,fun h=>?_,rfl⟩)⟩;have:=h i i0 i1;simp [this] at i2
  ·have hr:qe l:=by
    intro i i0 i1;have:=g2 i i0 i1
    simpa using this
   rw [g,bS,bF];unfold cy.c1;rw [yu hk hv.1 h8 hr,bS]
   by_cases hF:vl l
   ·rw [decide_eq_true hF,bT,x8 hk hv,bS,bS]
    by_cases hI:yq l ea
    ·have:(Wn (0,0,())∧yq l (0,0,())):=⟨by decide,hI⟩
     rw [decide_eq_true this];exact ⟨0,rfl,Or.inr (Or.inr (Or.inr ⟨hv,hr,hF,hI,rfl⟩))⟩
    ·have:¬ (Wn (0,0,())∧yq l (0,0,())):=fun h=>hI h.2
     rw [decide_eq_false this];exact ⟨3,rfl,Or.inr (Or.inr (Or.inl ⟨hv,hr,fun h=>hI h.2,rfl⟩))⟩
   ·rw [decide_eq_false hF,bF,bS,bT]
    exact ⟨3,rfl,Or.inr (Or.inr (Or.inl ⟨hv,hr,fun h=>hF h.1,rfl⟩))⟩
 ·rw [fw hc,bT]
  exact ⟨c,rfl,Or.inl ⟨c1,hc⟩⟩
end Go.Proofs.T1
namespace Go.Proofs.T1
open Go Go.Sx
def Bd (a:bm) (m:Int):Prop:=-m≤a.1∧a.1≤m∧-m≤a.2.1∧a.2.1≤m
instance (a:bm) (m:Int):Decidable (Bd a m):=by unfold Bd; infer_instance
def R1 (p v:bm) (ang spin:Int):Prop:=Bd p 58982400∧Bd v 268435456∧(-16777216≤spin∧spin≤16777216)∧(0≤ang∧ang≤65535)
def R2 (mass inertia bounce rub calm:Int):Prop:=(0≤mass∧mass≤1099511627776)∧(0≤inertia∧inertia≤1099511627776)∧(0≤bounce∧bounce≤65536)∧(0≤rub∧rub≤65536)∧(0≤calm∧calm≤1000)
def R3 (v:bm) (spin mass inertia:Int) (asleep:Bool) (calm:Int):Prop:=(mass=0↔inertia=0)∧(mass=0→v=(0,0,())∧spin=0∧asleep=false∧calm=0)∧(asleep=true→v=(0,0,())∧spin=0)
instance (p v:bm) (ang spin:Int):Decidable (R1 p v ang spin):=by unfold R1; infer_instance
instance (a b c d e:Int):Decidable (R2 a b c d e):=by unfold R2; infer_instance
def Bc (p v:bm) (ang spin mass inertia bounce rub:Int) (l:List bm) (asleep:Bool) (calm:Int) (e:Int):Prop :=
 (vI l e∧e≠0)∨(vI l 0∧¬ (R1 p v ang spin∧R2 mass inertia bounce rub calm)∧e=1)∨(vI l 0∧R1 p v ang spin∧R2 mass inertia bounce rub calm∧¬ R3 v spin mass inertia asleep calm∧e=3) ∨
 (vI l 0∧R1 p v ang spin∧R2 mass inertia bounce rub calm∧R3 v spin mass inertia asleep calm∧e=0)
section
variable {p v:bm} {ang spin mass inertia bounce rub:Int} {l:List bm} {asleep:Bool} {calm:Int}
theorem yr {e f:Int} (h:Bc p v ang spin mass inertia bounce rub l asleep calm e) (g:Bc p v ang spin mass inertia bounce rub l asleep calm f):e=f:=by
 have key:∀ {x:Int},vI l x→x≠0→vI l 0→False:=fun hx h0 hz=>h0 (rY hx hz);rcases h with ⟨a,b⟩ | ⟨a,b,c⟩ | ⟨a,b,c,d,e'⟩ | ⟨a,b,c,d,e'⟩ <;> rcases g with ⟨x,y⟩ | ⟨x,y,z⟩ | ⟨x,y,z,w,u⟩ | ⟨x,y,z,w,u⟩
 ·exact rY a x
 ·exact (key a b x).elim
 ·exact (key a b x).elim
 ·exact (key a b x).elim
 ·exact (key x y a).elim
 ·rw [c,z]
 ·exact absurd ⟨y,z⟩ b
 ·exact absurd ⟨y,z⟩ b
 ·exact (key x y a).elim
 ·exact absurd ⟨b,c⟩ y
 ·rw [e',u]
 ·exact absurd w d
 ·exact (key x y a).elim
 ·exact absurd ⟨b,c⟩ y
 ·exact absurd d w
 ·rw [e',u]
theorem j4 (k:Nat) (n a b:Int):de k n a b=some (decide (a≤n∧n≤b)):=by
 unfold de
 by_cases h:n ≥ a
 ·rw [ij h,bT]
  unfold jf;congr 1;rw [decide_eq_decide];exact ⟨fun x=>⟨h,x⟩,fun x=>x.2⟩
 ·rw [gL (by omega),bF,decide_eq_false (fun x=>h x.1)]
theorem vq (k:Nat):ah.c1 k (p,v,ang,spin,mass,inertia,bounce,rub,l,asleep,calm,())=some (!decide (R1 p v ang spin)):=by
 unfold ah.c1 R1;dsimp only;rw [kQ k p (by decide) (by decide),bS,kQ k v (by decide) (by decide),j4,j4];have e1:(-58982400≤p.1∧p.1≤58982400∧-58982400≤p.2.1∧p.2.1≤58982400)=Bd p 58982400:=rfl;have e2:(-268435456≤v.1∧v.1≤268435456∧-268435456≤v.2.1∧v.2.1≤268435456)=Bd v 268435456:=rfl
 by_cases h1:Bd p 58982400 <;> by_cases h2:Bd v 268435456 <;> by_cases h3:(-16777216≤spin∧spin≤16777216) <;> by_cases h4:(0≤ang∧ang≤65535) <;>
  simp [e1,e2,h1,h2,h3,h4,aP,bq]
theorem vm (k:Nat):ah.c2 k (p,v,ang,spin,mass,inertia,bounce,rub,l,asleep,calm,())=some (!decide (R2 mass inertia bounce rub calm)):=by
 unfold ah.c2 R2;dsimp only;rw [j4,j4,j4,j4,j4]
 by_cases h1:(0≤mass∧mass≤1099511627776) <;> by_cases h2:(0≤inertia∧inertia≤1099511627776) <;> by_cases h3:(0≤bounce∧bounce≤65536) <;> by_cases h4:(0≤rub∧rub≤65536) <;> by_cases h5:(0≤calm∧calm≤1000) <;>
  simp [h1,h2,h3,h4,h5,aP,bq]
theorem uk (k:Nat):ah.c3 k (p,v,ang,spin,mass,inertia,bounce,rub,l,asleep,calm,())=some (decide (v=(0,0,())∧spin=0)):=by
 unfold ah.c3;dsimp only;refine (congrArg (fun b=>aP b (some (gK spin 0)) (some false)) (Ai v (0,0,()))).trans ?_
 by_cases a:v=(0,0,())
 ·rw [decide_eq_true a,bT]
  unfold gK;congr 1;rw [decide_eq_decide];exact ⟨fun h=>⟨a,h⟩,fun h=>h.2⟩
 ·rw [decide_eq_false a,bF,decide_eq_false (fun h=>a h.1)]
open Classical in
theorem vb (k:Nat) {st:Bool} (hst:st=decide (v=(0,0,())∧spin=0)):ah.c4 k (p,v,ang,spin,mass,inertia,bounce,rub,l,asleep,calm,()) st=some (decide (¬ R3 v spin mass inertia asleep calm)):=by
 have hs:st=true↔(v=(0,0,())∧spin=0):=by rw [hst]; exact decide_eq_true_iff
 have out:∀ {b:Bool},(b=true↔¬ R3 v spin mass inertia asleep calm)→some b=some (decide (¬ R3 v spin mass inertia asleep calm)):=by
  intro b hb;congr 1
  by_cases h:¬ R3 v spin mass inertia asleep calm
  ·rw [decide_eq_true h]; exact hb.2 h
  ·rw [decide_eq_false h]
   cases b
   ·rfl
   ·exact absurd (hb.1 rfl) h
 unfold ah.c4;dsimp only;have hq:Ty.l5 T4 (gK mass (0:Int)) (gK inertia (0:Int))=(gK mass 0 == gK inertia 0):=rfl;refine (congrArg (fun b=>aP b _ (some true)) hq).trans ?_
 unfold R3 at out ⊢
 by_cases a:mass=0 <;> by_cases b:inertia=0
 ·rw [gB a,gB b]
  show aP true _ _=_;rw [bT,bT];cases st with
  | false =>
   rw [bF];exact out ⟨fun _ h=>(by have:=hs.2 ⟨(h.2.1 a).1,(h.2.1 a).2.1⟩; cases this),fun _=>rfl⟩
  | true =>
   rw [bT];have hv:=hs.1 rfl;cases asleep with
   | true =>
    rw [bT];exact out ⟨fun _ h=>(by have:=(h.2.1 a).2.2.1; cases this),fun _=>rfl⟩
   | false =>
    rw [bF]
    by_cases c:calm=0
    ·rw [eu c,bF]
     exact out ⟨fun h=>absurd h Bool.false_ne_true,fun h=>absurd ⟨⟨fun _=>b,fun _=>a⟩,fun _=>⟨hv.1,hv.2,rfl,c⟩,fun h=>by cases h⟩ h⟩
    ·rw [fw c,bT]
     exact out ⟨fun _ h=>c (h.2.1 a).2.2.2,fun _=>rfl⟩
 ·rw [gB a,gY b]
  exact out ⟨fun _ h=>b (h.1.1 a),fun _=>rfl⟩
 ·rw [gY a,gB b]
  exact out ⟨fun _ h=>a (h.1.2 b),fun _=>rfl⟩
 ·rw [gY a,gY b]
  show aP true _ _=_;rw [bT,bF];cases asleep with
  | false =>
   rw [bF];exact out ⟨fun h=>absurd h Bool.false_ne_true,fun h=>absurd ⟨⟨fun h=>absurd h a,fun h=>absurd h b⟩,fun h=>absurd h a,fun h=>by cases h⟩ h⟩
  | true =>
   rw [bT];cases st with
   | true=>exact out ⟨fun h=>absurd h Bool.false_ne_true,fun h=>absurd ⟨⟨fun h=>absurd h a,fun h=>absurd h b⟩,fun h=>absurd h a,fun _=>hs.1 rfl⟩ h⟩
   | false=>exact out ⟨fun _ h=>(by have:=hs.2 (h.2.2 rfl); cases this),fun _=>rfl⟩
open Classical in
theorem kK {k:Nat} (hk:9≤k):∃ e,ah k (p,v,ang,spin,mass,inertia,bounce,rub,l,asleep,calm,())=some e∧Bc p v ang spin mass inertia bounce rub l asleep calm e:=by
 obtain ⟨s,e1,hs⟩:=um hk l;unfold ah;dsimp only;rw [e1,bS]
 by_cases h0:s=0
 ·subst h0
  rw [eu rfl,bF,vq,bS]
  by_cases h1:R1 p v ang spin
  ·rw [decide_eq_true h1]
   show ∃ e,aP false _ _=some e∧_;rw [bF,vm,bS]
   by_cases h2:R2 mass inertia bounce rub calm
   ·rw [decide_eq_true h2]
    show ∃ e,aP false _ _=some e∧_;rw [bF,uk,bS,vb k rfl,bS]
    by_cases h3:R3 v spin mass inertia asleep calm
    ·rw [decide_eq_false (fun h=>h h3),bF]
     exact ⟨0,rfl,Or.inr (Or.inr (Or.inr ⟨hs,h1,h2,h3,rfl⟩))⟩
    ·rw [decide_eq_true h3,bT]
     exact ⟨3,rfl,Or.inr (Or.inr (Or.inl ⟨hs,h1,h2,h3,rfl⟩))⟩
   ·rw [decide_eq_false h2]
    show ∃ e,aP true _ _=some e∧_;rw [bT];exact ⟨1,rfl,Or.inr (Or.inl ⟨hs,fun h=>h2 h.2,rfl⟩)⟩
  ·rw [decide_eq_false h1]
   show ∃ e,aP true _ _=some e∧_;rw [bT];exact ⟨1,rfl,Or.inr (Or.inl ⟨hs,fun h=>h1 h.1,rfl⟩)⟩
 ·rw [fw h0,bT]
  exact ⟨s,rfl,Or.inl ⟨hs,h0⟩⟩
end
end Go.Proofs.T1
namespace Go.Proofs.T1
open Go Go.Sx
def jj (n i v:Int):Int:=if i+v<n then i+v else i+v - n
theorem yF {n i v:Int} (i0:0≤i) (i1:i<n) (v0:0≤v) (v1:v<n) (h:n≤1000):fM (aw .i64 i v) n=jj n i v:=by
 rw [cA (by omega) (by omega)];unfold fM jj;rw [Int.tmod_eq_emod_of_nonneg (by omega)];split
 ·exact Int.emod_eq_of_lt (by omega) (by omega)
 ·have e:i+v=(i+v - n)+n*1:=by omega
  rw [e,Int.add_mul_emod_self_left,Int.emod_eq_of_lt (by omega) (by omega)];omega
theorem sc {n i v:Int} (i0:0≤i) (i1:i<n) (v0:0≤v) (v1:v<n):0≤jj n i v∧jj n i v<n:=by unfold jj; split <;> omega
theorem mY {k:Nat} (hk:9≤k) {l:List bm} (h8:len l≤8) (hr:qe l) {i:Int} (i0:0≤i) (i1:i<len l) {n:Nat} {v:Int} (v0:2≤v) (v1:v<len l) :
  az.c3 k l i (dY (q l (nx (len l) i)) (q l i)) (n+1) v=aP (decide (gr (q l i) (q l (nx (len l) i)) (q l (jj (len l) i v))<8*(sz (dY (q l (nx (len l) i)) (q l i))+sz (dY (q l (jj (len l) i v)) (q l i))))) (some (.inl ())) (az.c3 k l i (dY (q l (nx (len l) i)) (q l i)) n (v+1)):=by
 have hn:=gU i0 i1;have hj:=sc (v:=v) i0 i1 (by omega) v1;have wi:=hr i i0 i1;have wj:=hr _ hj.1 hj.2;have wx:=hr _ hn.1 hn.2;rw [az.c3,cI v1,bT,rP (show nz (len l) by unfold nz; omega),yF i0 i1 (by omega) v1 (by omega),rP (cF hj.1 hj.2)];have hq1:el ea l i=q l i:=rfl;have hq2:el ea l (jj (len l) i v)=q l (jj (len l) i v):=rfl;rw [hq1,hq2];generalize q l i=a at *
 generalize q l (nx (len l) i)=b at *
 generalize q l (jj (len l) i v)=c at *
 have es:fy k c a=some (dY c a):=by
  unfold fy;rw [fp (by omega) (by omega),fp (by omega) (by omega)];rfl
 have p1:=ki (x:=b.1 - a.1) (y:=c.2.1 - a.2.1) (M:=4194304) (N:=4194304) (by omega) (by omega) (by omega) (by omega);have p2:=ki (x:=b.2.1 - a.2.1) (y:=c.1 - a.1) (M:=4194304) (N:=4194304) (by omega) (by omega) (by omega) (by omega);obtain ⟨x,ex,rx⟩:=xg hk (a:=dY b a) (b:=dY c a) (by unfold vB dY; dsimp only; omega) (by unfold vB dY; dsimp only; omega) (by unfold vB dY; dsimp only; omega) (by unfold vB dY; dsimp only; omega);have m1:imax (dY b a).1 (fV .i64 (dY b a).1)=qA (dY b a).1:=jJ (by unfold dY; dsimp only; omega) (by unfold dY; dsimp only; omega);have m2:imax (dY b a).2.1 (fV .i64 (dY b a).2.1)=qA (dY b a).2.1:=jJ (by unfold dY; dsimp only; omega) (by unfold dY; dsimp only; omega);have m3:imax (dY c a).1 (fV .i64 (dY c a).1)=qA (dY c a).1:=jJ (by unfold dY; dsimp only; omega) (by unfold dY; dsimp only; omega);have m4:imax (dY c a).2.1 (fV .i64 (dY c a).2.1)=qA (dY c a).2.1:=jJ (by unfold dY; dsimp only; omega) (by unfold dY; dsimp only; omega);have b1:=mf (x:=(dY b a).1) (M:=4194304) (by unfold dY; dsimp only; omega) (by unfold dY; dsimp only; omega);have b2:=mf (x:=(dY b a).2.1) (M:=4194304) (by unfold dY; dsimp only; omega) (by unfold dY; dsimp only; omega);have b3:=mf (x:=(dY c a).1) (M:=4194304) (by unfold dY; dsimp only; omega) (by unfold dY; dsimp only; omega);have b4:=mf (x:=(dY c a).2.1) (M:=4194304) (by unfold dY; dsimp only; omega) (by unfold dY; dsimp only; omega);have so:bQ .i64 8 (aw .i64 (aw .i64 (aw .i64 (qA (dY b a).1) (qA (dY b a).2.1)) (qA (dY c a).1)) (qA (dY c a).2.1))=8*(sz (dY b a)+sz (dY c a)):=by
  rw [cA (x:=qA (dY b a).1) (by omega) (by omega),cA (x:=qA (dY b a).1+qA (dY b a).2.1) (by omega) (by omega),cA (by omega) (by omega),ji (by omega) (by omega)];unfold sz;omega
 have sb:0≤sz (dY b a)+sz (dY c a)∧sz (dY b a)+sz (dY c a)≤16777216:=by unfold sz; omega
 obtain ⟨y,ey,ry⟩:=zO hk (n:=8*(sz (dY b a)+sz (dY c a))) (by omega) (by omega);have et:(dY b a).1*(dY c a).2.1 - (dY b a).2.1*(dY c a).1=gr a b c:=rfl;rw [et] at rx;have tb:-35184372088832≤gr a b c∧gr a b c≤35184372088832:=by unfold gr; omega
 rw [es,bS,ex,bS,m1,m2,m3,m4,so,ey,bS,Ad hk rx ry (by unfold SR; omega) (by unfold SR; omega),bS,cA (by omega) (by omega)];congr 1;unfold eC lL;refine decide_eq_decide.2 ?_
 split
 ·exact ⟨fun _=>by assumption,fun _=>by decide⟩
 ·split
  ·exact ⟨fun h=>absurd h (by decide),fun h=>by omega⟩
  ·exact ⟨fun h=>absurd h (by decide),fun h=>by omega⟩
open Classical in
theorem ql {k:Nat} (hk:9≤k) (l:List bm):∃ e,az k l=some e∧vI l e:=by
 obtain ⟨c,e1,c1⟩:=ya hk l;unfold az;rw [e1,bS]
 by_cases hc:c=0
 ·subst hc
  have hv:=qS c1;have h3:=hv.1;have h8:=hv.2.1;rw [eu rfl,bF];rcases fZ (fun n v=>az.c1 k l n v) 0 (len l) (fun i=>¬ (-2097152≤(q l i).1∧(q l i).1≤2097152∧-2097152≤(q l i).2.1∧(q l i).2.1≤2097152)) (fun _=>())
   (by
    intro n v a b p;show az.c1 k l (n+1) v=_;rw [az.c1,cI b,bT,rP (cF a b),gR k _ _ (by decide) (by decide),bS];show aP (decide (-2097152≤(q l v).1∧(q l v).1≤2097152∧-2097152≤(q l v).2.1∧(q l v).2.1≤2097152)) _ _=_
    rw [decide_eq_false p,bF])
   (by
    intro n v a b p;show az.c1 k l (n+1) v=az.c1 k l n (v+1);rw [az.c1,cI b,bT,rP (cF a b),gR k _ _ (by decide) (by decide),bS];show aP (decide (-2097152≤(q l v).1∧(q l v).1≤2097152∧-2097152≤(q l v).2.1∧(q l v).2.1≤2097152)) _ _=_
    rw [decide_eq_true (Classical.not_not.1 p),bT,cA (by omega) (by omega)])
   (by
    intro n v a b;show az.c1 k l (n+1) v=_
    rw [az.c1,db b,bF]) k 0 (by omega) (by omega) with ⟨j,a,b,p,_,e⟩ | ⟨a,e⟩
  ·have e:az.c1 k l k 0=some (.inl ()):=e
   rw [e,bS,fz];exact ⟨1,rfl,Or.inr (Or.inl ⟨hv,fun h=>p (h j a b),rfl⟩)⟩
  ·have e:az.c1 k l k 0=some (.inr ()):=e (by omega)
   have hr:qe l:=fun i i0 i1=>Classical.not_not.1 (a i i0 i1);rw [e,bS,fQ];have C3:∀ i,0≤i→i<len l→(az.c3 k l i (dY (q l (nx (len l) i)) (q l i)) k 2=some (.inl ())∧∃ v,2≤v∧v<len l∧gr (q l i) (q l (nx (len l) i)) (q l (jj (len l) i v))<8*(sz (dY (q l (nx (len l) i)) (q l i))+sz (dY (q l (jj (len l) i v)) (q l i)))) ∨
     (az.c3 k l i (dY (q l (nx (len l) i)) (q l i)) k 2=some (.inr ())∧∀ v,2≤v→v<len l→¬ gr (q l i) (q l (nx (len l) i)) (q l (jj (len l) i v))<8*(sz (dY (q l (nx (len l) i)) (q l i))+sz (dY (q l (jj (len l) i v)) (q l i)))):=by
    intro i i0 i1;rcases fZ (fun n v=>az.c3 k l i (dY (q l (nx (len l) i)) (q l i)) n v) 2 (len l) (fun v=>gr (q l i) (q l (nx (len l) i)) (q l (jj (len l) i v))<8*(sz (dY (q l (nx (len l) i)) (q l i))+sz (dY (q l (jj (len l) i v)) (q l i)))) (fun _=>())
     (by
      intro n v a b p;show az.c3 k l i (dY (q l (nx (len l) i)) (q l i)) (n+1) v=_
      rw [mY hk h8 hr i0 i1 a b,decide_eq_true p,bT])
     (by
      intro n v a b p;show az.c3 k l i (dY (q l (nx (len l) i)) (q l i)) (n+1) v=_
      rw [mY hk h8 hr i0 i1 a b,decide_eq_false p,bF])
     (by
      intro n v a b;show az.c3 k l i (dY (q l (nx (len l) i)) (q l i)) (n+1) v=_
      rw [az.c3,db b,bF]) k 2 (by omega) (by omega) with ⟨j,a,b,p,_,e⟩ | ⟨a,e⟩
    ·exact Or.inl ⟨e,j,a,b,p⟩
    ·exact Or.inr ⟨e (by omega),a⟩
   have st:∀ n i,0≤i→i<len l→az.c2 k l (n+1) i=bq (az.c3 k l i (dY (q l (nx (len l) i)) (q l i)) k 2) fun o36=>two o36 (fun _=>some (.inl ())) (fun _=>az.c2 k l n (i+1)):=by
    intro n i i0 i1;have hn:=gU i0 i1;have wi:=hr i i0 i1;have wx:=hr _ hn.1 hn.2;rw [az.c2,cI i1,bT,rP (cF i0 i1),rP (show nz (len l) by unfold nz; omega),ja i0 i1 (by omega),rP (cF hn.1 hn.2)];have es:fy k (el ea l (nx (len l) i)) (el ea l i)=some (dY (q l (nx (len l) i)) (q l i)):=by
     show fy k (q l (nx (len l) i)) (q l i)=_;unfold fy;rw [fp (by omega) (by omega),fp (by omega) (by omega)];rfl
    rw [es,bS,cA (by omega) (by omega)]
   rcases fZ (fun n v=>az.c2 k l n v) 0 (len l) (fun i=>∃ v,2≤v∧v<len l∧gr (q l i) (q l (nx (len l) i)) (q l (jj (len l) i v))<8*(sz (dY (q l (nx (len l) i)) (q l i))+sz (dY (q l (jj (len l) i v)) (q l i)))) (fun _=>())
    (by
     intro n v a b p;show az.c2 k l (n+1) v=_;rw [st n v a b];rcases C3 v a b with ⟨e,_⟩ | ⟨_,e⟩
     ·rw [e,bS,fz]
     ·obtain ⟨j,x,y,z⟩:=p
      exact absurd z (e j x y))
    (by
     intro n v a b p;show az.c2 k l (n+1) v=az.c2 k l n (v+1);rw [st n v a b];rcases C3 v a b with ⟨_,e⟩ | ⟨e,_⟩
     ·exact absurd e p
     ·rw [e,bS,fQ])
    (by
     intro n v a b;show az.c2 k l (n+1) v=_
     rw [az.c2,db b,bF]) k 0 (by omega) (by omega) with ⟨i,a,b,⟨v,p1,p2,p3⟩,_,e⟩ | ⟨a,e⟩
   ·have e:az.c2 k l k 0=some (.inl ()):=e
    rw [e,bS,fz];refine ⟨3,rfl,Or.inr (Or.inr (Or.inl ⟨hv,hr,fun h=>?_,rfl⟩))⟩;have hj:=sc (v:=v) a b (by omega) p2;have:=h.1 i (jj (len l) i v) a b hj.1 hj.2 (by unfold jj; split <;> omega) (by unfold jj nx; split <;> split <;> omega);omega
   ·have e:az.c2 k l k 0=some (.inr ()):=e (by omega)
    rw [e,bS,fQ,sk hk hv,bS];have hF:vl l:=by
     intro i j i0 i1 j0 j1 n1 n2;have h:=a i i0 i1;rcases Int.lt_or_le (gr (q l i) (q l (nx (len l) i)) (q l j)) (8*(sz (dY (q l (nx (len l) i)) (q l i))+sz (dY (q l j) (q l i)))) with g | g
     ·exfalso
      refine h ⟨if i<j then j - i else j - i+len l,?_,?_,?_⟩
      ·unfold nx at n2; split at n2 <;> split <;> omega
      ·split <;> omega
      ·have:jj (len l) i (if i<j then j - i else j - i+len l)=j:=by
        unfold jj
        by_cases c:i<j
        ·rw [if_pos c,if_pos (by omega)]; omega
        ·rw [if_neg c,if_neg (by omega)]; omega
       rw [this];exact g
     ·exact g
    by_cases hI:yq l ea
    ·have:Wn (0,0,())∧uB l (0,0,()):=⟨by decide,zd hv.1 hI⟩
     rw [decide_eq_true this,bT];exact ⟨0,rfl,Or.inr (Or.inr (Or.inr ⟨hv,hr,hF,hI,rfl⟩))⟩
    ·have:¬ (Wn (0,0,())∧uB l (0,0,())):=fun h=>hI (zi hv.2.2.2 h.2)
     rw [decide_eq_false this,bF];exact ⟨3,rfl,Or.inr (Or.inr (Or.inl ⟨hv,hr,fun h=>hI h.2,rfl⟩))⟩
 ·rw [fw hc,bT]
  exact ⟨c,rfl,Or.inl ⟨c1,hc⟩⟩
section
variable {p v:bm} {ang spin mass inertia bounce rub:Int} {l:List bm} {asleep:Bool} {calm:Int}
theorem im (k:Nat) (n a b:Int):cQ k n a b=some (decide (a≤n∧n≤b)):=by
 unfold cQ
 by_cases h:a≤n
 ·rw [qp h,bT]
  unfold jf;congr 1;rw [decide_eq_decide];exact ⟨fun x=>⟨h,x⟩,fun x=>x.2⟩
 ·rw [qk (by omega),bF,decide_eq_false (fun x=>h x.1)]
theorem wg (k:Nat):ak.c1 k (p,v,ang,spin,mass,inertia,bounce,rub,l,asleep,calm,())=some (!decide (R1 p v ang spin)):=by
 unfold ak.c1 R1;dsimp only;rw [gR k p 58982400 (by decide) (by decide),bS,gR k v 268435456 (by decide) (by decide),im,im];have e1:(-58982400≤p.1∧p.1≤58982400∧-58982400≤p.2.1∧p.2.1≤58982400)=Bd p 58982400:=rfl;have e2:(-268435456≤v.1∧v.1≤268435456∧-268435456≤v.2.1∧v.2.1≤268435456)=Bd v 268435456:=rfl
 by_cases h1:Bd p 58982400 <;> by_cases h2:Bd v 268435456 <;> by_cases h3:(-16777216≤spin∧spin≤16777216) <;> by_cases h4:(0≤ang∧ang≤65535) <;>
  simp [e1,e2,h1,h2,h3,h4,aP,bq]
theorem wH (k:Nat):ak.c2 k (p,v,ang,spin,mass,inertia,bounce,rub,l,asleep,calm,())=some (!decide (R2 mass inertia bounce rub calm)):=by
 unfold ak.c2 R2;dsimp only;rw [im,bS,im,im,im,im]
 by_cases h1:(0≤mass∧mass≤1099511627776) <;> by_cases h2:(0≤inertia∧inertia≤1099511627776) <;> by_cases h3:(0≤bounce∧bounce≤65536) <;> by_cases h4:(0≤rub∧rub≤65536) <;> by_cases h5:(0≤calm∧calm≤1000) <;>
  simp [h1,h2,h3,h4,h5,aP,bq]
theorem wk (k:Nat):∃ m:Bool,ak.c3 k (p,v,ang,spin,mass,inertia,bounce,rub,l,asleep,calm,())=some m∧(m=false↔v=(0,0,())∧spin=0):=by
 obtain ⟨a,b,_⟩:=v;unfold ak.c3;dsimp only
 by_cases ha:a=0
 ·rw [eu ha,bF]
  by_cases hb:b=0
  ·rw [eu hb,bF]
   refine ⟨_,rfl,?_⟩;unfold ig;rw [decide_eq_false_iff_not];subst ha hb;exact ⟨fun h=>⟨rfl,Classical.not_not.1 h⟩,fun h g=>g h.2⟩
  ·rw [fw hb,bT]
   exact ⟨true,rfl,fun h=>(by cases h),fun h=>absurd (congrArg (fun x:bm=>x.2.1) h.1) hb⟩
 ·rw [fw ha,bT]
  exact ⟨true,rfl,fun h=>(by cases h),fun h=>absurd (congrArg (fun x:bm=>x.1) h.1) ha⟩
theorem uM {k:Nat} (hk:9≤k):∃ e,ak k (p,v,ang,spin,mass,inertia,bounce,rub,l,asleep,calm,())=some e∧Bc p v ang spin mass inertia bounce rub l asleep calm e:=by
 obtain ⟨s,e1,hs⟩:=ql hk l;unfold ak;dsimp only;rw [e1,bS]
 by_cases h0:s=0
 ·subst h0
  rw [eu rfl,bF,wg,bS]
  by_cases h1:R1 p v ang spin
  ·rw [decide_eq_true h1]
   show ∃ e,aP false _ _=some e∧_;rw [bF,wH,bS]
   by_cases h2:R2 mass inertia bounce rub calm
   ·rw [decide_eq_true h2]
    show ∃ e,aP false _ _=some e∧_;obtain ⟨m,em,hm⟩:=wk (p:=p) (v:=v) (ang:=ang) (spin:=spin) (mass:=mass) (inertia:=inertia) (bounce:=bounce) (rub:=rub) (l:=l) (asleep:=asleep) (calm:=calm) k;have m0:=h2.1.1;have n0:=h2.2.1.1;have c0:=h2.2.2.2.2.1;have no:¬ R3 v spin mass inertia asleep calm→∃ e,some 3=some e∧Bc p v ang spin mass inertia bounce rub l asleep calm e:=fun h=>⟨3,rfl,Or.inr (Or.inr (Or.inl ⟨hs,h1,h2,h,rfl⟩))⟩;have yes:R3 v spin mass inertia asleep calm→∃ e,some 0=some e∧Bc p v ang spin mass inertia bounce rub l asleep calm e:=fun h=>⟨0,rfl,Or.inr (Or.inr (Or.inr ⟨hs,h1,h2,h,rfl⟩))⟩;rw [bF,em,bS];unfold ak.c4 ak.c5 ak.c6 ak.c7;dsimp only;unfold R3 at no yes
    by_cases a:mass=0
    ·rw [gB a,bT,bS]
     by_cases b:inertia=0
     ·rw [gZ (by omega),bF,gZ (by omega),bF,bS,bF,bT]
      cases m with
      | true =>
       rw [bT,bS,bT];exact no fun h=>(by have:=hm.2 ⟨(h.2.1 a).1,(h.2.1 a).2.1⟩; cases this)
      | false =>
       have hv:=hm.1 rfl;rw [bF];cases asleep with
       | true =>
        rw [bT,bS,bT];exact no fun h=>(by have:=(h.2.1 a).2.2.1; cases this)
       | false =>
        rw [bF,bS]
        by_cases c:calm=0
        ·rw [gZ (by omega),bF,bF,bS,bF]
         exact yes ⟨⟨fun _=>b,fun _=>a⟩,fun _=>⟨hv.1,hv.2,rfl,c⟩,fun h=>(by cases h)⟩
        ·rw [hG (by omega),bT]
         exact no fun h=>c (h.2.1 a).2.2.2
     ·rw [hG (by omega),bT,bS,bT]
      exact no fun h=>b (h.1.1 a)
    ·rw [gY a,bF,bS,bF,hG (by omega),bT,bS]
     by_cases b:inertia=0
     ·rw [gB b,bT]
      exact no fun h=>a (h.1.2 b)
     ·rw [gY b,bF,bF,bS,bF]
      cases asleep with
      | false =>
       rw [bF,bS,bF];exact yes ⟨⟨fun h=>absurd h a,fun h=>absurd h b⟩,fun h=>absurd h a,fun h=>(by cases h)⟩
      | true =>
       rw [bT,bS];cases m with
       | true =>
        rw [bT];exact no fun h=>(by have:=hm.2 (h.2.2 rfl); cases this)
       | false =>
        rw [bF];exact yes ⟨⟨fun h=>absurd h a,fun h=>absurd h b⟩,fun h=>absurd h a,fun _=>hm.1 rfl⟩
   ·rw [decide_eq_false h2]
    show ∃ e,aP true _ _=some e∧_;rw [bT];exact ⟨1,rfl,Or.inr (Or.inl ⟨hs,fun h=>h2 h.2,rfl⟩)⟩
  ·rw [decide_eq_false h1]
   show ∃ e,aP true _ _=some e∧_;rw [bT];exact ⟨1,rfl,Or.inr (Or.inl ⟨hs,fun h=>h1 h.1,rfl⟩)⟩
 ·rw [fw h0,bT]
  exact ⟨s,rfl,Or.inl ⟨hs,h0⟩⟩
end
end Go.Proofs.T1
