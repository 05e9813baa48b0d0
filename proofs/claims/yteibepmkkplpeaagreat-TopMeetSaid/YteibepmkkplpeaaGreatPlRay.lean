import Derived.Test.YteibepmkkplpeaaGreatPlFind
import Derived.Test.YteibepmkkplpeaaGreatPlNearS
import Derived.Test.YteibepmkkplpeaaGreatG13
namespace Go.Proofs.T1
open Go Go.Sx
theorem sR (k:Nat) {a b:aB} (h1:lG a.1) (h2:lG a.2.1) (g1:lG b.1) (g2:lG b.2.1):dR k a b=some (lF (a.1*b.2.1) (b.1*a.2.1)):=by
 obtain ⟨x,e1,o1,v1⟩:=iO k (a:=a.1) (b:=b.2.1) h1.1 h1.2 g2.1 g2.2;obtain ⟨y,e2,o2,v2⟩:=iO k (a:=b.1) (b:=a.2.1) g1.1 g1.2 h2.1 h2.2;unfold dR;rw [e1,bS,e2,bS,pT k o1 o2,bS,v1,v2]
theorem r7 {k:Nat} (hk:10≤k) (b:cI) (hc:GD k b):∃ l,bt k b=some l∧jx l:=by
 obtain ⟨p,v,ang,spin,mass,inertia,bounce,rub,l,asleep,calm,_⟩:=b;obtain ⟨l',e,h,_⟩:=Ao hk hc;exact ⟨l',e,h⟩
def ia (k:Nat) (f:((List aB) × Unit)→Option (Int × Bool)) (b:cI):Int × Bool:=((bt k b).bind fun l=>f (l,())).getD (0,false)
def xU (k:Nat) (f:((List aB) × Unit)→Option (Int × Bool)) (l:List cI) (i:Int):Prop :=
 (ia k f (el ao l i)).2=true∧∀ j,0≤j→j<len l→(ia k f (el ao l j)).2=true→(ia k f (el ao l i)).1≤(ia k f (el ao l j)).1∧(j<i→(ia k f (el ao l i)).1<(ia k f (el ao l j)).1)
theorem Cc {k:Nat} (hk:100<k) {l:List cI} (hA:AT k l) (hl:len l≤64) {f:((List aB) × Unit)→Option (Int × Bool)} (hf:∀ m,jx m→∃ h,f (m,())=some h) :
  (∃ i,0≤i∧i<len l∧xU k f l i∧aW k l f=some (i,(ia k f (el ao l i)).1,0))∨((∀ j,0≤j→j<len l→(ia k f (el ao l j)).2=false)∧aW k l f=some (0,0,4)):=by
 obtain ⟨s,hI,e⟩:=iM (fun n (s:Int × Int) v=>aW.c1 k l f n s.1 s.2 v) 0 (len l)
  (fun s v=>(s.1=-1∧∀ j,0≤j→j<v→(ia k f (el ao l j)).2=false)∨(0≤s.1∧s.1<v∧s.2=(ia k f (el ao l s.1)).1∧(ia k f (el ao l s.1)).2=true ∧
   ∀ j,0≤j→j<v→(ia k f (el ao l j)).2=true→(ia k f (el ao l s.1)).1≤(ia k f (el ao l j)).1∧(j<s.1→(ia k f (el ao l s.1)).1<(ia k f (el ao l j)).1)))
  (by
   intro n s v v0 v1 hI;obtain ⟨P,p1,p2⟩:=r7 (k:=k) (by omega) _ (hA v v0 v1);obtain ⟨h,h1⟩:=hf P p2;have hh:ia k f (el ao l v)=h:=by unfold ia; rw [p1]; show (f (P,())).getD (0,false)=h; rw [h1]; rfl
   have st:ag .i64 v 1=v+1:=bH (by omega) (by omega);have skip:h.2=false→(∀ a b,aW.c2 k a b h=some false):=by
    intro z a b;unfold aW.c2;rw [z,bF]
   cases hz:h.2 with
   | false =>
    refine ⟨s,?_,?_⟩
    ·rcases hI with ⟨a,b⟩ | ⟨a,b,c,d,g⟩
     ·refine Or.inl ⟨a,fun j j0 j1=>?_⟩
      by_cases e:j=v
      ·rw [e,hh,hz]
      ·exact b j j0 (by omega)
     ·refine Or.inr ⟨a,by omega,c,d,fun j j0 j1 j2=>?_⟩
      by_cases e:j=v
      ·rw [e,hh,hz] at j2; cases j2
      ·exact g j j0 (by omega) j2
    ·show aW.c1 k l f (n+1) s.1 s.2 v=_
     rw [aW.c1,cB v1,bT,rP (cZ v0 v1),p1,bS,h1,bS,skip hz,bS,bF,st]
   | true =>
    rcases hI with ⟨a,b⟩ | ⟨a,b,c,d,g⟩
    ·refine ⟨(v,h.1),Or.inr ⟨v0,by show v<v+1; omega,by show h.1=_; rw [hh],by show (ia k f (el ao l v)).2=true; rw [hh,hz],fun j j0 j1 j2=>?_⟩,?_⟩
     ·by_cases e:j=v
      ·subst e; exact ⟨Int.le_refl _,fun x=>absurd x (by show ¬ j<j; omega)⟩
      ·rw [b j j0 (by omega)] at j2; cases j2
     ·show aW.c1 k l f (n+1) s.1 s.2 v=_
      have c2:aW.c2 k s.1 s.2 h=some true:=by
       unfold aW.c2;rw [hz,bT,cB (by omega),bT]
      rw [aW.c1,cB v1,bT,rP (cZ v0 v1),p1,bS,h1,bS,c2,bS,bT,st]
    ·by_cases lt:h.1<s.2
     ·refine ⟨(v,h.1),Or.inr ⟨v0,by show v<v+1; omega,by show h.1=_; rw [hh],by show (ia k f (el ao l v)).2=true; rw [hh,hz],fun j j0 j1 j2=>?_⟩,?_⟩
      ·show (ia k f (el ao l v)).1≤_∧(j<v→(ia k f (el ao l v)).1<_)
       rw [hh]
       by_cases e:j=v
       ·rw [e,hh]; exact ⟨Int.le_refl _,fun x=>by omega⟩
       ·have:=(g j j0 (by omega) j2).1
        exact ⟨by omega,fun _=>by omega⟩
      ·show aW.c1 k l f (n+1) s.1 s.2 v=_
       have c2:aW.c2 k s.1 s.2 h=some true:=by
        unfold aW.c2;rw [hz,bT,cD (by omega),bF,cB lt]
       rw [aW.c1,cB v1,bT,rP (cZ v0 v1),p1,bS,h1,bS,c2,bS,bT,st]
     ·refine ⟨s,Or.inr ⟨a,by omega,c,d,fun j j0 j1 j2=>?_⟩,?_⟩
      ·by_cases e:j=v
       ·rw [e,hh]; exact ⟨by omega,fun x=>by omega⟩
       ·exact g j j0 (by omega) j2
      ·show aW.c1 k l f (n+1) s.1 s.2 v=_
       have c2:aW.c2 k s.1 s.2 h=some false:=by
        unfold aW.c2;rw [hz,bT,cD (by omega),bF,cD (by omega)]
       rw [aW.c1,cB v1,bT,rP (cZ v0 v1),p1,bS,h1,bS,c2,bS,bF,st])
  (by
   intro n s v v0 v1;show aW.c1 k l f (n+1) s.1 s.2 v=_
   rw [aW.c1,cD v1,bF])
  k (-1,0) 0 (by omega) (by unfold len; omega) (by omega) (Or.inl ⟨rfl,fun j j0 j1=>by omega⟩)
 have e:aW.c1 k l f k (-1) 0 0=some s:=e;unfold aW;rw [e,bS];rcases hI with ⟨a,b⟩ | ⟨a,b,c,d,g⟩
 ·rw [cB (by omega),bT]
  exact Or.inr ⟨b,rfl⟩
 ·rw [cD (by omega),bF]
  exact Or.inl ⟨s.1,a,b,⟨d,g⟩,by rw [c]⟩
theorem C7 (k:Nat) {a:aB} (h:Wn a):eG k a=some true:=by
 obtain ⟨h1,h2,h3,h4⟩:=h;unfold eG;have i1:jd a.1 (-65536000)=true:=iV (by omega);have i2:jw a.1 65536000=true:=decide_eq_true h2;have i3:jd a.2.1 (-65536000)=true:=iV (by omega);have i4:jw a.2.1 65536000=true:=decide_eq_true h4;rw [i1,i2,i3,i4,bT,bT,bT]
theorem qz {k:Nat} (hk':100<k) {l:List cI} (hA:AT k l) (hl:len l≤64):bA k l=some 0:=by
 have H:∀ (n:Nat) (i:Int),0≤i→len l - i<(n:Int)→0<n→bA.c1 k l n i=some (.inr ()):=by
  intro n
  induction n with
  | zero=>intro i _ _ h; omega
  | succ n ih =>
   intro i i0 i1 _;rw [bA.c1]
   by_cases c:i<len l
   ·have hb:aj k (el ao l i)=some 0:=hA i i0 c
    rw [cB c,bT,rP (cZ i0 c),hb,bS,ek rfl,bF,bH (by omega) (by omega)];exact ih (i+1) (by omega) (by omega) (by omega)
   ·rw [cD (by omega),bF]
 unfold bA;rw [il (by omega),bF,H k 0 (by omega) (by omega) (by omega),bS,ig]
end Go.Proofs.T1
namespace Go.Proofs.T1
open Go Go.Sx
def nu (l:List aB) (a:aB) (i:Int):Int:=fb (q l i) (q l (nx (len l) i)) a
def dn (l:List aB) (b:aB) (i:Int):Int:=((q l (nx (len l) i)).2.1 - (q l i).2.1)*b.1+((q l i).1 - (q l (nx (len l) i)).1)*b.2.1
def CP (l:List aB) (a b:aB) (X w:Int):Prop:=∀ i,0≤i→i<len l→X*dn l b i≤w*nu l a i
def uG (l:List aB):Prop:=3≤len l∧len l≤16∧∀ t,0≤t→t<len l→-131072000≤(q l t).1∧(q l t).1≤131072000∧-131072000≤(q l t).2.1∧(q l t).2.1≤131072000
theorem CD {l:List aB} {a b:aB} (hl:uG l) (ha:Wn a) (hb:Wn b) {i:Int} (i0:0≤i) (i1:i<len l) :
  (-1000000000000000000≤nu l a i∧nu l a i≤1000000000000000000)∧(-1000000000000000000≤dn l b i∧dn l b i≤1000000000000000000):=by
 obtain ⟨a1,a2,a3,a4⟩:=ha;obtain ⟨c1,c2,c3,c4⟩:=hb;have hn:=dK i0 i1;have b1:=hl.2.2 i i0 i1;have b2:=hl.2.2 _ hn.1 hn.2;unfold nu dn fb;generalize q l i=p at *
 generalize q l (nx (len l) i)=r at *
 have p1:=dB (x:=r.1 - p.1) (y:=a.2.1 - p.2.1) (M:=262144000) (N:=196608000) (by omega) (by omega) (by omega) (by omega);have p2:=dB (x:=r.2.1 - p.2.1) (y:=a.1 - p.1) (M:=262144000) (N:=196608000) (by omega) (by omega) (by omega) (by omega);have p3:=dB (x:=r.2.1 - p.2.1) (y:=b.1) (M:=262144000) (N:=65536000) (by omega) (by omega) (by omega) (by omega);have p4:=dB (x:=p.1 - r.1) (y:=b.2.1) (M:=262144000) (N:=65536000) (by omega) (by omega) (by omega) (by omega);omega
theorem tV {l:List aB} {a:aB} (hl:uG l) (ha:Wn a) {v:Int} (v0:0≤v) (v1:v<len l) :
  ag .i64 (aN .i64 (aU .i64 (el bK l (cC (ag .i64 v 1) (len l))).2.1 (el bK l v).2.1) (aU .i64 (el bK l v).1 a.1)) (aN .i64 (aU .i64 (el bK l v).1 (el bK l (cC (ag .i64 v 1) (len l))).1) (aU .i64 (el bK l v).2.1 a.2.1))=nu l a v:=by
 obtain ⟨a1,a2,a3,a4⟩:=ha;have hn:=dK v0 v1;have b1:=hl.2.2 v v0 v1;have b2:=hl.2.2 _ hn.1 hn.2;rw [gU v0 v1 (by have:=hl.2.1; omega)];show ag .i64 (aN .i64 (aU .i64 (q l (nx (len l) v)).2.1 (q l v).2.1) (aU .i64 (q l v).1 a.1)) (aN .i64 (aU .i64 (q l v).1 (q l (nx (len l) v)).1) (aU .i64 (q l v).2.1 a.2.1))=_;unfold nu fb;generalize q l v=p at *
 generalize q l (nx (len l) v)=r at *
 have p1:=dB (x:=r.2.1 - p.2.1) (y:=p.1 - a.1) (M:=262144000) (N:=196608000) (by omega) (by omega) (by omega) (by omega);have p2:=dB (x:=p.1 - r.1) (y:=p.2.1 - a.2.1) (M:=262144000) (N:=196608000) (by omega) (by omega) (by omega) (by omega);rw [cR (x:=r.2.1) (by omega) (by omega),cR (x:=p.1) (y:=a.1) (by omega) (by omega),cR (x:=p.1) (y:=r.1) (by omega) (by omega),cR (x:=p.2.1) (by omega) (by omega),dr (by omega) (by omega),dr (by omega) (by omega),bH (by omega) (by omega)];grind
theorem th {l:List aB} {b:aB} (hl:uG l) (hb:Wn b) {v:Int} (v0:0≤v) (v1:v<len l) :
  ag .i64 (aN .i64 (aU .i64 (el bK l (cC (ag .i64 v 1) (len l))).2.1 (el bK l v).2.1) b.1) (aN .i64 (aU .i64 (el bK l v).1 (el bK l (cC (ag .i64 v 1) (len l))).1) b.2.1)=dn l b v:=by
 obtain ⟨a1,a2,a3,a4⟩:=hb;have hn:=dK v0 v1;have b1:=hl.2.2 v v0 v1;have b2:=hl.2.2 _ hn.1 hn.2;rw [gU v0 v1 (by have:=hl.2.1; omega)];show ag .i64 (aN .i64 (aU .i64 (q l (nx (len l) v)).2.1 (q l v).2.1) b.1) (aN .i64 (aU .i64 (q l v).1 (q l (nx (len l) v)).1) b.2.1)=_;unfold dn;generalize q l v=p at *
 generalize q l (nx (len l) v)=r at *
 have p1:=dB (x:=r.2.1 - p.2.1) (y:=b.1) (M:=262144000) (N:=65536000) (by omega) (by omega) (by omega) (by omega);have p2:=dB (x:=p.1 - r.1) (y:=b.2.1) (M:=262144000) (N:=65536000) (by omega) (by omega) (by omega) (by omega);rw [cR (x:=r.2.1) (by omega) (by omega),cR (x:=p.1) (y:=r.1) (by omega) (by omega),dr (by omega) (by omega),dr (by omega) (by omega),bH (by omega) (by omega)]
theorem nB {a b c d e f:Int} (hb:0≤b) (hd:0<d) (hf:0≤f) (h1:a*d≤c*b) (h2:c*f≤e*d):a*f≤e*b:=by
 have p1:=Int.mul_le_mul_of_nonneg_right h1 hf;have p2:=Int.mul_le_mul_of_nonneg_right h2 hb;have e1:a*d*f=a*f*d:=by grind
 have e2:c*b*f=c*f*b:=by grind
 have e3:e*d*b=e*b*d:=by grind
 refine Int.le_of_mul_le_mul_right ?_ hd;omega
theorem Ds (x y:Int):fq (lF x y) 0=decide (x<y):=by
 unfold lF
 by_cases h:x<y
 ·rw [if_pos h,decide_eq_true h]; rfl
 ·rw [if_neg h,decide_eq_false h]
  split <;> rfl
theorem yc (x y:Int):iS (lF x y) 0=decide (y<x):=by
 unfold lF
 by_cases h:x<y
 ·rw [if_pos h,decide_eq_false (by omega)]; rfl
 ·rw [if_neg h]
  by_cases g:x=y
  ·rw [if_pos g,decide_eq_false (by omega)]; rfl
  ·rw [if_neg g,decide_eq_true (by omega)]; rfl
theorem DV (x y:Int):jw (lF x y) 0=decide (x≤y):=by
 unfold lF
 by_cases h:x<y
 ·rw [if_pos h,decide_eq_true (by omega)]; rfl
 ·rw [if_neg h]
  by_cases g:x=y
  ·rw [if_pos g,decide_eq_true (by omega)]; rfl
  ·rw [if_neg g,decide_eq_false (by omega)]; rfl
structure RI (l:List aB) (a b:aB) (v e1 e2 f1 f2:Int):Prop where
 e0:0≤e1
 ep:0<e2
 eo:(e1=0∧e2=1)∨∃ i,0≤i∧i<len l∧dn l b i<0∧e1=-nu l a i∧e2=-dn l b i
 fp:0<f2
 fl:f1≤f2
 fo:(f1=1∧f2=1)∨∃ i,0≤i∧i<len l∧0<dn l b i∧f1=nu l a i∧f2=dn l b i
 lo:∀ i,0≤i→i<v→dn l b i<0→-nu l a i*e2≤e1*-dn l b i
 hi:∀ i,0≤i→i<v→0<dn l b i→f1*dn l b i≤nu l a i*f2
 ze:∀ i,0≤i→i<v→dn l b i=0→0≤nu l a i
theorem El {l:List aB} {a b:aB} {v e1 e2 f1 f2:Int} (hl:uG l) (ha:Wn a) (hb:Wn b) (h:RI l a b v e1 e2 f1 f2):lG e1∧lG e2∧lG f1∧lG f2:=by
 have k1:lG e1∧lG e2:=by
  rcases h.eo with ⟨x,y⟩ | ⟨i,i0,i1,_,x,y⟩
  ·rw [x,y]; exact ⟨⟨by decide,by decide⟩,⟨by decide,by decide⟩⟩
  ·have:=CD hl ha hb i0 i1
   unfold lG;omega
 have k2:lG f1∧lG f2:=by
  rcases h.fo with ⟨x,y⟩ | ⟨i,i0,i1,_,x,y⟩
  ·rw [x,y]; exact ⟨⟨by decide,by decide⟩,⟨by decide,by decide⟩⟩
  ·have:=CD hl ha hb i0 i1
   unfold lG;omega
 exact ⟨k1.1,k1.2,k2.1,k2.2⟩
theorem xC (k:Nat) {l:List aB} {a b:aB} (hl:uG l) (ha:Wn a) (hb:Wn b):∀ (n:Nat) (v e1 e2 f1 f2:Int),0≤v→v≤len l→len l - v<(n:Int)→RI l a b v e1 e2 f1 f2 →
  (aF.c1 k l a b n v e1 e2 f1 f2=some (.inl ())∧∃ i,0≤i∧i<len l∧dn l b i=0∧nu l a i<0) ∨
   ∃ e1' e2' f1' f2',aF.c1 k l a b n v e1 e2 f1 f2=some (.inr (e1',e2',f1',f2'))∧RI l a b (len l) e1' e2' f1' f2':=by
 intro n
 induction n with
 | zero=>intro v e1 e2 f1 f2 _ _ h; omega
 | succ n ih =>
  intro v e1 e2 f1 f2 v0 vl v1 R;rw [aF.c1]
  by_cases c:v<len l
  ·have h16:=hl.2.1
   have hn:=dK v0 c;have hr:cC (ag .i64 v 1) (len l)=nx (len l) v:=gU v0 c (by omega);have st:ag .i64 v 1=v+1:=bH (by omega) (by omega);have bd:=CD hl ha hb v0 c;obtain ⟨j1,j2,j3,j4⟩:=El hl ha hb R;have iN:lG (nu l a v):=by unfold lG; omega
   have iD:lG (dn l b v):=by unfold lG; omega
   have iN':lG (-nu l a v):=by unfold lG; omega
   have iD':lG (-dn l b v):=by unfold lG; omega
   have nN:c9 .i64 (nu l a v)=-nu l a v:=by unfold c9; rw [wrap_i64 (by omega) (by omega)]; omega
   have nD:c9 .i64 (dn l b v)=-dn l b v:=by unfold c9; rw [wrap_i64 (by omega) (by omega)]; omega
   have t2:aF.c2 k l a b v=some (decide (dn l b v=0∧nu l a v<0)):=by
    unfold aF.c2;rw [tV hl ha v0 c,th hl hb v0 c]
    by_cases z:dn l b v=0
    ·rw [fw z,bT]
     unfold fq;congr 1;rw [decide_eq_decide];exact ⟨fun h=>⟨z,h⟩,fun h=>h.2⟩
    ·rw [fu z,bF,decide_eq_false (fun h=>z h.1)]
   have t3:aF.c3 k l a b v f1 f2=some (decide (0<dn l b v∧nu l a v*f2<f1*dn l b v)):=by
    unfold aF.c3;rw [tV hl ha v0 c,th hl hb v0 c,sR k (a:=(nu l a v,dn l b v,())) (b:=(f1,f2,())) iN iD j3 j4,bS,Ds]
    by_cases z:0<dn l b v
    ·rw [iR z,bT]
     congr 1;rw [decide_eq_decide];exact ⟨fun h=>⟨z,h⟩,fun h=>h.2⟩
    ·rw [il (by omega),bF,decide_eq_false (fun h=>z h.1)]
   have t4:aF.c4 k l a b v e1 e2=some (decide (dn l b v<0∧e1*-dn l b v < -nu l a v*e2)):=by
    unfold aF.c4;rw [tV hl ha v0 c,th hl hb v0 c,nN,nD,sR k (a:=(-nu l a v,-dn l b v,())) (b:=(e1,e2,())) iN' iD' j1 j2,bS,yc]
    by_cases z:dn l b v<0
    ·rw [cB z,bT]
     congr 1;rw [decide_eq_decide];exact ⟨fun h=>⟨z,h⟩,fun h=>h.2⟩
    ·rw [cD (by omega),bF,decide_eq_false (fun h=>z h.1)]
   rw [cB c,bT,rP (cZ v0 c),rP (show nz (len l) by unfold nz; omega),rP (show gn (cC (ag .i64 v 1) (len l)) l by rw [hr]; exact cZ hn.1 hn.2),t2,bS,t3,bS,t4,bS,tV hl ha v0 c,th hl hb v0 c,nN,nD,st]
   by_cases A:dn l b v=0∧nu l a v<0
   ·rw [decide_eq_true A,bT]
    exact Or.inl ⟨rfl,v,v0,c,A⟩
   ·rw [decide_eq_false A,bF]
    by_cases B:0<dn l b v∧nu l a v*f2<f1*dn l b v
    ·rw [decide_eq_true B,bT]
     obtain ⟨B1,B2⟩:=B;refine ih (v+1) e1 e2 _ _ (by omega) (by omega) (by omega) ⟨R.e0,R.ep,R.eo,B1,?_,Or.inr ⟨v,v0,c,B1,rfl,rfl⟩,fun i i0 i1 d=>?_,fun i i0 i1 d=>?_,fun i i0 i1 d=>?_⟩
     ·have h1:=Int.mul_le_mul_of_nonneg_right R.fl (Int.le_of_lt B1)
      have h2:nu l a v*f2<dn l b v*f2:=by rw [Int.mul_comm (dn l b v)]; omega
      exact Int.le_of_lt (Int.lt_of_mul_lt_mul_right h2 (Int.le_of_lt R.fp))
     ·by_cases g:i=v
      ·subst g; omega
      ·exact R.lo i i0 (by omega) d
     ·by_cases g:i=v
      ·subst g; exact Int.le_refl _
      ·exact nB (Int.le_of_lt B1) R.fp (Int.le_of_lt d) (Int.le_of_lt B2) (R.hi i i0 (by omega) d)
     ·by_cases g:i=v
      ·subst g; omega
      ·exact R.ze i i0 (by omega) d
    ·rw [decide_eq_false B,bF]
     by_cases C:dn l b v<0∧e1*-dn l b v < -nu l a v*e2
     ·rw [decide_eq_true C,bT]
      obtain ⟨C1,C2⟩:=C;have pos:0≤-nu l a v:=by
       have h1:=Int.mul_nonneg R.e0 (show 0≤-dn l b v by omega);have h2:0*e2 < -nu l a v*e2:=by rw [Int.zero_mul]; omega
       exact Int.le_of_lt (Int.lt_of_mul_lt_mul_right h2 (Int.le_of_lt R.ep))
      refine ih (v+1) _ _ f1 f2 (by omega) (by omega) (by omega) ⟨pos,by omega,Or.inr ⟨v,v0,c,C1,rfl,rfl⟩,R.fp,R.fl,R.fo,fun i i0 i1 d=>?_,fun i i0 i1 d=>?_,fun i i0 i1 d=>?_⟩
      ·by_cases g:i=v
       ·subst g; exact Int.le_refl _
       ·exact nB (by omega) R.ep (by omega) (R.lo i i0 (by omega) d) (Int.le_of_lt C2)
      ·by_cases g:i=v
       ·subst g; omega
       ·exact R.hi i i0 (by omega) d
      ·by_cases g:i=v
       ·subst g; omega
       ·exact R.ze i i0 (by omega) d
     ·rw [decide_eq_false C,bF]
      refine ih (v+1) e1 e2 f1 f2 (by omega) (by omega) (by omega) ⟨R.e0,R.ep,R.eo,R.fp,R.fl,R.fo,fun i i0 i1 d=>?_,fun i i0 i1 d=>?_,fun i i0 i1 d=>?_⟩
      ·by_cases g:i=v
       ·subst g
        by_cases w:e1*-dn l b i < -nu l a i*e2
        ·exact absurd ⟨d,w⟩ C
        ·omega
       ·exact R.lo i i0 (by omega) d
      ·by_cases g:i=v
       ·subst g
        by_cases w:nu l a i*f2<f1*dn l b i
        ·exact absurd ⟨d,w⟩ B
        ·omega
       ·exact R.hi i i0 (by omega) d
      ·by_cases g:i=v
       ·subst g
        by_cases w:nu l a i<0
        ·exact absurd ⟨d,w⟩ A
        ·omega
       ·exact R.ze i i0 (by omega) d
  ·have:v=len l:=by omega
   subst this;rw [cD (by omega),bF];exact Or.inr ⟨e1,e2,f1,f2,rfl,R⟩
theorem uk (k:Nat) {X w:Int} (h1:lG X) (h2:lG w):∀ (m f:Nat) (v1 v2:Int),m<f→0≤v1→v1<v2→v2≤65537→v2 - v1≤2 ^ m→v1*w≤X*65536→X*65536<v2*w →
  ∃ t,bg.c1 k (X,w,()) f v1 v2=some t∧0≤t∧t≤65536∧t*w≤X*65536∧X*65536<(t+1)*w:=by
 intro m
 induction m with
 | zero =>
  intro f v1 v2 hf a1 b c g p1 p2;obtain ⟨f,rfl⟩:∃ j,f=j+1:=⟨f - 1,by omega⟩;have:v2=v1+1:=by simp at g; omega
  subst this;rw [bg.c1,cR (by omega) (by omega),il (by omega),bF];exact ⟨_,rfl,a1,by omega,p1,p2⟩
 | succ m ih =>
  intro f v1 v2 hf a1 b c g p1 p2;obtain ⟨f,rfl⟩:∃ j,f=j+1:=⟨f - 1,by omega⟩;rw [bg.c1,cR (by omega) (by omega)]
  by_cases h:v2 - v1 > 1
  ·have e2:(2:Int) ^ (m+1)=2*2 ^ m:=by rw [Int.pow_succ]; omega
   rw [e2] at g;obtain ⟨x,e1,o1,w1⟩:=iO k (a:=(v1+v2) / 2) (b:=w) (by omega) (by omega) h2.1 h2.2;obtain ⟨y,e3,o2,w2⟩:=iO k (a:=X) (b:=65536) h1.1 h1.2 (by decide) (by decide);rw [iR h,bT,bH (by omega) (by omega),kf (by omega) (by omega) (by decide)];dsimp only;rw [e1,bS,e3,bS,pT k o1 o2,bS,DV,w1,w2]
   by_cases z:(v1+v2) / 2*w≤X*65536
   ·rw [decide_eq_true z,bT]
    exact ih f _ _ (by omega) (by omega) (by omega) c (by omega) z p2
   ·rw [decide_eq_false z,bF]
    exact ih f _ _ (by omega) a1 (by omega) (by omega) (by omega) p1 (by omega)
  ·rw [il (by omega),bF]
   have:v2=v1+1:=by omega
   subst this;exact ⟨_,rfl,a1,by omega,p1,p2⟩
theorem wu {k:Nat} (hk:40≤k) {l:List aB} {a b:aB} (hl:uG l) (ha:Wn a) (hb:Wn b) :
  (∃ X w t,aF k l a b=some (t,true)∧0<w∧0≤X∧X≤w∧CP l a b X w∧(∀ Y v,0<v→0≤Y→Y≤v→CP l a b Y v→X*v≤Y*w)∧(0≤t∧t≤65536∧t*w≤X*65536∧X*65536<(t+1)*w) ∧
   ((X=0∧w=1)∨∃ i,0≤i∧i<len l∧dn l b i<0∧X=-nu l a i∧w=-dn l b i)) ∨
  (aF k l a b=some (0,false)∧∀ Y v,0<v→0≤Y→Y≤v→¬ CP l a b Y v):=by
 have h16:=hl.2.1;have R0:RI l a b 0 0 1 1 1:=⟨by decide,by decide,Or.inl ⟨rfl,rfl⟩,by decide,by decide,Or.inl ⟨rfl,rfl⟩,fun i i0 i1=>by omega,fun i i0 i1=>by omega,fun i i0 i1=>by omega⟩;unfold aF;rcases xC k hl ha hb k 0 0 1 1 1 (by decide) (by have:=hl.1; omega) (by omega) R0 with ⟨e,i,i0,i1,d0,n0⟩ | ⟨e1,e2,f1,f2,e,R⟩
 ·rw [e,bS,ir]
  refine Or.inr ⟨rfl,fun Y v v0 _ _ h=>?_⟩;have h1:=h i i0 i1;rw [d0,Int.mul_zero] at h1;have h2:=Int.mul_pos v0 (show 0 < -nu l a i by omega);rw [Int.mul_neg] at h2;omega
 ·obtain ⟨j1,j2,j3,j4⟩:=El hl ha hb R
  have low:∀ Y v,0<v→0≤Y→CP l a b Y v→e1*v≤Y*e2:=by
   intro Y v v0 y0 h;rcases R.eo with ⟨x,y⟩ | ⟨i,i0,i1,d,x,y⟩
   ·rw [x,y]; omega
   ·have h1:=h i i0 i1
    rw [x,y,Int.mul_neg,Int.neg_mul,Int.mul_comm (nu l a i)];omega
  have high:∀ Y v,0<v→Y≤v→CP l a b Y v→Y*f2≤f1*v:=by
   intro Y v v0 y0 h;rcases R.fo with ⟨x,y⟩ | ⟨i,i0,i1,d,x,y⟩
   ·rw [x,y]; omega
   ·have h1:=h i i0 i1
    rw [x,y,Int.mul_comm (nu l a i)];omega
  rw [e,bS,ig];dsimp only;rw [sR k (a:=(e1,e2,())) (b:=(f1,f2,())) j1 j2 j3 j4,bS,yc];dsimp only
  by_cases z:f1*e2<e1*f2
  ·rw [decide_eq_true z,bT]
   refine Or.inr ⟨rfl,fun Y v v0 y0 y1 h=>?_⟩;have h1:=low Y v v0 y0 h;have h2:=high Y v v0 y1 h;have:=nB (Int.le_of_lt R.ep) v0 (Int.le_of_lt R.fp) h1 h2;omega
  ·rw [decide_eq_false z,bF]
   have z:e1*f2≤f1*e2:=by omega
   have le1:e1≤e2:=by
    have h1:=Int.mul_le_mul_of_nonneg_right R.fl (Int.le_of_lt R.ep);have h2:e1*f2≤e2*f2:=by rw [Int.mul_comm e2]; omega
    exact Int.le_of_mul_le_mul_right h2 R.fp
   obtain ⟨t,t1,t2,t3,t4,t5⟩:=uk k j1 j2 17 k 0 65537 (by omega) (by decide) (by decide) (by decide) (by decide) (by rw [Int.zero_mul]; exact Int.mul_nonneg R.e0 (by decide)) (by have:=R.ep; omega);refine Or.inl ⟨e1,e2,t,?_,R.ep,R.e0,le1,fun i i0 i1=>?_,fun Y v v0 y0 y1 h=>low Y v v0 y0 h,⟨t2,t3,t4,t5⟩,R.eo⟩
   ·unfold bg
    rw [t1,bS,bS]
   ·by_cases d:dn l b i<0
    ·have:=R.lo i i0 i1 d
     rw [Int.mul_neg,Int.neg_mul,Int.mul_comm (nu l a i)] at this;omega
    ·by_cases d2:dn l b i=0
     ·have:=Int.mul_nonneg (Int.le_of_lt R.ep) (R.ze i i0 i1 d2)
      rw [d2,Int.mul_zero];exact this
     ·have h1:=R.hi i i0 i1 (by omega)
      have:=nB (Int.le_of_lt R.ep) R.fp (show 0≤dn l b i by omega) z h1;rw [Int.mul_comm e2];exact this
end Go.Proofs.T1
namespace Go.Proofs.T1
open Go Go.Sx
def EH (l:List aB) (a b:aB) (h:Int × Bool):Prop :=
 (∃ X w,h.2=true∧0<w∧0≤X∧X≤w∧CP l a b X w∧(∀ Y v,0<v→0≤Y→Y≤v→CP l a b Y v→X*v≤Y*w)∧(0≤h.1∧h.1≤65536∧h.1*w≤X*65536∧X*65536<(h.1+1)*w) ∧
   ((X=0∧w=1)∨∃ i,0≤i∧i<len l∧dn l b i<0∧X=-nu l a i∧w=-dn l b i)) ∨
  (h=(0,false)∧∀ Y v,0<v→0≤Y→Y≤v→¬ CP l a b Y v)
theorem zG {k:Nat} (hk:40≤k) {l:List aB} {a b:aB} (hl:uG l) (ha:Wn a) (hb:Wn b):∃ h,aF k l a b=some h∧EH l a b h:=by
 rcases wu hk hl ha hb with ⟨X,w,t,e,h1,h2,h3,h4,h5,h6,h7⟩ | ⟨e,h⟩
 ·exact ⟨(t,true),e,Or.inl ⟨X,w,rfl,h1,h2,h3,h4,h5,h6,h7⟩⟩
 ·exact ⟨(0,false),e,Or.inr ⟨rfl,h⟩⟩
theorem C0 {P p l:List aB} (hP:jx P) (hp:jx p) (D:DS P p l):uG l:=by
 refine ⟨D.len3,?_,fun t t0 t1=>wH hP.2.2.1 hp.2.2.1 D t0 t1⟩;have h1:=D.le;have h2:=hP.2.1;have h3:=hp.2.1;omega
theorem qk {k:Nat} (hk:100<k) {p:List aB} (hp:jx p) {b:aB} (hb:Wn b) {P:List aB} (hP:jx P):∃ h l,dc k P p b=some h∧DS P p l∧EH l iF b h:=by
 obtain ⟨l,e,D,_⟩:=rR (k:=k) (by omega) hP hp;obtain ⟨h,e2,hs⟩:=zG (k:=k) (by omega) (a:=iF) (b:=b) (C0 hP hp D) (by unfold Wn iF; decide) hb;refine ⟨h,l,?_,D,hs⟩;unfold dc;rw [e,bS];have e2:aF k l (0,0,()) b=some h:=e2;dsimp only;rw [e2,bS]
theorem sd {k:Nat} (hk:100<k) {p:List aB} (hp:jx p) {b:aB} (hb:Wn b) (y:cI) (hy:GD k y):∃ P l,bt k y=some P∧jx P∧DS P p l∧EH l iF b (ia k (fun x=>dc k x.1 p b) y):=by
 obtain ⟨P,p1,p2⟩:=r7 (k:=k) (by omega) y hy;obtain ⟨h,l,e,D,hs⟩:=qk hk hp hb p2;refine ⟨P,l,p1,p2,D,?_⟩;have:ia k (fun x=>dc k x.1 p b) y=h:=by
  unfold ia;rw [p1];show (dc k P p b).getD (0,false)=h;rw [e];rfl
 rw [this];exact hs
theorem Cu {k:Nat} (hk:100<k) {l:List cI} (hA:AT k l) (hl:len l≤64) {p:List aB} (hp:jx p) {b:aB} (hb:Wn b) :
  (∃ i,0≤i∧i<len l∧xU k (fun x=>dc k x.1 p b) l i∧eJ k l p b=some (i,(ia k (fun x=>dc k x.1 p b) (el ao l i)).1,0)) ∨
   ((∀ j,0≤j→j<len l→(ia k (fun x=>dc k x.1 p b) (el ao l j)).2=false)∧eJ k l p b=some (0,0,4)):=by
 unfold eJ;rw [qz hk hA hl,bS,ek rfl,bF,iQ (by omega) hp,bS,ek rfl,bF,C7 k hb,bS,bT]
 rcases Cc hk hA hl (f:=fun x=>dc k x.1 p b) (fun m hm=>by
  obtain ⟨h,_,e,_⟩:=qk hk hp hb hm
  exact ⟨h,e⟩) with ⟨i,i0,i1,hF,e⟩ | ⟨h,e⟩
 ·rw [e,bS]
  exact Or.inl ⟨i,i0,i1,hF,rfl⟩
 ·rw [e,bS]
  exact Or.inr ⟨h,rfl⟩
theorem Ay {l:List aB} {b:aB} (h:pY l iF):CP l iF b 0 1:=by
 intro i i0 i1;have:=h i i0 i1;have e:nu l iF i=fb (q l i) (q l (nx (len l) i)) iF:=rfl;omega
end Go.Proofs.T1
