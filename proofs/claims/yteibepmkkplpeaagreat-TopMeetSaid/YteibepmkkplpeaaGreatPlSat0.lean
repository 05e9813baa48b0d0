import Derived.Test.YteibepmkkplpeaaGreatPlRoot
import Derived.Test.YteibepmkkplpeaaGreatPlGeo
namespace Go.Proofs.T1
open Go Go.Sx
def CQ (f:Nat→Int):Nat→Int
 | 0=>f 0
 | n+1=>if CQ f n<f (n+1) then f (n+1) else CQ f n
theorem FA (f:Nat→Int):∀ n j,j≤n→f j≤CQ f n:=by
 intro n
 induction n with
 | zero =>
  intro j h; have:j=0:=by omega
  subst this; exact Int.le_refl _
 | succ n ih =>
  intro j h;unfold CQ
  by_cases c:j=n+1
  ·subst c; split <;> omega
  ·have:=ih j (by omega)
   split <;> omega
theorem E8 (f:Nat→Int):∀ n,∃ j,j≤n∧CQ f n=f j:=by
 intro n
 induction n with
 | zero=>exact ⟨0,Nat.le_refl 0,rfl⟩
 | succ n ih =>
  unfold CQ;split
  ·exact ⟨n+1,Nat.le_refl _,rfl⟩
  ·obtain ⟨j,a,b⟩:=ih
   exact ⟨j,by omega,b⟩
def fk (l:List aB) (i:Int):aB:=((q l (nx (len l) i)).2.1 - (q l i).2.1,(q l i).1 - (q l (nx (len l) i)).1,())
def Ef (a b:List aB) (i:Int) (j:Nat):Int:=fb (q a i) (q a (nx (len a) i)) (q b j)
def dp (a b:List aB) (i:Int):Int:=CQ (Ef a b i) (b.length - 1)
theorem lz {l:List aB} (hw:jT l) {i:Int} (i0:0≤i) (i1:i<len l):-131072000≤(fk l i).1∧(fk l i).1≤131072000∧-131072000≤(fk l i).2.1∧(fk l i).2.1≤131072000:=by
 have hn:=dK i0 i1;have h1:=hw i i0 i1;have h2:=hw _ hn.1 hn.2;unfold fk;unfold Wn at h1 h2;dsimp only;omega
theorem kI (k:Nat) {l:List aB} (hl:len l≤8) (hw:jT l) {i:Int} (i0:0≤i) (i1:i<len l):bR k l i=some (fk l i):=by
 have hn:=dK i0 i1;have h1:=hw i i0 i1;have h2:=hw _ hn.1 hn.2;unfold Wn at h1 h2;unfold bR bR.c1;rw [cD i0,bF,jZ i1,bS,bF,rP (cZ i0 i1),rP (show nz (len l) by unfold nz; omega),gU i0 i1 (by omega),rP (cZ hn.1 hn.2)];show some (aU .i64 (q l (nx (len l) i)).2.1 (q l i).2.1,aU .i64 (q l i).1 (q l (nx (len l) i)).1,())=_;rw [cR (by omega) (by omega),cR (by omega) (by omega)];rfl
theorem D2 {k:Nat} (hk:9≤k) {a b:List aB} (ha:len a≤8) (wa:jT a) (hb:len b≤8) (b0:0<len b) (wb:jT b) {i:Int} (i0:0≤i) (i1:i<len a):bI k a b i=some (dp a b i):=by
 have ob:=lz wa i0 i1;have ai:=wa i i0 i1;unfold Wn at ai;have hd:∀ j:Int,0≤j→j<len b→ag .i64 (aN .i64 (fk a i).1 (aU .i64 (el bK a i).1 (el bK b j).1)) (aN .i64 (fk a i).2.1 (aU .i64 (el bK a i).2.1 (el bK b j).2.1))=Ef a b i j.toNat:=by
  intro j j0 j1;have bj:=wb j j0 j1;unfold Wn at bj;show ag .i64 (aN .i64 (fk a i).1 (aU .i64 (q a i).1 (q b j).1)) (aN .i64 (fk a i).2.1 (aU .i64 (q a i).2.1 (q b j).2.1))=_;rw [cR (by omega) (by omega),cR (by omega) (by omega)];have p1:=dB (x:=(fk a i).1) (y:=(q a i).1 - (q b j).1) (M:=131072000) (N:=131072000) (by omega) (by omega) (by omega) (by omega);have p2:=dB (x:=(fk a i).2.1) (y:=(q a i).2.1 - (q b j).2.1) (M:=131072000) (N:=131072000) (by omega) (by omega) (by omega) (by omega);rw [dr (by omega) (by omega),dr (by omega) (by omega),bH (by omega) (by omega)];unfold Ef;rw [show ((j.toNat:Nat):Int)=j by omega];unfold fk fb;dsimp only;grind
 have H:=iM (fun n s v=>bI.c1 k a b i (fk a i) n s v) 0 (len b) (fun s v=>(v=0→s=0)∧(0<v→s=CQ (Ef a b i) (v.toNat - 1)))
  (by
   intro n s v v0 v1 hs;show ∃ s',_∧bI.c1 k a b i (fk a i) (n+1) s v=bI.c1 k a b i (fk a i) n s' (v+1);rw [bI.c1,cB v1,bT,rP (cZ v0 v1),rP (cZ i0 i1)];unfold bI.c2;rw [hd v v0 v1,bH (by omega) (by omega)]
   by_cases c:v=0
   ·subst c
    rw [fw rfl,bT,bS,bT];exact ⟨_,⟨fun h=>by omega,fun _=>rfl⟩,rfl⟩
   ·rw [fu c,bF,bS]
    have hs':=hs.2 (by omega);have e:(v+1).toNat - 1=(v.toNat - 1)+1:=by omega
    have e2:(v.toNat - 1)+1=v.toNat:=by omega
    by_cases g:Ef a b i v.toNat > s
    ·rw [iR g,bT]
     refine ⟨_,⟨fun h=>by omega,fun _=>?_⟩,rfl⟩;rw [e];unfold CQ;rw [e2,← hs',if_pos g]
    ·rw [il (by omega),bF]
     refine ⟨_,⟨fun h=>by omega,fun _=>?_⟩,rfl⟩;rw [e];unfold CQ
     rw [e2,← hs',if_neg g])
  (by
   intro n s v v0 v1;show bI.c1 k a b i (fk a i) (n+1) s v=some s
   rw [bI.c1,cD v1,bF])
  k 0 0 (by omega) (by omega) (by omega) ⟨fun _=>rfl,fun h=>by omega⟩
 obtain ⟨s',hs,e⟩:=H;have e:bI.c1 k a b i (fk a i) k 0 0=some s':=e;unfold bI;rw [kI k ha wa i0 i1,bS,e,bS,hs.2 b0];unfold dp len;rfl
theorem Gn {a b:List aB} (i:Int) {j:Int} (j0:0≤j) (j1:j<len b):fb (q a i) (q a (nx (len a) i)) (q b j)≤dp a b i:=by
 have:=FA (Ef a b i) (b.length - 1) j.toNat (by unfold len at j1; omega);unfold Ef at this;rw [show ((j.toNat:Nat):Int)=j by omega] at this;exact this
theorem Bq {a b:List aB} (i:Int) (b0:0<len b):∃ j,0≤j∧j<len b∧dp a b i=fb (q a i) (q a (nx (len a) i)) (q b j):=by
 obtain ⟨j,a1,a2⟩:=E8 (Ef a b i) (b.length - 1);exact ⟨(j:Int),by omega,by unfold len at *; omega,a2⟩
theorem jL {a b:List aB} (b0:0<len b):jV a b↔∀ i,0≤i→i<len a→0≤dp a b i:=by
 constructor
 ·intro h i i0 i1
  obtain ⟨j,j0,j1,g⟩:=h i i0 i1;have:=Gn (a:=a) (b:=b) i j0 j1;omega
 ·intro h i i0 i1
  obtain ⟨j,j0,j1,g⟩:=Bq (a:=a) (b:=b) i b0;have:=h i i0 i1;exact ⟨j,j0,j1,by omega⟩
open Classical in
noncomputable def rt (n:Int):Int:=if h:∃ r,Rt n r then Classical.choose h else 0
theorem rt_eq {n r:Int} (h:Rt n r):rt n=r:=by
 have hx:∃ r,Rt n r:=⟨r,h⟩;unfold rt;rw [dif_pos hx];exact Dl (Classical.choose_spec hx) h
noncomputable def mO (l:List aB) (i:Int):Int:=rt ((fk l i).1*(fk l i).1+(fk l i).2.1*(fk l i).2.1)
noncomputable def wt (a b:List aB) (i:Int):Int:=jg (dp a b i) (mO a i)
theorem iJ (x:Int):0≤x*x:=by
 rcases Int.le_total 0 x with h | h
 ·exact Int.mul_nonneg h h
 ·exact Int.mul_nonneg_of_nonpos_of_nonpos h h
theorem tq {l:List aB} (h:jx l) {i:Int} (i0:0≤i) (i1:i<len l):¬ ((fk l i).1=0∧(fk l i).2.1=0):=by
 intro ⟨a,b⟩;refine DR h.2.2.2 h.1 i0 i1 (rH ?_ ?_)
 ·unfold fk at b; dsimp only at b; omega
 ·unfold fk at a; dsimp only at a; omega
theorem Hs {x y:Int} (h:¬ (x=0∧y=0)):0<x*x+y*y:=sq_pos (by omega)
theorem CW {l:List aB} (h:jx l) {i:Int} (i0:0≤i) (i1:i<len l):0<(fk l i).1*(fk l i).1+(fk l i).2.1*(fk l i).2.1∧(fk l i).1*(fk l i).1+(fk l i).2.1*(fk l i).2.1≤34359738368000000 ∧
  0≤(fk l i).1*(fk l i).1∧0≤(fk l i).2.1*(fk l i).2.1:=by
 have ob:=lz h.2.2.1 i0 i1;have p1:=dB (x:=(fk l i).1) (y:=(fk l i).1) (M:=131072000) (N:=131072000) (by omega) (by omega) (by omega) (by omega);have p2:=dB (x:=(fk l i).2.1) (y:=(fk l i).2.1) (M:=131072000) (N:=131072000) (by omega) (by omega) (by omega) (by omega);exact ⟨Hs (tq h i0 i1),by omega,iJ _,iJ _⟩
theorem kM {k:Nat} (hk:40≤k) {l:List aB} (h:jx l) {i:Int} (i0:0≤i) (i1:i<len l):eK k (fk l i)=some (mO l i)∧0<mO l i∧mO l i≤1000000000∧Rt ((fk l i).1*(fk l i).1+(fk l i).2.1*(fk l i).2.1) (mO l i):=by
 have s:=CW h i0 i1;obtain ⟨r,e,g⟩:=uP hk (n:=(fk l i).1*(fk l i).1+(fk l i).2.1*(fk l i).2.1) (by omega) (by omega);have hr:mO l i=r:=rt_eq g;refine ⟨?_,?_,?_,by rw [hr]; exact g⟩
 ·unfold eK
  rw [dr (by omega) (by omega),dr (by omega) (by omega),bH (by omega) (by omega),e,bS,hr]
 ·rw [hr]
  have:=nk (a:=1) (b:=r+1) (by decide) (by have:=g.1; omega) (by have:=g.2.2; omega);omega
 ·rw [hr]
  have:=nk (a:=r) (b:=1000000000) g.1 (by decide) (by have:=g.2.1; omega);omega
theorem GA {a b:List aB} (wa:jT a) (wb:jT b) (b0:0<len b) {i:Int} (i0:0≤i) (i1:i<len a):-34359738368000000≤dp a b i∧dp a b i≤34359738368000000:=by
 obtain ⟨j,j0,j1,g⟩:=Bq (a:=a) (b:=b) i b0;rw [g];exact rN (wa i i0 i1) (wa _ (dK i0 i1).1 (dK i0 i1).2) (wb j j0 j1)
theorem Aw {d n:Int} (hn:0<n) {c:Int} (c0:0≤c) (h0:-c≤d) (h1:d≤c):-c≤jg d n∧jg d n≤c:=by
 have:c≤n*c:=by
  have:=Int.mul_le_mul_of_nonneg_right (show 1≤n by omega) c0;omega
 exact mP hn (by omega) (by omega)
theorem A9 {k:Nat} (hk:40≤k) {a b:List aB} (ha:jx a) (hb:jx b) {i:Int} (i0:0≤i) (i1:i<len a) :
  ∃ c,aQ k (dp a b i) 1=some c∧∃ y,aa k c (mO a i)=some y∧y.1=wt a b i:=by
 have b0:0<len b:=by have:=hb.1; omega
 have bd:=GA ha.2.2.1 hb.2.2.1 b0 i0 i1;obtain ⟨c,e,hc,hv⟩:=iO k (a:=dp a b i) (b:=1) (by omega) (by omega) (by decide) (by decide);obtain ⟨_,l0,l1,_⟩:=kM hk ha i0 i1;refine ⟨c,e,_,qQ (by omega) hc l0 (by omega),?_⟩;rw [hv,Int.mul_one];have:=Aw (d:=dp a b i) l0 (c:=34359738368000000) (by decide) bd.1 bd.2;rw [su (by omega)];rfl
def PB (a b:List aB) (na nb:Int) (s:Bool) (e d:Int):Prop :=
 (s=false∧0≤e∧e<na∧d=wt a b e∧(∀ i,0≤i→i<e→d<wt a b i)∧(∀ i,e≤i→i<na→d≤wt a b i)∧∀ i,0≤i→i<nb→d≤wt b a i) ∨
 (s=true∧0≤e∧e<nb∧d=wt b a e∧(∀ i,0≤i→i<e→d<wt b a i)∧(∀ i,e≤i→i<nb→d≤wt b a i)∧∀ i,0≤i→i<na→d<wt a b i)
theorem Cp (a b:List aB):PB a b 1 0 false 0 (wt a b 0) :=
 Or.inl ⟨rfl,by decide,by decide,rfl,fun i h0 h1=>by omega,fun i h0 h1=>(by
  have:i=0:=by omega
  subst this
  exact Int.le_refl _),fun i h0 h1=>by omega⟩
theorem GC {a b:List aB} {n:Int} {s:Bool} {e d:Int} (hn:0≤n) (h:PB a b n 0 s e d) (g:wt a b n<d):PB a b (n+1) 0 false n (wt a b n):=by
 rcases h with ⟨h1,h2,h3,h4,h5,h6,h7⟩ | ⟨h1,h2,h3,h4,h5,h6,h7⟩
 ·refine Or.inl ⟨rfl,hn,by omega,rfl,fun i i0 i1=>?_,fun i i0 i1=>?_,fun i i0 i1=>by omega⟩
  ·rcases Int.lt_or_le i e with c | c
   ·have:=h5 i i0 c; omega
   ·have:=h6 i c i1; omega
  ·have:i=n:=by omega
   subst this; exact Int.le_refl _
 ·omega
theorem Gt {a b:List aB} {n:Int} {s:Bool} {e d:Int} (h:PB a b n 0 s e d) (g:¬ wt a b n<d):PB a b (n+1) 0 s e d:=by
 rcases h with ⟨h1,h2,h3,h4,h5,h6,h7⟩ | ⟨h1,h2,h3,h4,h5,h6,h7⟩
 ·refine Or.inl ⟨h1,h2,by omega,h4,h5,fun i i0 i1=>?_,h7⟩
  by_cases c:i=n
  ·subst c; omega
  ·exact h6 i i0 (by omega)
 ·omega
theorem FY {a b:List aB} {na n:Int} {s:Bool} {e d:Int} (hn:0≤n) (h:PB a b na n s e d) (g:wt b a n<d):PB a b na (n+1) true n (wt b a n):=by
 rcases h with ⟨h1,h2,h3,h4,h5,h6,h7⟩ | ⟨h1,h2,h3,h4,h5,h6,h7⟩
 ·refine Or.inr ⟨rfl,hn,by omega,rfl,fun i i0 i1=>?_,fun i i0 i1=>?_,fun i i0 i1=>?_⟩
  ·have:=h7 i i0 i1; omega
  ·have:i=n:=by omega
   subst this; exact Int.le_refl _
  ·rcases Int.lt_or_le i e with c | c
   ·have:=h5 i i0 c; omega
   ·have:=h6 i c i1; omega
 ·refine Or.inr ⟨rfl,hn,by omega,rfl,fun i i0 i1=>?_,fun i i0 i1=>?_,fun i i0 i1=>?_⟩
  ·rcases Int.lt_or_le i e with c | c
   ·have:=h5 i i0 c; omega
   ·have:=h6 i c i1; omega
  ·have:i=n:=by omega
   subst this; exact Int.le_refl _
  ·have:=h7 i i0 i1; omega
theorem Gx {a b:List aB} {na n:Int} {s:Bool} {e d:Int} (h:PB a b na n s e d) (g:¬ wt b a n<d):PB a b na (n+1) s e d:=by
 rcases h with ⟨h1,h2,h3,h4,h5,h6,h7⟩ | ⟨h1,h2,h3,h4,h5,h6,h7⟩
 ·refine Or.inl ⟨h1,h2,h3,h4,h5,h6,fun i i0 i1=>?_⟩
  by_cases c:i=n
  ·subst c; omega
  ·exact h7 i i0 (by omega)
 ·refine Or.inr ⟨h1,h2,by omega,h4,h5,fun i i0 i1=>?_,h7⟩
  by_cases c:i=n
  ·subst c; omega
  ·exact h6 i i0 (by omega)
theorem C5 {a b:List aB} {na nb:Int} {s t:Bool} {e f d c:Int} (h:PB a b na nb s e d) (g:PB a b na nb t f c):s=t∧e=f∧d=c:=by
 rcases h with ⟨h1,h2,h3,h4,h5,h6,h7⟩ | ⟨h1,h2,h3,h4,h5,h6,h7⟩ <;> rcases g with ⟨g1,g2,g3,g4,g5,g6,g7⟩ | ⟨g1,g2,g3,g4,g5,g6,g7⟩
 ·have:e=f:=by
   rcases Int.lt_trichotomy e f with x | x | x
   ·have:=g5 e h2 x
    have:=h6 f (by omega) g3;omega
   ·exact x
   ·have:=h5 f g2 x
    have:=g6 e (by omega) h3;omega
  subst this;exact ⟨by rw [h1,g1],rfl,by omega⟩
 ·exfalso
  have:=g7 e h2 h3;have:=h7 f g2 g3;omega
 ·exfalso
  have:=h7 f g2 g3;have:=g7 e h2 h3;omega
 ·have:e=f:=by
   rcases Int.lt_trichotomy e f with x | x | x
   ·have:=g5 e h2 x
    have:=h6 f (by omega) g3;omega
   ·exact x
   ·have:=h5 f g2 x
    have:=g6 e (by omega) h3;omega
  subst this;exact ⟨by rw [h1,g1],rfl,by omega⟩
theorem uQ {k:Nat} (hk:40≤k) {a0 a1 l m:List aB} {v5:Int} {s:Bool} (hl:el ([]:List aB) (el (List.replicate 2 []) [[a0,a1],[a1,a0]] v5) 0=l)
  (hm:el ([]:List aB) (el (List.replicate 2 []) [[a0,a1],[a1,a0]] v5) 1=m) (hs:gX v5 1=s) (vl:jx l) (vm:jx m) (Q:Int→Bool→Bool→Int→Int→Prop)
  (q1:∀ i x y z w,0≤i→i<len l→Q i x y z w→(x=true→wt l m i<w)→Q (i+1) true s i (wt l m i))
  (q2:∀ i x y z w,0≤i→i<len l→Q i x y z w→x=true→¬ wt l m i<w→Q (i+1) x y z w) :
  ∀ (d f:Nat) (i:Int) (x y:Bool) (z w:Int),i=len l - d→0≤i→d<f→Q i x y z w →
   (∃ j,i≤j∧j<len l∧dp l m j<0∧aH.c2 k a0 a1 v5 f x i y z w=some (.inl ())) ∨
   ((∀ j,i≤j→j<len l→0≤dp l m j)∧∃ x' y' z' w',aH.c2 k a0 a1 v5 f x i y z w=some (.inr (x',y',z',w'))∧Q (len l) x' y' z' w'):=by
 have l8:=vl.2.1;have m0:0<len m:=by have:=vm.1; omega
 intro d
 induction d with
 | zero =>
  intro f i x y z w hi i0 hf hq;obtain ⟨f,rfl⟩:∃ j,f=j+1:=⟨f - 1,by omega⟩;have e:i=len l:=by omega
  refine Or.inr ⟨fun j a b=>by omega,x,y,z,w,?_,by rw [← e]; exact hq⟩;rw [aH.c2,hl,cD (by omega),bF]
 | succ d ih =>
  intro f i x y z w hi i0 hf hq;obtain ⟨f,rfl⟩:∃ j,f=j+1:=⟨f - 1,by omega⟩;have i1:i<len l:=by omega
  rw [aH.c2,hl,hm,cB i1,bT,D2 (by omega) l8 vl.2.2.1 vm.2.1 m0 vm.2.2.1 i0 i1,bS]
  by_cases c:dp l m i<0
  ·exact Or.inl ⟨i,Int.le_refl i,i1,c,by rw [cB c,bT]⟩
  ·obtain ⟨T,eT,O,eO,hO⟩:=A9 hk vl vm i0 i1
   rw [cD (by omega),bF,kI k l8 vl.2.2.1 i0 i1,bS,eT,bS,(kM hk vl i0 i1).1,bS,eO,bS,bH (by omega) (by omega),hs];unfold aH.c3;rw [hO];have pass:∀ x' y' z' w',Q (i+1) x' y' z' w'→(∃ j,i≤j∧j<len l∧dp l m j<0∧aH.c2 k a0 a1 v5 f x' (i+1) y' z' w'=some (.inl ())) ∨
     ((∀ j,i≤j→j<len l→0≤dp l m j)∧∃ x'' y'' z'' w'',aH.c2 k a0 a1 v5 f x' (i+1) y' z' w'=some (.inr (x'',y'',z'',w''))∧Q (len l) x'' y'' z'' w''):=by
    intro x' y' z' w' h;rcases ih f (i+1) x' y' z' w' (by omega) (by omega) (by omega) h with ⟨j,g1,g2,g3,g4⟩ | ⟨g1,g2⟩
    ·exact Or.inl ⟨j,by omega,g2,g3,g4⟩
    ·refine Or.inr ⟨fun j j0 j1=>?_,g2⟩
     by_cases e:j=i
     ·rw [e]; omega
     ·exact g1 j (by omega) j1
   cases x with
   | false =>
    rw [bF,bS,bT];exact pass _ _ _ _ (q1 i false y z w i0 i1 hq (fun h=>by cases h))
   | true =>
    rw [bT]
    by_cases g:wt l m i<w
    ·rw [cB g,bS,bT]
     exact pass _ _ _ _ (q1 i true y z w i0 i1 hq (fun _=>g))
    ·rw [cD (by omega),bS,bF]
     exact pass _ _ _ _ (q2 i true y z w i0 i1 hq rfl g)
theorem BO {k:Nat} (hk:9≤k) {a b:List aB} (ha:jx a) (hb:jx b):gC k a b=some 0:=by
 unfold gC;rw [iQ hk ha,bS,ek rfl,bF,iQ hk hb,bS]
theorem nH {k:Nat} (hk:40≤k) {a b:List aB} (ha:jx a) (hb:jx b) :
  (¬ (jV a b∧jV b a)∧aH k a b=some ((false,0,0,()),false,0)) ∨
  ((jV a b∧jV b a)∧∃ s e d,aH k a b=some ((s,e,d,()),true,0)∧PB a b (len a) (len b) s e d):=by
 have a0:0<len a:=by have:=ha.1; omega
 have b0:0<len b:=by have:=hb.1; omega
 have a8:=ha.2.1;have b8:=hb.2.1;have L:len [[a,b],[b,a]]=2:=rfl;obtain ⟨k',rfl⟩:∃ j,k=j+3:=⟨k - 3,by omega⟩;have A:=uQ hk (a0:=a) (a1:=b) (l:=a) (m:=b) (v5:=0) (s:=false) rfl rfl rfl ha hb (fun i x y z w=>(i=0∧x=false)∨(x=true∧PB a b i 0 y z w))
  (by
   intro i x y z w i0 i1 h g;rcases h with ⟨h1,h2⟩ | ⟨h1,h2⟩
   ·subst h1
    exact Or.inr ⟨rfl,Cp a b⟩
   ·exact Or.inr ⟨rfl,GC i0 h2 (g h1)⟩)
  (by
   intro i x y z w i0 i1 h hx g;rcases h with ⟨h1,h2⟩ | ⟨h1,h2⟩
   ·rw [h2] at hx; cases hx
   ·exact Or.inr ⟨h1,Gt h2 g⟩)
  a.length (k'+3) 0 false false 0 0 (by unfold len; omega) (by decide) (by unfold len at a8; omega) (Or.inl ⟨rfl,rfl⟩)
 have st0:aH.c1 (k'+3) a b (k'+3) false 0 false 0 0=bG (aH.c2 (k'+3) a b 0 (k'+3) false 0 false 0 0) fun o32=>two o32 (fun _=>some (.inl ())) (fun y36=>aH.c1 (k'+3) a b (k'+2) y36.1 1 y36.2.1 y36.2.2.1 y36.2.2.2):=by
  rw [aH.c1,L,cB (by decide),bT,rP (show gn 0 [[a,b],[b,a]] from ⟨by decide,by show _<(2:Int); decide⟩)];rfl
 unfold aH;rw [BO (by omega) ha hb,bS,ek rfl,bF,st0];rcases A with ⟨j,j0,j1,j2,e⟩ | ⟨h1,x,y,z,w,e,hq⟩
 ·left
  refine ⟨fun h=>?_,by rw [e,bS,ir,bS,ir]⟩;have:=(jL b0).1 h.1 j j0 j1;omega
 ·have hx:x=true∧PB a b (len a) 0 y z w:=by
   rcases hq with ⟨g,_⟩ | g
   ·omega
   ·exact g
  obtain ⟨rfl,hp⟩:=hx;have B:=uQ hk (a0:=a) (a1:=b) (l:=b) (m:=a) (v5:=1) (s:=true) rfl rfl rfl hb ha (fun i x y z w=>x=true∧PB a b (len a) i y z w)
   (by
    intro i x y z w i0 i1 h g
    exact ⟨rfl,FY i0 h.2 (g h.1)⟩)
   (by
    intro i x y z w i0 i1 h hx g
    exact ⟨hx,Gx h.2 g⟩)
   b.length (k'+3) 0 true y z w (by unfold len; omega) (by decide) (by unfold len at b8; omega) ⟨rfl,hp⟩
  have st1:aH.c1 (k'+3) a b (k'+2) true 1 y z w=bG (aH.c2 (k'+3) a b 1 (k'+3) true 0 y z w) fun o32=>two o32 (fun _=>some (.inl ())) (fun y36=>aH.c1 (k'+3) a b (k'+1) y36.1 2 y36.2.1 y36.2.2.1 y36.2.2.2):=by
   rw [aH.c1,L,cB (by decide),bT,rP (show gn 1 [[a,b],[b,a]] from ⟨by decide,by show _<(2:Int); decide⟩)];rfl
  rw [e,bS,ig];dsimp only;rw [st1];rcases B with ⟨j,j0,j1,j2,e⟩ | ⟨g1,x',y',z',w',e,hq⟩
  ·left
   refine ⟨fun h=>?_,by rw [e,bS,ir,bS,ir]⟩;have:=(jL a0).1 h.2 j j0 j1;omega
  ·right
   refine ⟨⟨(jL b0).2 (fun i i0 i1=>h1 i i0 i1),(jL a0).2 (fun i i0 i1=>g1 i i0 i1)⟩,y',z',w',?_,hq.2⟩;rw [e,bS,ig];dsimp only;rw [aH.c1,L,cD (by decide),bF,bS,ig]
def rq (a b:List aB) (s:Bool) (e:Int):aB:=if s then (-(fk b e).1,-(fk b e).2.1,()) else fk a e
theorem qC {a b:List aB} {s:Bool} {e d:Int} (h:PB a b (len a) (len b) s e d):(s=false→0≤e∧e<len a)∧(s=true→0≤e∧e<len b):=by
 rcases h with h | h
 ·exact ⟨fun _=>⟨h.2.1,h.2.2.1⟩,fun g=>(by rw [h.1] at g; cases g)⟩
 ·exact ⟨fun g=>(by rw [h.1] at g; cases g),fun _=>⟨h.2.1,h.2.2.1⟩⟩
theorem yn {a b:List aB} (ha:jx a) (hb:jx b) {s:Bool} {e d:Int} (h:PB a b (len a) (len b) s e d):¬ ((rq a b s e).1=0∧(rq a b s e).2.1=0) ∧
  (-1099511627776≤(rq a b s e).1∧(rq a b s e).1≤1099511627776∧-1099511627776≤(rq a b s e).2.1∧(rq a b s e).2.1≤1099511627776):=by
 have r:=qC h;unfold rq;cases s with
 | false =>
  have r:=r.1 rfl;have o:=lz ha.2.2.1 r.1 r.2;rw [if_neg (by decide)];exact ⟨tq ha r.1 r.2,by omega⟩
 | true =>
  have r:=r.2 rfl;have o:=lz hb.2.2.1 r.1 r.2;have n:=tq hb r.1 r.2;rw [if_pos rfl];dsimp only;exact ⟨fun g=>n (by omega),by omega⟩
theorem ta {k:Nat} (hk:70≤k) {a b:List aB} (ha:jx a) (hb:jx b) :
  (¬ (jV a b∧jV b a)∧cE k a b=some (false,0,(0,0,()))) ∨
  ((jV a b∧jV b a)∧∃ s e d u,cE k a b=some (true,d,u)∧PB a b (len a) (len b) s e d∧bM k (rq a b s e)=some u):=by
 unfold cE;rcases nH (k:=k) (by omega) ha hb with ⟨n,e⟩ | ⟨n,s,e,d,h,p⟩
 ·left
  refine ⟨n,?_⟩;rw [e,bS];unfold cE.c1;rw [ek rfl,bF,bS];rfl
 ·right
  refine ⟨n,s,e,d,?_⟩;have w:=yn ha hb p;obtain ⟨x,y,l,hu,_⟩:=xX hk w.2 w.1;refine ⟨_,?_,p,hu⟩;rw [h,bS];unfold cE.c1;rw [ek rfl,bF,bS];show aR false _ _=_;rw [bF];have r:=qC p;cases s with
  | false =>
   have r:=r.1 rfl;show aR false _ _=_;rw [bF,kI k ha.2.1 ha.2.2.1 r.1 r.2,bS];unfold rq at hu;rw [if_neg (by decide)] at hu;rw [hu,bS]
  | true =>
   have r:=r.2 rfl;have o:=lz hb.2.2.1 r.1 r.2;show aR true _ _=_;rw [bT,kI k hb.2.1 hb.2.2.1 r.1 r.2,bS];have n1:c9 .i64 (fk b e).1=-(fk b e).1:=by unfold c9; rw [wrap_i64 (by omega) (by omega)]; omega
   have n2:c9 .i64 (fk b e).2.1=-(fk b e).2.1:=by unfold c9; rw [wrap_i64 (by omega) (by omega)]; omega
   unfold rq at hu;rw [if_pos rfl] at hu;rw [n1,n2,hu,bS]
end Go.Proofs.T1
