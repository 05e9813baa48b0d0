import Derived.Test.YtipddonkkhjegaaGreatPlRoot
import Derived.Test.YtipddonkkhjegaaGreatPlGeo
namespace Go.Proofs.T1
open Go Go.Sx
def C4 (f:Nat→Int):Nat→Int
 | 0=>f 0
 | n+1=>if C4 f n<f (n+1) then f (n+1) else C4 f n
theorem Fe (f:Nat→Int):∀ n j,j≤n→f j≤C4 f n:=by
 intro n
 induction n with
 | zero =>
  intro j h; have:j=0:=by omega
  subst this; exact Int.le_refl _
 | succ n ih =>
  intro j h;unfold C4
  by_cases c:j=n+1
  ·subst c; split <;> omega
  ·have:=ih j (by omega)
   split <;> omega
theorem Fk (f:Nat→Int):∀ n,∃ j,j≤n∧C4 f n=f j:=by
 intro n
 induction n with
 | zero=>exact ⟨0,Nat.le_refl 0,rfl⟩
 | succ n ih =>
  unfold C4;split
  ·exact ⟨n+1,Nat.le_refl _,rfl⟩
  ·obtain ⟨j,a,b⟩:=ih
   exact ⟨j,by omega,b⟩
def eM (l:List ay) (i:Int):ay:=((q l (nx (len l) i)).2.1 - (q l i).2.1,(q l i).1 - (q l (nx (len l) i)).1,())
def Ep (a b:List ay) (i:Int) (j:Nat):Int:=cV (q a i) (q a (nx (len a) i)) (q b j)
def dp (a b:List ay) (i:Int):Int:=C4 (Ep a b i) (b.length - 1)
theorem jF {l:List ay} (hw:kh l) {i:Int} (i0:0≤i) (i1:i<len l):-131072000≤(eM l i).1∧(eM l i).1≤131072000∧-131072000≤(eM l i).2.1∧(eM l i).2.1≤131072000:=by
 have hn:=dK i0 i1;have h1:=hw i i0 i1;have h2:=hw _ hn.1 hn.2;unfold eM;unfold Wn at h1 h2;dsimp only;omega
theorem kD (k:Nat) {l:List ay} (hl:len l≤8) (hw:kh l) {i:Int} (i0:0≤i) (i1:i<len l):bU k l i=some (eM l i):=by
 have hn:=dK i0 i1;have h1:=hw i i0 i1;have h2:=hw _ hn.1 hn.2;unfold Wn at h1 h2;unfold bU bU.c1;rw [bZ i0,bF,iV i1,bS,bF,rP (bu i0 i1),rP (show nz (len l) by unfold nz; omega),gK i0 i1 (by omega),rP (bu hn.1 hn.2)];show some (bY .i64 (q l (nx (len l) i)).2.1 (q l i).2.1,bY .i64 (q l i).1 (q l (nx (len l) i)).1,())=_;rw [cR (by omega) (by omega),cR (by omega) (by omega)];rfl
theorem Dh {k:Nat} (hk:9≤k) {a b:List ay} (ha:len a≤8) (wa:kh a) (hb:len b≤8) (b0:0<len b) (wb:kh b) {i:Int} (i0:0≤i) (i1:i<len a):bK k a b i=some (dp a b i):=by
 have ob:=jF wa i0 i1;have ai:=wa i i0 i1;unfold Wn at ai;have hd:∀ j:Int,0≤j→j<len b→ao .i64 (a7 .i64 (eM a i).1 (bY .i64 (el cH a i).1 (el cH b j).1)) (a7 .i64 (eM a i).2.1 (bY .i64 (el cH a i).2.1 (el cH b j).2.1))=Ep a b i j.toNat:=by
  intro j j0 j1;have bj:=wb j j0 j1;unfold Wn at bj;show ao .i64 (a7 .i64 (eM a i).1 (bY .i64 (q a i).1 (q b j).1)) (a7 .i64 (eM a i).2.1 (bY .i64 (q a i).2.1 (q b j).2.1))=_;rw [cR (by omega) (by omega),cR (by omega) (by omega)];have p1:=ek (x:=(eM a i).1) (y:=(q a i).1 - (q b j).1) (M:=131072000) (N:=131072000) (by omega) (by omega) (by omega) (by omega);have p2:=ek (x:=(eM a i).2.1) (y:=(q a i).2.1 - (q b j).2.1) (M:=131072000) (N:=131072000) (by omega) (by omega) (by omega) (by omega);rw [eB (by omega) (by omega),eB (by omega) (by omega),aX (by omega) (by omega)];unfold Ep;rw [show ((j.toNat:Nat):Int)=j by omega];unfold eM cV;dsimp only;grind
 have H:=gS (fun n s v=>bK.c1 k a b i (eM a i) n s v) 0 (len b) (fun s v=>(v=0→s=0)∧(0<v→s=C4 (Ep a b i) (v.toNat - 1)))
  (by
   intro n s v v0 v1 hs;show ∃ s',_∧bK.c1 k a b i (eM a i) (n+1) s v=bK.c1 k a b i (eM a i) n s' (v+1);rw [bK.c1,bA v1,bT,rP (bu v0 v1),rP (bu i0 i1)];unfold bK.c2;rw [hd v v0 v1,aX (by omega) (by omega)]
   by_cases c:v=0
   ·subst c
    rw [fw rfl,bT,bS,bT];exact ⟨_,⟨fun h=>by omega,fun _=>rfl⟩,rfl⟩
   ·rw [fl c,bF,bS]
    have hs':=hs.2 (by omega);have e:(v+1).toNat - 1=(v.toNat - 1)+1:=by omega
    have e2:(v.toNat - 1)+1=v.toNat:=by omega
    by_cases g:Ep a b i v.toNat > s
    ·rw [gM g,bT]
     refine ⟨_,⟨fun h=>by omega,fun _=>?_⟩,rfl⟩;rw [e];unfold C4;rw [e2,← hs',if_pos g]
    ·rw [gG (by omega),bF]
     refine ⟨_,⟨fun h=>by omega,fun _=>?_⟩,rfl⟩;rw [e];unfold C4
     rw [e2,← hs',if_neg g])
  (by
   intro n s v v0 v1;show bK.c1 k a b i (eM a i) (n+1) s v=some s
   rw [bK.c1,bZ v1,bF])
  k 0 0 (by omega) (by omega) (by omega) ⟨fun _=>rfl,fun h=>by omega⟩
 obtain ⟨s',hs,e⟩:=H;have e:bK.c1 k a b i (eM a i) k 0 0=some s':=e;unfold bK;rw [kD k ha wa i0 i1,bS,e,bS,hs.2 b0];unfold dp len;rfl
theorem EB {a b:List ay} (i:Int) {j:Int} (j0:0≤j) (j1:j<len b):cV (q a i) (q a (nx (len a) i)) (q b j)≤dp a b i:=by
 have:=Fe (Ep a b i) (b.length - 1) j.toNat (by unfold len at j1; omega);unfold Ep at this;rw [show ((j.toNat:Nat):Int)=j by omega] at this;exact this
theorem CY {a b:List ay} (i:Int) (b0:0<len b):∃ j,0≤j∧j<len b∧dp a b i=cV (q a i) (q a (nx (len a) i)) (q b j):=by
 obtain ⟨j,a1,a2⟩:=Fk (Ep a b i) (b.length - 1);exact ⟨(j:Int),by omega,by unfold len at *; omega,a2⟩
theorem kA {a b:List ay} (b0:0<len b):iQ a b↔∀ i,0≤i→i<len a→0≤dp a b i:=by
 constructor
 ·intro h i i0 i1
  obtain ⟨j,j0,j1,g⟩:=h i i0 i1;have:=EB (a:=a) (b:=b) i j0 j1;omega
 ·intro h i i0 i1
  obtain ⟨j,j0,j1,g⟩:=CY (a:=a) (b:=b) i b0;have:=h i i0 i1;exact ⟨j,j0,j1,by omega⟩
open Classical in
noncomputable def rt (n:Int):Int:=if h:∃ r,Rt n r then Classical.choose h else 0
theorem rt_eq {n r:Int} (h:Rt n r):rt n=r:=by
 have hx:∃ r,Rt n r:=⟨r,h⟩;unfold rt;rw [dif_pos hx];exact Ec (Classical.choose_spec hx) h
noncomputable def oE (l:List ay) (i:Int):Int:=rt ((eM l i).1*(eM l i).1+(eM l i).2.1*(eM l i).2.1)
noncomputable def wt (a b:List ay) (i:Int):Int:=iF (dp a b i) (oE a i)
theorem Ey (x:Int):0≤x*x:=by
 rcases Int.le_total 0 x with h | h
 ·exact Int.mul_nonneg h h
 ·exact Int.mul_nonneg_of_nonpos_of_nonpos h h
theorem sR {l:List ay} (h:ju l) {i:Int} (i0:0≤i) (i1:i<len l):¬ ((eM l i).1=0∧(eM l i).2.1=0):=by
 intro ⟨a,b⟩;refine nI h.2.2.2 h.1 i0 i1 (oL ?_ ?_)
 ·unfold eM at b; dsimp only at b; omega
 ·unfold eM at a; dsimp only at a; omega
theorem HE {x y:Int} (h:¬ (x=0∧y=0)):0<x*x+y*y:=sq_pos (by omega)
theorem zb {l:List ay} (h:ju l) {i:Int} (i0:0≤i) (i1:i<len l):0<(eM l i).1*(eM l i).1+(eM l i).2.1*(eM l i).2.1∧(eM l i).1*(eM l i).1+(eM l i).2.1*(eM l i).2.1≤34359738368000000 ∧
  0≤(eM l i).1*(eM l i).1∧0≤(eM l i).2.1*(eM l i).2.1:=by
 have ob:=jF h.2.2.1 i0 i1;have p1:=ek (x:=(eM l i).1) (y:=(eM l i).1) (M:=131072000) (N:=131072000) (by omega) (by omega) (by omega) (by omega);have p2:=ek (x:=(eM l i).2.1) (y:=(eM l i).2.1) (M:=131072000) (N:=131072000) (by omega) (by omega) (by omega) (by omega);exact ⟨HE (sR h i0 i1),by omega,Ey _,Ey _⟩
theorem jH {k:Nat} (hk:40≤k) {l:List ay} (h:ju l) {i:Int} (i0:0≤i) (i1:i<len l):ep k (eM l i)=some (oE l i)∧0<oE l i∧oE l i≤1000000000∧Rt ((eM l i).1*(eM l i).1+(eM l i).2.1*(eM l i).2.1) (oE l i):=by
 have s:=zb h i0 i1;obtain ⟨r,e,g⟩:=uR hk (n:=(eM l i).1*(eM l i).1+(eM l i).2.1*(eM l i).2.1) (by omega) (by omega);have hr:oE l i=r:=rt_eq g;refine ⟨?_,?_,?_,by rw [hr]; exact g⟩
 ·unfold ep
  rw [eB (by omega) (by omega),eB (by omega) (by omega),aX (by omega) (by omega),e,bS,hr]
 ·rw [hr]
  have:=qa (a:=1) (b:=r+1) (by decide) (by have:=g.1; omega) (by have:=g.2.2; omega);omega
 ·rw [hr]
  have:=qa (a:=r) (b:=1000000000) g.1 (by decide) (by have:=g.2.1; omega);omega
theorem Gk {a b:List ay} (wa:kh a) (wb:kh b) (b0:0<len b) {i:Int} (i0:0≤i) (i1:i<len a):-34359738368000000≤dp a b i∧dp a b i≤34359738368000000:=by
 obtain ⟨j,j0,j1,g⟩:=CY (a:=a) (b:=b) i b0;rw [g];exact lR (wa i i0 i1) (wa _ (dK i0 i1).1 (dK i0 i1).2) (wb j j0 j1)
theorem xR {d n:Int} (hn:0<n) {c:Int} (c0:0≤c) (h0:-c≤d) (h1:d≤c):-c≤iF d n∧iF d n≤c:=by
 have:c≤n*c:=by
  have:=Int.mul_le_mul_of_nonneg_right (show 1≤n by omega) c0;omega
 exact xk hn (by omega) (by omega)
theorem CI {k:Nat} (hk:40≤k) {a b:List ay} (ha:ju a) (hb:ju b) {i:Int} (i0:0≤i) (i1:i<len a) :
  ∃ c,bb k (dp a b i) 1=some c∧∃ y,aa k c (oE a i)=some y∧y.1=wt a b i:=by
 have b0:0<len b:=by have:=hb.1; omega
 have bd:=Gk ha.2.2.1 hb.2.2.1 b0 i0 i1;obtain ⟨c,e,hc,hv⟩:=lu k (a:=dp a b i) (b:=1) (by omega) (by omega) (by decide) (by decide);obtain ⟨_,l0,l1,_⟩:=jH hk ha i0 i1;refine ⟨c,e,_,qM (by omega) hc l0 (by omega),?_⟩;rw [hv,Int.mul_one];have:=xR (d:=dp a b i) l0 (c:=34359738368000000) (by decide) bd.1 bd.2;rw [mL (by omega)];rfl
def PB (a b:List ay) (na nb:Int) (s:Bool) (e d:Int):Prop :=
 (s=false∧0≤e∧e<na∧d=wt a b e∧(∀ i,0≤i→i<e→d<wt a b i)∧(∀ i,e≤i→i<na→d≤wt a b i)∧∀ i,0≤i→i<nb→d≤wt b a i) ∨
 (s=true∧0≤e∧e<nb∧d=wt b a e∧(∀ i,0≤i→i<e→d<wt b a i)∧(∀ i,e≤i→i<nb→d≤wt b a i)∧∀ i,0≤i→i<na→d<wt a b i)
theorem uW (a b:List ay):PB a b 1 0 false 0 (wt a b 0) :=
 Or.inl ⟨rfl,by decide,by decide,rfl,fun i h0 h1=>by omega,fun i h0 h1=>(by
  have:i=0:=by omega
  subst this
  exact Int.le_refl _),fun i h0 h1=>by omega⟩
theorem EF {a b:List ay} {n:Int} {s:Bool} {e d:Int} (hn:0≤n) (h:PB a b n 0 s e d) (g:wt a b n<d):PB a b (n+1) 0 false n (wt a b n):=by
 rcases h with ⟨h1,h2,h3,h4,h5,h6,h7⟩ | ⟨h1,h2,h3,h4,h5,h6,h7⟩
 ·refine Or.inl ⟨rfl,hn,by omega,rfl,fun i i0 i1=>?_,fun i i0 i1=>?_,fun i i0 i1=>by omega⟩
  ·rcases Int.lt_or_le i e with c | c
   ·have:=h5 i i0 c; omega
   ·have:=h6 i c i1; omega
  ·have:i=n:=by omega
   subst this; exact Int.le_refl _
 ·omega
theorem Ew {a b:List ay} {n:Int} {s:Bool} {e d:Int} (h:PB a b n 0 s e d) (g:¬ wt a b n<d):PB a b (n+1) 0 s e d:=by
 rcases h with ⟨h1,h2,h3,h4,h5,h6,h7⟩ | ⟨h1,h2,h3,h4,h5,h6,h7⟩
 ·refine Or.inl ⟨h1,h2,by omega,h4,h5,fun i i0 i1=>?_,h7⟩
  by_cases c:i=n
  ·subst c; omega
  ·exact h6 i i0 (by omega)
 ·omega
theorem EN {a b:List ay} {na n:Int} {s:Bool} {e d:Int} (hn:0≤n) (h:PB a b na n s e d) (g:wt b a n<d):PB a b na (n+1) true n (wt b a n):=by
 rcases h with ⟨h1,h2,h3,h4,h5,h6,h7⟩ | ⟨h1,h2,h3,h4,h5,h6,h7⟩
 ·refine Or.inr ⟨rfl,hn,by omega,rfl,fun i i0 i1=>?_,fun i i0 i1=>?_,fun i i0 i1=>?_⟩
  ·have:=h7 i i0 i1; omega
  ·have:i=n:=by omega
   subst this; exact Int.le_refl _
  ·rcases Int.lt_or_le i e with c | c
   ·have:=h5 i i0 c; omega
   ·have:=h6 i c i1; omega
 ·refine Or.inr ⟨rfl,hn,by omega,rfl,fun i i0 i1=>?_,fun i i0 i1=>?_,fun i i0 i1=>?_⟩
  ·rcases Int.lt_or_le i e with c | c
   ·have:=h5 i i0 c; omega
   ·have:=h6 i c i1; omega
  ·have:i=n:=by omega
   subst this; exact Int.le_refl _
  ·have:=h7 i i0 i1; omega
theorem E4 {a b:List ay} {na n:Int} {s:Bool} {e d:Int} (h:PB a b na n s e d) (g:¬ wt b a n<d):PB a b na (n+1) s e d:=by
 rcases h with ⟨h1,h2,h3,h4,h5,h6,h7⟩ | ⟨h1,h2,h3,h4,h5,h6,h7⟩
 ·refine Or.inl ⟨h1,h2,h3,h4,h5,h6,fun i i0 i1=>?_⟩
  by_cases c:i=n
  ·subst c; omega
  ·exact h7 i i0 (by omega)
 ·refine Or.inr ⟨h1,h2,by omega,h4,h5,fun i i0 i1=>?_,h7⟩
  by_cases c:i=n
  ·subst c; omega
  ·exact h6 i i0 (by omega)
theorem yT {a b:List ay} {na nb:Int} {s t:Bool} {e f d c:Int} (h:PB a b na nb s e d) (g:PB a b na nb t f c):s=t∧e=f∧d=c:=by
 rcases h with ⟨h1,h2,h3,h4,h5,h6,h7⟩ | ⟨h1,h2,h3,h4,h5,h6,h7⟩ <;> rcases g with ⟨g1,g2,g3,g4,g5,g6,g7⟩ | ⟨g1,g2,g3,g4,g5,g6,g7⟩
 ·have:e=f:=by
   rcases Int.lt_trichotomy e f with x | x | x
   ·have:=g5 e h2 x
    have:=h6 f (by omega) g3;omega
   ·exact x
   ·have:=h5 f g2 x
    have:=g6 e (by omega) h3;omega
  subst this;exact ⟨by rw [h1,g1],rfl,by omega⟩
 ·exfalso
  have:=g7 e h2 h3;have:=h7 f g2 g3;omega
 ·exfalso
  have:=h7 f g2 g3;have:=g7 e h2 h3;omega
 ·have:e=f:=by
   rcases Int.lt_trichotomy e f with x | x | x
   ·have:=g5 e h2 x
    have:=h6 f (by omega) g3;omega
   ·exact x
   ·have:=h5 f g2 x
    have:=g6 e (by omega) h3;omega
  subst this;exact ⟨by rw [h1,g1],rfl,by omega⟩
theorem tZ {k:Nat} (hk:40≤k) {a0 a1 l m:List ay} {v5:Int} {s:Bool} (hl:el ([]:List ay) (el (List.replicate 2 []) [[a0,a1],[a1,a0]] v5) 0=l)
  (hm:el ([]:List ay) (el (List.replicate 2 []) [[a0,a1],[a1,a0]] v5) 1=m) (hs:gB v5 1=s) (vl:ju l) (vm:ju m) (Q:Int→Bool→Bool→Int→Int→Prop)
  (q1:∀ i x y z w,0≤i→i<len l→Q i x y z w→(x=true→wt l m i<w)→Q (i+1) true s i (wt l m i))
  (q2:∀ i x y z w,0≤i→i<len l→Q i x y z w→x=true→¬ wt l m i<w→Q (i+1) x y z w) :
  ∀ (d f:Nat) (i:Int) (x y:Bool) (z w:Int),i=len l - d→0≤i→d<f→Q i x y z w →
   (∃ j,i≤j∧j<len l∧dp l m j<0∧aH.c2 k a0 a1 v5 f x i y z w=some (.inl ())) ∨
   ((∀ j,i≤j→j<len l→0≤dp l m j)∧∃ x' y' z' w',aH.c2 k a0 a1 v5 f x i y z w=some (.inr (x',y',z',w'))∧Q (len l) x' y' z' w'):=by
 have l8:=vl.2.1;have m0:0<len m:=by have:=vm.1; omega
 intro d
 induction d with
 | zero =>
  intro f i x y z w hi i0 hf hq;obtain ⟨f,rfl⟩:∃ j,f=j+1:=⟨f - 1,by omega⟩;have e:i=len l:=by omega
  refine Or.inr ⟨fun j a b=>by omega,x,y,z,w,?_,by rw [← e]; exact hq⟩;rw [aH.c2,hl,bZ (by omega),bF]
 | succ d ih =>
  intro f i x y z w hi i0 hf hq;obtain ⟨f,rfl⟩:∃ j,f=j+1:=⟨f - 1,by omega⟩;have i1:i<len l:=by omega
  rw [aH.c2,hl,hm,bA i1,bT,Dh (by omega) l8 vl.2.2.1 vm.2.1 m0 vm.2.2.1 i0 i1,bS]
  by_cases c:dp l m i<0
  ·exact Or.inl ⟨i,Int.le_refl i,i1,c,by rw [bA c,bT]⟩
  ·obtain ⟨T,eT,O,eO,hO⟩:=CI hk vl vm i0 i1
   rw [bZ (by omega),bF,kD k l8 vl.2.2.1 i0 i1,bS,eT,bS,(jH hk vl i0 i1).1,bS,eO,bS,aX (by omega) (by omega),hs];unfold aH.c3;rw [hO];have pass:∀ x' y' z' w',Q (i+1) x' y' z' w'→(∃ j,i≤j∧j<len l∧dp l m j<0∧aH.c2 k a0 a1 v5 f x' (i+1) y' z' w'=some (.inl ())) ∨
     ((∀ j,i≤j→j<len l→0≤dp l m j)∧∃ x'' y'' z'' w'',aH.c2 k a0 a1 v5 f x' (i+1) y' z' w'=some (.inr (x'',y'',z'',w''))∧Q (len l) x'' y'' z'' w''):=by
    intro x' y' z' w' h;rcases ih f (i+1) x' y' z' w' (by omega) (by omega) (by omega) h with ⟨j,g1,g2,g3,g4⟩ | ⟨g1,g2⟩
    ·exact Or.inl ⟨j,by omega,g2,g3,g4⟩
    ·refine Or.inr ⟨fun j j0 j1=>?_,g2⟩
     by_cases e:j=i
     ·rw [e]; omega
     ·exact g1 j (by omega) j1
   cases x with
   | false =>
    rw [bF,bS,bT];exact pass _ _ _ _ (q1 i false y z w i0 i1 hq (fun h=>by cases h))
   | true =>
    rw [bT]
    by_cases g:wt l m i<w
    ·rw [bA g,bS,bT]
     exact pass _ _ _ _ (q1 i true y z w i0 i1 hq (fun _=>g))
    ·rw [bZ (by omega),bS,bF]
     exact pass _ _ _ _ (q2 i true y z w i0 i1 hq rfl g)
theorem Ct {k:Nat} (hk:9≤k) {a b:List ay} (ha:ju a) (hb:ju b):gm k a b=some 0:=by
 unfold gm;rw [lY hk ha,bS,dR rfl,bF,lY hk hb,bS]
theorem ql {k:Nat} (hk:40≤k) {a b:List ay} (ha:ju a) (hb:ju b) :
  (¬ (iQ a b∧iQ b a)∧aH k a b=some ((false,0,0,()),false,0)) ∨
  ((iQ a b∧iQ b a)∧∃ s e d,aH k a b=some ((s,e,d,()),true,0)∧PB a b (len a) (len b) s e d):=by
 have a0:0<len a:=by have:=ha.1; omega
 have b0:0<len b:=by have:=hb.1; omega
 have a8:=ha.2.1;have b8:=hb.2.1;have L:len [[a,b],[b,a]]=2:=rfl;obtain ⟨k',rfl⟩:∃ j,k=j+3:=⟨k - 3,by omega⟩;have A:=tZ hk (a0:=a) (a1:=b) (l:=a) (m:=b) (v5:=0) (s:=false) rfl rfl rfl ha hb (fun i x y z w=>(i=0∧x=false)∨(x=true∧PB a b i 0 y z w))
  (by
   intro i x y z w i0 i1 h g;rcases h with ⟨h1,h2⟩ | ⟨h1,h2⟩
   ·subst h1
    exact Or.inr ⟨rfl,uW a b⟩
   ·exact Or.inr ⟨rfl,EF i0 h2 (g h1)⟩)
  (by
   intro i x y z w i0 i1 h hx g;rcases h with ⟨h1,h2⟩ | ⟨h1,h2⟩
   ·rw [h2] at hx; cases hx
   ·exact Or.inr ⟨h1,Ew h2 g⟩)
  a.length (k'+3) 0 false false 0 0 (by unfold len; omega) (by decide) (by unfold len at a8; omega) (Or.inl ⟨rfl,rfl⟩)
 have st0:aH.c1 (k'+3) a b (k'+3) false 0 false 0 0=bB (aH.c2 (k'+3) a b 0 (k'+3) false 0 false 0 0) fun o32=>two o32 (fun _=>some (.inl ())) (fun y36=>aH.c1 (k'+3) a b (k'+2) y36.1 1 y36.2.1 y36.2.2.1 y36.2.2.2):=by
  rw [aH.c1,L,bA (by decide),bT,rP (show gi 0 [[a,b],[b,a]] from ⟨by decide,by show _<(2:Int); decide⟩)];rfl
 unfold aH;rw [Ct (by omega) ha hb,bS,dR rfl,bF,st0];rcases A with ⟨j,j0,j1,j2,e⟩ | ⟨h1,x,y,z,w,e,hq⟩
 ·left
  refine ⟨fun h=>?_,by rw [e,bS,eE,bS,eE]⟩;have:=(kA b0).1 h.1 j j0 j1;omega
 ·have hx:x=true∧PB a b (len a) 0 y z w:=by
   rcases hq with ⟨g,_⟩ | g
   ·omega
   ·exact g
  obtain ⟨rfl,hp⟩:=hx;have B:=tZ hk (a0:=a) (a1:=b) (l:=b) (m:=a) (v5:=1) (s:=true) rfl rfl rfl hb ha (fun i x y z w=>x=true∧PB a b (len a) i y z w)
   (by
    intro i x y z w i0 i1 h g
    exact ⟨rfl,EN i0 h.2 (g h.1)⟩)
   (by
    intro i x y z w i0 i1 h hx g
    exact ⟨hx,E4 h.2 g⟩)
   b.length (k'+3) 0 true y z w (by unfold len; omega) (by decide) (by unfold len at b8; omega) ⟨rfl,hp⟩
  have st1:aH.c1 (k'+3) a b (k'+2) true 1 y z w=bB (aH.c2 (k'+3) a b 1 (k'+3) true 0 y z w) fun o32=>two o32 (fun _=>some (.inl ())) (fun y36=>aH.c1 (k'+3) a b (k'+1) y36.1 2 y36.2.1 y36.2.2.1 y36.2.2.2):=by
   rw [aH.c1,L,bA (by decide),bT,rP (show gi 1 [[a,b],[b,a]] from ⟨by decide,by show _<(2:Int); decide⟩)];rfl
  rw [e,bS,eW];dsimp only;rw [st1];rcases B with ⟨j,j0,j1,j2,e⟩ | ⟨g1,x',y',z',w',e,hq⟩
  ·left
   refine ⟨fun h=>?_,by rw [e,bS,eE,bS,eE]⟩;have:=(kA a0).1 h.2 j j0 j1;omega
  ·right
   refine ⟨⟨(kA b0).2 (fun i i0 i1=>h1 i i0 i1),(kA a0).2 (fun i i0 i1=>g1 i i0 i1)⟩,y',z',w',?_,hq.2⟩;rw [e,bS,eW];dsimp only;rw [aH.c1,L,bZ (by decide),bF,bS,eW]
def pr (a b:List ay) (s:Bool) (e:Int):ay:=if s then (-(eM b e).1,-(eM b e).2.1,()) else eM a e
theorem qn {a b:List ay} {s:Bool} {e d:Int} (h:PB a b (len a) (len b) s e d):(s=false→0≤e∧e<len a)∧(s=true→0≤e∧e<len b):=by
 rcases h with h | h
 ·exact ⟨fun _=>⟨h.2.1,h.2.2.1⟩,fun g=>(by rw [h.1] at g; cases g)⟩
 ·exact ⟨fun g=>(by rw [h.1] at g; cases g),fun _=>⟨h.2.1,h.2.2.1⟩⟩
theorem Eh {a b:List ay} (ha:ju a) (hb:ju b) {s:Bool} {e d:Int} (h:PB a b (len a) (len b) s e d):¬ ((pr a b s e).1=0∧(pr a b s e).2.1=0) ∧
  (-1099511627776≤(pr a b s e).1∧(pr a b s e).1≤1099511627776∧-1099511627776≤(pr a b s e).2.1∧(pr a b s e).2.1≤1099511627776):=by
 have r:=qn h;unfold pr;cases s with
 | false =>
  have r:=r.1 rfl;have o:=jF ha.2.2.1 r.1 r.2;rw [if_neg (by decide)];exact ⟨sR ha r.1 r.2,by omega⟩
 | true =>
  have r:=r.2 rfl;have o:=jF hb.2.2.1 r.1 r.2;have n:=sR hb r.1 r.2;rw [if_pos rfl];dsimp only;exact ⟨fun g=>n (by omega),by omega⟩
theorem DG {k:Nat} (hk:70≤k) {a b:List ay} (ha:ju a) (hb:ju b) :
  (¬ (iQ a b∧iQ b a)∧cL k a b=some (false,0,(0,0,()))) ∨
  ((iQ a b∧iQ b a)∧∃ s e d u,cL k a b=some (true,d,u)∧PB a b (len a) (len b) s e d∧bN k (pr a b s e)=some u):=by
 unfold cL;rcases ql (k:=k) (by omega) ha hb with ⟨n,e⟩ | ⟨n,s,e,d,h,p⟩
 ·left
  refine ⟨n,?_⟩;rw [e,bS];unfold cL.c1;rw [dR rfl,bF,bS];rfl
 ·right
  refine ⟨n,s,e,d,?_⟩;have w:=Eh ha hb p;obtain ⟨x,y,l,hu,_⟩:=DI hk w.2 w.1;refine ⟨_,?_,p,hu⟩;rw [h,bS];unfold cL.c1;rw [dR rfl,bF,bS];show aM false _ _=_;rw [bF];have r:=qn p;cases s with
  | false =>
   have r:=r.1 rfl;show aM false _ _=_;rw [bF,kD k ha.2.1 ha.2.2.1 r.1 r.2,bS];unfold pr at hu;rw [if_neg (by decide)] at hu;rw [hu,bS]
  | true =>
   have r:=r.2 rfl;have o:=jF hb.2.2.1 r.1 r.2;show aM true _ _=_;rw [bT,kD k hb.2.1 hb.2.2.1 r.1 r.2,bS];have n1:fk .i64 (eM b e).1=-(eM b e).1:=by unfold fk; rw [wrap_i64 (by omega) (by omega)]; omega
   have n2:fk .i64 (eM b e).2.1=-(eM b e).2.1:=by unfold fk; rw [wrap_i64 (by omega) (by omega)]; omega
   unfold pr at hu;rw [if_pos rfl] at hu;rw [n1,n2,hu,bS]
end Go.Proofs.T1
