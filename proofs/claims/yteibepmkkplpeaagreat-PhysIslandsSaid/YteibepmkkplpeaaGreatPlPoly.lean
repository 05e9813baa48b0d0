import Derived.Test.YteibepmkkplpeaaGreatPlRing
namespace Go.Proofs.T1
open Go Go.Sx
theorem gJ {α:Type} (F:Nat→Int→Option (α ⊕ Unit)) (lo N:Int) (P:Int→Prop) (g:Int→α)
  (hstep:∀ n v,lo≤v→v<N→P v→F (n+1) v=some (.inl (g v)))
  (hskip:∀ n v,lo≤v→v<N→¬ P v→F (n+1) v=F n (v+1))
  (hend:∀ n v,lo≤v→N≤v→F (n+1) v=some (.inr ())) :
  ∀ (n:Nat) (v:Int),lo≤v→N - v<(n:Int)→(∃ j,v≤j∧j<N∧P j∧(∀ i,v≤i→i<j→¬ P i)∧F n v=some (.inl (g j))) ∨
   ((∀ j,v≤j→j<N→¬ P j)∧(0<n→F n v=some (.inr ()))):=by
 intro n
 induction n with
 | zero =>
  intro v h1 h2;exact Or.inr ⟨fun j a b=>by omega,fun h=>absurd h (by decide)⟩
 | succ n ih =>
  intro v h1 h2
  by_cases hv:v<N
  ·by_cases hp:P v
   ·exact Or.inl ⟨v,by omega,hv,hp,fun i a b=>by omega,hstep n v h1 hv hp⟩
   ·have e:=hskip n v h1 hv hp
    have hn:0<n:=by omega
    rcases ih (v+1) (by omega) (by omega) with ⟨j,a,b,c,d,f⟩ | ⟨a,b⟩
    ·refine Or.inl ⟨j,by omega,b,c,?_,e ▸ f⟩
     intro i x y
     by_cases hi:i=v
     ·exact hi ▸ hp
     ·exact d i (by omega) y
    ·refine Or.inr ⟨?_,fun _=>by rw [e,b hn]⟩
     intro i x y
     by_cases hi:i=v
     ·exact hi ▸ hp
     ·exact a i (by omega) y
  ·exact Or.inr ⟨fun j a b=>by omega,fun _=>hend n v h1 (by omega)⟩
theorem iz {σ:Type} (F:Nat→σ→Int→Option σ) (lo N:Int) (I:σ→Int→Prop)
  (hstep:∀ n s v,lo≤v→v<N→I s v→∃ s',I s' (v+1)∧F (n+1) s v=F n s' (v+1))
  (hend:∀ n s v,lo≤v→N≤v→F (n+1) s v=some s) :
  ∀ (n:Nat) (s:σ) (v:Int),lo≤v→v≤N→N - v<(n:Int)→I s v→∃ s',I s' N∧F n s v=some s':=by
 intro n
 induction n with
 | zero=>intro s v h1 h2 h3; omega
 | succ n ih =>
  intro s v h1 h2 h3 h4
  by_cases hv:v<N
  ·obtain ⟨s',a,b⟩:=hstep n s v h1 hv h4
   rw [b];exact ih s' (v+1) (by omega) (by omega) (by omega) a
  ·have:v=N:=by omega
   subst this;exact ⟨s,h4,hend n s v h1 (by omega)⟩
def Dg (a:List Int):Prop:=a.length=8∧∀ i,i<8→0≤a.getD i 0∧a.getD i 0<65536
instance (a:List Int):Decidable (Dg a):=by unfold Dg; infer_instance
end Go.Proofs.T1
namespace Go.Proofs.T1
open Go Go.Sx
end Go.Proofs.T1
namespace Go.Proofs.T1
open Go Go.Sx
def qt (x y:Int):Int:=if x<y then -1 else if x=y then 0 else 1
theorem rr {x y:Int} (h:x<y):qt x y=-1:=if_pos h
theorem BA {x y:Int} (h:x=y):qt x y=0:=by unfold qt; rw [if_neg (by omega),if_pos h]
theorem rl {x y:Int} (h:y<x):qt x y=1:=by unfold qt; rw [if_neg (by omega),if_neg (by omega)]
def xf (x:Int):Prop:=-9223372036854775808≤x∧x≤9223372036854775807
def Wn (a:aV):Prop:=-65536000≤a.1∧a.1≤65536000∧-65536000≤a.2.1∧a.2.1≤65536000
instance (a:aV):Decidable (Wn a):=by unfold Wn; infer_instance
def im (a b p:aV):Int:=(b.1 - a.1)*(p.2.1 - a.2.1) - (b.2.1 - a.2.1)*(p.1 - a.1)
theorem eA {x y M N:Int} (h1:-M≤x) (h2:x≤M) (h3:-N≤y) (h4:y≤N):-(M*N)≤x*y∧x*y≤M*N:=by
 have p1:0≤(M - x)*(N - y):=Int.mul_nonneg (by omega) (by omega);have p2:0≤(M+x)*(N+y):=Int.mul_nonneg (by omega) (by omega);have p3:0≤(M - x)*(N+y):=Int.mul_nonneg (by omega) (by omega);have p4:0≤(M+x)*(N - y):=Int.mul_nonneg (by omega) (by omega);have e1:(M - x)*(N - y)=M*N - M*y - x*N+x*y:=by grind
 have e2:(M+x)*(N+y)=M*N+M*y+x*N+x*y:=by grind
 have e3:(M - x)*(N+y)=M*N+M*y - x*N - x*y:=by grind
 have e4:(M+x)*(N - y)=M*N - M*y+x*N - x*y:=by grind
 omega
theorem qQ (k:Nat) (a:aV):dV k a=some (decide (Wn a)):=by
 unfold dV Wn
 by_cases h1:a.1 ≥ -65536000 <;> by_cases h2:a.1≤65536000 <;> by_cases h3:a.2.1 ≥ -65536000 <;> by_cases h4:a.2.1≤65536000 <;>
  simp [iC,jR,aX,h1,h2,h3,h4] <;> omega
theorem qZ {a b p:aV} (ha:Wn a) (hb:Wn b) (hp:Wn p):-34359738368000000≤im a b p∧im a b p≤34359738368000000:=by
 unfold im Wn at *
 have h1:=eA (x:=b.1 - a.1) (y:=p.2.1 - a.2.1) (M:=131072000) (N:=131072000) (by omega) (by omega) (by omega) (by omega);have h2:=eA (x:=b.2.1 - a.2.1) (y:=p.1 - a.1) (M:=131072000) (N:=131072000) (by omega) (by omega) (by omega) (by omega);omega
theorem wB (k:Nat) {a b p:aV} (ha:Wn a) (hb:Wn b) (hp:Wn p):eE k a b p=some (im a b p):=by
 unfold eE im Wn at *
 have h1:=eA (x:=b.1 - a.1) (y:=p.2.1 - a.2.1) (M:=131072000) (N:=131072000) (by omega) (by omega) (by omega) (by omega);have h2:=eA (x:=b.2.1 - a.2.1) (y:=p.1 - a.1) (M:=131072000) (N:=131072000) (by omega) (by omega) (by omega) (by omega);rw [dN (x:=b.1) (by omega) (by omega),dN (x:=b.2.1) (by omega) (by omega),dN (x:=p.1) (by omega) (by omega),dN (x:=p.2.1) (by omega) (by omega)];rw [eJ (by omega) (by omega),eJ (by omega) (by omega),dN (by omega) (by omega)]
theorem Be (k:Nat) {a b:gL} (ha:ov a) (hb:ov b):bD k a b=some (qt (wv a) (wv b)):=by
 unfold bD bD.c1;rw [DT];obtain ⟨a1,a2,u⟩:=a;obtain ⟨b1,b2,u'⟩:=b
 by_cases h:((a1,a2,u):gL)=(b1,b2,u')
 ·cases h
  simp [qt,aX]
 ·have h':¬ (a1=b1∧a2=b2):=fun e=>h (by obtain ⟨e1,e2⟩:=e; subst e1 e2; rfl)
  simp only [h,decide_false,bF];have hwa:wv (a1,a2,u)=a1*18446744073709551616+a2:=rfl;have hwb:wv (b1,b2,u')=b1*18446744073709551616+b2:=rfl;simp only [ov] at ha hb
  by_cases c1:a1<b1
  ·have:fy a1 b1=true:=by simp [fy,c1]
   rw [this,bT,bS,bT,rr (by omega)]
  ·have:fy a1 b1=false:=by simp [fy,c1]
   rw [this,bF]
   by_cases c2:a1=b1
   ·have:gI a1 b1=true:=by simp [gI,c2]
    rw [this,bT,bS]
    by_cases c3:a2<b2
    ·have:fy a2 b2=true:=by simp [fy,c3]
     rw [this,bT,rr (by omega)]
    ·have:fy a2 b2=false:=by simp [fy,c3]
     rw [this,bF,rl (by omega)]
   ·have:gI a1 b1=false:=by simp [gI,c2]
    rw [this,bF,bS,bF,rl (by omega)]
end Go.Proofs.T1
namespace Go.Proofs.T1
open Go Go.Sx
theorem bZ {α:Type} {v:Int} {l:List α} (h0:0≤v) (h1:v<len l):fS v l:=⟨h0,h1⟩
theorem cg {a b:Int} (h:a<b):fy a b=true:=decide_eq_true h
theorem cp {a b:Int} (h:b≤a):fy a b=false:=decide_eq_false (by omega)
theorem k8 {a b:Int} (h:a≤b):jR a b=true:=decide_eq_true h
theorem mB {a b:Int} (h:b<a):jR a b=false:=decide_eq_false (by omega)
theorem gH {a b:Int} (h:a > b):iJ a b=true:=decide_eq_true h
theorem gd {a b:Int} (h:a≤b):iJ a b=false:=decide_eq_false (by omega)
theorem il {a b:Int} (h:a ≥ b):iC a b=true:=decide_eq_true h
theorem gO {a b:Int} (h:a<b):iC a b=false:=decide_eq_false (by omega)
theorem gu {a b:Int} (h:¬ a=b):jD a b=true:=decide_eq_true h
theorem dE {a b:Int} (h:a=b):jD a b=false:=decide_eq_false (fun g=>g h)
theorem fh {a b:Int} (h:a=b):gI a b=true:=decide_eq_true h
theorem eL {a b:Int} (h:¬ a=b):gI a b=false:=decide_eq_false h
def q (l:List aV) (i:Int):aV:=el dT l i
def nx (n i:Int):Int:=if i+1=n then 0 else i+1
theorem fB {n i:Int} (h0:0≤i) (h1:i<n):0≤nx n i∧nx n i<n:=by unfold nx; split <;> omega
theorem gU {n i:Int} (h0:0≤i) (h1:i<n) (h2:n≤1000):fw (aG .i64 i 1) n=nx n i:=by
 rw [bJ (by omega) (by omega)];unfold fw nx;rw [Int.tmod_eq_emod_of_nonneg (by omega)];split
 ·rename_i h; rw [h,Int.emod_self]
 ·exact Int.emod_eq_of_lt (by omega) (by omega)
def lL (l:List aV):Prop:=∀ i,0≤i→i<len l→Wn (q l i)
def mD (l:List aV):Prop:=∀ i j,0≤i→i<len l→0≤j→j<len l→j≠i→j≠nx (len l) i→0<im (q l i) (q l (nx (len l) i)) (q l j)
def DU (l:List aV):Prop:=∀ i j m,0≤i→i<j→j<m→m<len l→0<im (q l i) (q l j) (q l m)
theorem oT (a b c:aV):im a b c=im b c a:=by unfold im; grind
theorem xC (a b:aV):im a b a=0:=by unfold im; grind
theorem vG {a b:Int} (hb:0<b) (h:0<b*a):0<a:=by
 rcases Int.lt_or_le 0 a with g | g
 ·exact g
 ·have:b*a≤b*0:=Int.mul_le_mul_of_nonneg_left g (by omega)
  omega
theorem yE {l:List aV} (ht:DU l):mD l:=by
 intro i j h0 h1 h2 h3 h4 h5;unfold nx at *
 split
 ·rename_i h
  rw [if_pos h] at h5;rw [oT];exact ht 0 j i (by omega) (by omega) (by omega) (by omega)
 ·rename_i h
  rw [if_neg h] at h5;rcases Int.lt_or_le j i with g | g
  ·rw [← oT]
   exact ht j i (i+1) (by omega) (by omega) (by omega) (by omega)
  ·exact ht i (i+1) j (by omega) (by omega) (by omega) (by omega)
def CB (l:List aV) (p:aV):Prop:=∀ i,0≤i→i<len l→0≤im (q l i) (q l (nx (len l) i)) p
end Go.Proofs.T1
namespace Go.Proofs.T1
open Go Go.Sx
theorem kG {k:Nat} {l:List aV} (hl:len l≤1000) (hk:len l<k) {f:(aV × Unit)→Option Bool} {g:aV→Bool} (hf:∀ x,f (x,())=some (g x))
  : bU k l f=some true∧(∃ i,0≤i∧i<len l∧g (q l i)=true)∨bU k l f=some false∧(∀ i,0≤i→i<len l→¬ g (q l i)=true):=by
 have H:=gJ (fun n v=>aQ.c1 k l f n v) 0 (len l) (fun v=>g (q l v)=true) (fun v=>v)
  (by
   intro n v h0 h1 h2;show aQ.c1 k l f (n+1) v=_;rw [aQ.c1,cg h1,bT,rP (bZ h0 h1),hf,bS];show aX (g (q l v)) _ _=_
   rw [h2,bT])
  (by
   intro n v h0 h1 h2;show aQ.c1 k l f (n+1) v=aQ.c1 k l f n (v+1);rw [aQ.c1,cg h1,bT,rP (bZ h0 h1),hf,bS];show aX (g (q l v)) _ _=_;rw [Bool.not_eq_true] at h2
   rw [h2,bF,bJ (by omega) (by omega)])
  (by
   intro n v h0 h1;show aQ.c1 k l f (n+1) v=_
   rw [aQ.c1,cp h1,bF])
  k 0 (by omega) (by omega)
 have hk0:0<k:=by unfold len at hk; omega
 rcases H with ⟨j,a,b,c,_,e⟩ | ⟨a,e⟩
 ·refine Or.inl ⟨?_,j,a,b,c⟩
  unfold bU aQ;have e:aQ.c1 k l f k 0=some (.inl j):=e;rw [e,bS,gD,bS,il (by omega)]
 ·refine Or.inr ⟨?_,a⟩
  unfold bU aQ;have e:aQ.c1 k l f k 0=some (.inr ()):=e hk0;rw [e,bS,fN,bS];rfl
def Cg (l:List aV) (e:Int):Prop :=
 (len l > 8∧e=2)∨(len l<3∧e=3)∨(3≤len l∧len l≤8∧¬ lL l∧e=1) ∨
 (3≤len l∧len l≤8∧lL l∧¬ mD l∧e=3)∨(3≤len l∧len l≤8∧lL l∧mD l∧e=0)
theorem AG {l:List aV} {e f:Int} (h:Cg l e) (g:Cg l f):e=f:=by
 unfold Cg at *
 rcases h with h | h | h | h | h <;> rcases g with g | g | g | g | g <;> first | omega | (exact absurd h.2.2.1 g.2.2.1) | (exact absurd g.2.2.1 h.2.2.1) | (exact absurd h.2.2.2.1 g.2.2.2.1) | (exact absurd g.2.2.2.1 h.2.2.2.1)
theorem tq (k:Nat) {l:List aV} (hl:len l≤8) (hw:lL l) {i j:Int} (h0:0≤i) (h1:i<len l) (h2:0≤j) (h3:j<len l) :
  aF.c3 k l i j=some (decide (j≠i∧j≠nx (len l) i∧im (q l i) (q l (nx (len l) i)) (q l j)≤0)):=by
 have hn:=fB h0 h1;have hz:nz (len l):=by unfold nz; omega
 unfold aF.c3;rw [gU h0 h1 (by omega)];have hs:eE k (el dT l i) (el dT l (nx (len l) i)) (el dT l j)=some (im (q l i) (q l (nx (len l) i)) (q l j)):=wB k (hw i h0 h1) (hw _ hn.1 hn.2) (hw j h2 h3);rw [hs,rP hz,bS]
 by_cases a:j=i
 ·rw [dE a,bF]; simp [a]
 ·rw [gu a,bT]
  by_cases b:j=nx (len l) i
  ·rw [dE b,bF]
   have:¬ (j≠i∧j≠nx (len l) i∧im (q l i) (q l (nx (len l) i)) (q l j)≤0):=fun h=>h.2.1 b;rw [decide_eq_false this]
  ·rw [gu b,bT]
   unfold jR;congr 1;rw [decide_eq_decide];exact ⟨fun h=>⟨a,b,h⟩,fun h=>h.2.2⟩
theorem ur {k:Nat} {l:List aV} (hl:len l≤8) (hk:9≤k) (hw:lL l) {i:Int} (h0:0≤i) (h1:i<len l) :
  (aF.c2 k l i k 0=some (.inl ())∧∃ j,0≤j∧j<len l∧(j≠i∧j≠nx (len l) i∧im (q l i) (q l (nx (len l) i)) (q l j)≤0)) ∨
  (aF.c2 k l i k 0=some (.inr ())∧∀ j,0≤j→j<len l→¬ (j≠i∧j≠nx (len l) i∧im (q l i) (q l (nx (len l) i)) (q l j)≤0)):=by
 have H:=gJ (fun n v=>aF.c2 k l i n v) 0 (len l) (fun j=>j≠i∧j≠nx (len l) i∧im (q l i) (q l (nx (len l) i)) (q l j)≤0) (fun _=>())
  (by
   intro n v h2 h3 h4;show aF.c2 k l i (n+1) v=_
   rw [aF.c2,cg h3,bT,rP (bZ h2 h3),tq k hl hw h0 h1 h2 h3,bS,decide_eq_true h4,bT])
  (by
   intro n v h2 h3 h4;show aF.c2 k l i (n+1) v=aF.c2 k l i n (v+1)
   rw [aF.c2,cg h3,bT,rP (bZ h2 h3),tq k hl hw h0 h1 h2 h3,bS,decide_eq_false h4,bF,bJ (by omega) (by omega)])
  (by
   intro n v h2 h3;show aF.c2 k l i (n+1) v=_
   rw [aF.c2,cp h3,bF])
  k 0 (by omega) (by omega)
 rcases H with ⟨j,a,b,c,_,e⟩ | ⟨a,e⟩
 ·exact Or.inl ⟨e,j,a,b,c⟩
 ·exact Or.inr ⟨e (by omega),a⟩
theorem uo {k:Nat} (hk:9≤k) (l:List aV):∃ e,aF k l=some e∧Cg l e:=by
 unfold aF
 by_cases c1:len l > 8
 ·rw [gH c1,bT]
  exact ⟨2,rfl,Or.inl ⟨c1,rfl⟩⟩
 rw [gd (by omega),bF]
 by_cases c2:len l<3
 ·rw [cg c2,bT]
  exact ⟨3,rfl,Or.inr (Or.inl ⟨c2,rfl⟩)⟩
 rw [cp (by omega),bF];have hf:∀ x:aV,(fun x:(aV × Unit)=>dK k (x.1)) (x,())=some (!decide (Wn x)):=by
  intro x;show dK k x=_;unfold dK;rw [qQ,bS]
 rcases kG (l:=l) (k:=k) (f:=fun x:(aV × Unit)=>dK k (x.1)) (by omega) (by omega) (g:=fun x=>!decide (Wn x)) hf with ⟨h,i,h0,h1,h2⟩ | ⟨h,h2⟩
 ·rw [h,bS,bT]
  refine ⟨1,rfl,Or.inr (Or.inr (Or.inl ⟨by omega,by omega,?_,rfl⟩))⟩;intro ha;have:=ha i h0 h1;simp [this] at h2
 rw [h,bS,bF];have hw:lL l:=by
  intro i h0 h1;have:=h2 i h0 h1
  simpa using this
 have H:=gJ (fun n v=>aF.c1 k l n v) 0 (len l) (fun i=>∃ j,0≤j∧j<len l∧(j≠i∧j≠nx (len l) i∧im (q l i) (q l (nx (len l) i)) (q l j)≤0)) (fun _=>())
  (by
   intro n v h2 h3 h4;show aF.c1 k l (n+1) v=_;have hn:=fB h2 h3;rw [aF.c1,cg h3,bT,rP (bZ h2 h3),rP (show nz (len l) by unfold nz; omega),gU h2 h3 (by omega),rP (bZ hn.1 hn.2)];rcases ur (k:=k) (by omega) hk hw h2 h3 with ⟨e,_⟩ | ⟨_,e⟩
   ·rw [e,bS,gD]
   ·obtain ⟨j,a,b,c⟩:=h4
    exact absurd c (e j a b))
  (by
   intro n v h2 h3 h4;show aF.c1 k l (n+1) v=aF.c1 k l n (v+1);have hn:=fB h2 h3;rw [aF.c1,cg h3,bT,rP (bZ h2 h3),rP (show nz (len l) by unfold nz; omega),gU h2 h3 (by omega),rP (bZ hn.1 hn.2)];rcases ur (k:=k) (by omega) hk hw h2 h3 with ⟨_,e⟩ | ⟨e,_⟩
   ·exact absurd e h4
   ·rw [e,bS,fN,bJ (by omega) (by omega)])
  (by
   intro n v h2 h3;show aF.c1 k l (n+1) v=_
   rw [aF.c1,cp h3,bF])
  k 0 (by omega) (by omega)
 rcases H with ⟨i,a,b,⟨j,c,d,f⟩,_,e⟩ | ⟨a,e⟩
 ·have e:aF.c1 k l k 0=some (.inl ()):=e
  rw [e,bS,gD];refine ⟨3,rfl,Or.inr (Or.inr (Or.inr (Or.inl ⟨by omega,by omega,hw,?_,rfl⟩)))⟩;intro he;have:=he i j a b c d f.1 f.2.1;omega
 ·have e:aF.c1 k l k 0=some (.inr ()):=e (by omega)
  rw [e,bS,fN];refine ⟨0,rfl,Or.inr (Or.inr (Or.inr (Or.inr ⟨by omega,by omega,hw,?_,rfl⟩)))⟩;intro i j h0 h1 h2 h3 h4 h5;rcases Int.lt_or_le 0 (im (q l i) (q l (nx (len l) i)) (q l j)) with g | g
  ·exact g
  ·exact absurd ⟨j,h2,h3,h4,h5,g⟩ (a i h0 h1)
end Go.Proofs.T1
namespace Go.Proofs.T1
open Go Go.Sx
def cr (a b:aV):Int:=a.1*b.2.1 - a.2.1*b.1
def ES (l:List aV):Nat→Int
 | 0=>0
 | n+1=>ES l n+cr (q l n) (q l (n+1))
def sh (l:List aV) (v:Int):Int:=ES l v.toNat
def Fl (l:List aV):Int:=sh l (len l - 1)+cr (q l (len l - 1)) (q l 0)
def kg (l:List aV):Prop:=3≤len l∧len l≤8∧lL l∧mD l
theorem zb {l:List aV} (h:Cg l 0):kg l:=by
 unfold Cg at h;rcases h with h | h | h | h | h
 ·omega
 ·omega
 ·omega
 ·omega
 ·exact ⟨h.1,h.2.1,h.2.2.1,h.2.2.2.1⟩
theorem Bz {l:List aV} (h:kg l):Cg l 0:=Or.inr (Or.inr (Or.inr (Or.inr ⟨h.1,h.2.1,h.2.2.1,h.2.2.2,rfl⟩)))
theorem jT {k:Nat} (hk:9≤k) {l:List aV} (h:kg l):aF k l=some 0:=by
 obtain ⟨e,h1,h2⟩:=uo hk l;rw [h1,AG h2 (Bz h)]
open Classical in
theorem wV {k:Nat} (hk:9≤k) {l:List aV} (hv:kg l) (p:aV):bC k l p=some (decide (Wn p∧CB l p)):=by
 unfold bC bC.c1;rw [jT hk hv,bS,dE rfl,bF,qQ,bS,bS]
 by_cases hp:Wn p
 ·rw [decide_eq_true hp]
  show aX false _ _=_;rw [bF];have hs:∀ v,0≤v→v<len l→eE k (el dT l v) (el dT l (nx (len l) v)) p=some (im (q l v) (q l (nx (len l) v)) p):=by
   intro v a b;have hn:=fB a b;exact wB k (hv.2.2.1 v a b) (hv.2.2.1 _ hn.1 hn.2) hp
  have h8:=hv.2.1;have H:=gJ (fun n v=>bC.c2 k l p n v) 0 (len l) (fun v=>im (q l v) (q l (nx (len l) v)) p<0) (fun _=>())
   (by
    intro n v a b c;have hn:=fB a b;show bC.c2 k l p (n+1) v=_
    rw [bC.c2,cg b,bT,rP (bZ a b),rP (show nz (len l) by unfold nz; omega),gU a b (by omega),rP (bZ hn.1 hn.2),hs v a b,bS,cg c,bT])
   (by
    intro n v a b c;have hn:=fB a b;show bC.c2 k l p (n+1) v=bC.c2 k l p n (v+1)
    rw [bC.c2,cg b,bT,rP (bZ a b),rP (show nz (len l) by unfold nz; omega),gU a b (by omega),rP (bZ hn.1 hn.2),hs v a b,bS,cp (by omega),bF,bJ (by omega) (by omega)])
   (by
    intro n v a b;show bC.c2 k l p (n+1) v=_
    rw [bC.c2,cp b,bF])
   k 0 (by omega) (by omega)
  rcases H with ⟨i,a,b,c,_,e⟩ | ⟨a,e⟩
  ·have e:bC.c2 k l p k 0=some (.inl ()):=e
   rw [e,bS,gD,decide_eq_false];intro h;have:=h.2 i a b;omega
  ·have e:bC.c2 k l p k 0=some (.inr ()):=e (by omega)
   rw [e,bS,fN,decide_eq_true];refine ⟨hp,fun i x y=>?_⟩;have:=a i x y;omega
 ·rw [decide_eq_false hp]
  show aX true _ _=_;rw [bT,decide_eq_false (fun h=>hp h.1)]
end Go.Proofs.T1
namespace Go.Proofs.T1
open Go Go.Sx
def dt (a b:aV):Int:=a.1*b.1+a.2.1*b.2.1
theorem yZ {a d:aV} (ha:Wn a) (h3:xf d.1) (h4:xf d.2.1):-1208925819614629174706176000≤dt a d∧dt a d≤1208925819614629174706176000:=by
 unfold dt Wn xf at *
 have h1:=eA (x:=a.1) (y:=d.1) (M:=65536000) (N:=9223372036854775808) (by omega) (by omega) (by omega) (by omega);have h2:=eA (x:=a.2.1) (y:=d.2.1) (M:=65536000) (N:=9223372036854775808) (by omega) (by omega) (by omega) (by omega);omega
theorem zp (k:Nat) {a d:aV} (ha:Wn a) (h3:xf d.1) (h4:xf d.2.1):∃ c,fu k a d=some c∧ov c∧wv c=dt a d:=by
 have hr:=yZ ha h3 h4;unfold Wn xf at *
 obtain ⟨x,e1,o1,v1⟩:=kE k (a:=a.1) (b:=d.1) (by omega) (by omega) h3.1 h3.2;obtain ⟨y,e2,o2,v2⟩:=kE k (a:=a.2.1) (b:=d.2.1) (by omega) (by omega) h4.1 h4.2;obtain ⟨c,e3,o3,v3⟩:=BK k o1 o2;refine ⟨c,?_,o3,?_⟩
 ·unfold fu
  rw [e1,bS,e2,bS,e3,bS]
 ·rw [v1,v2] at v3
  have:a.1*d.1+a.2.1*d.2.1=dt a d:=rfl;rw [this] at v3;unfold ov at o3;have hc:wv c=c.1*18446744073709551616+c.2.1:=rfl;omega
theorem EK (k:Nat) {a b d:aV} (ha:Wn a) (hb:Wn b) (h3:xf d.1) (h4:xf d.2.1) {α:Type} (f:Int→Option α) :
  (bO (fu k a d) fun y8=>bO (fu k b d) fun y11=>bO (bD k y8 y11) f)=f (qt (dt a d) (dt b d)):=by
 obtain ⟨x,e1,o1,v1⟩:=zp k ha h3 h4;obtain ⟨y,e2,o2,v2⟩:=zp k hb h3 h4;rw [e1,bS,e2,bS,Be k o1 o2,bS,v1,v2]
def w9 (l:List aV) (d:aV) (b:Int):Prop:=0≤b∧b<len l∧∀ j,0≤j→j<len l→dt (q l j) d<dt (q l b) d∨(dt (q l j) d=dt (q l b) d∧b≤j)
theorem z8 {l:List aV} {d:aV} {b c:Int} (hb:w9 l d b) (hc:w9 l d c):b=c:=by
 have h1:=hb.2.2 c hc.1 hc.2.1;have h2:=hc.2.2 b hb.1 hb.2.1;omega
theorem zM {k:Nat} (hk:9≤k) {l:List aV} (hv:kg l) {d:aV} (h3:xf d.1) (h4:xf d.2.1):∃ b,bk k l d=some b∧w9 l d b:=by
 have h8:=hv.2.1;have hl3:=hv.1;have H:=iz (fun n s v=>bk.c1 k l d n s v) 0 (len l) (fun b v=>0≤b∧(b<v∨v=0∧b=0)∧∀ j,0≤j→j<v→dt (q l j) d<dt (q l b) d∨(dt (q l j) d=dt (q l b) d∧b≤j))
  (by
   intro n s v a b ⟨c,e,f⟩;have hd:=EK k (a:=q l v) (b:=q l s) (d:=d) (hv.2.2.1 v a b) (hv.2.2.1 s c (by omega)) h3 h4 (fun y13=>aX (iJ y13 0) (bk.c1 k l d n v (aG .i64 v 1)) (bk.c1 k l d n s (aG .i64 v 1)));have hu:bk.c1 k l d (n+1) s v=aX (iJ (qt (dt (q l v) d) (dt (q l s) d)) 0) (bk.c1 k l d n v (aG .i64 v 1)) (bk.c1 k l d n s (aG .i64 v 1)):=by
    have hin:fS s l:=bZ c (by omega);rw [bk.c1,cg b,bT,rP (bZ a b)];simp only [rP hin];exact hd
   rw [bJ (by omega) (by omega)] at hu
   by_cases g:dt (q l s) d<dt (q l v) d
   ·rw [rl g] at hu
    refine ⟨v,⟨a,Or.inl (by omega),?_⟩,hu⟩;intro j j0 j1
    by_cases hj:j=v
    ·subst hj; exact Or.inr ⟨rfl,by omega⟩
    ·have:=f j j0 (by omega)
     exact Or.inl (by omega)
   ·have h5:iJ (qt (dt (q l v) d) (dt (q l s) d)) 0=false:=by
     rcases Int.lt_trichotomy (dt (q l v) d) (dt (q l s) d) with x | x | x
     ·rw [rr x]; rfl
     ·rw [BA x]; rfl
     ·exact absurd x g
    rw [h5,bF] at hu;refine ⟨s,⟨c,Or.inl (by omega),?_⟩,hu⟩;intro j j0 j1
    by_cases hj:j=v
    ·subst hj
     rcases Int.lt_trichotomy (dt (q l j) d) (dt (q l s) d) with x | x | x
     ·exact Or.inl x
     ·exact Or.inr ⟨x,by omega⟩
     ·exact absurd x g
    ·exact f j j0 (by omega))
  (by
   intro n s v a b;show bk.c1 k l d (n+1) s v=some s
   rw [bk.c1,cp b,bF])
  k 0 0 (by omega) (by omega) (by omega) ⟨by omega,Or.inr ⟨rfl,rfl⟩,fun j x y=>by omega⟩
 obtain ⟨s,⟨a,b,c⟩,e⟩:=H;have e:bk.c1 k l d k 0 0=some s:=e;refine ⟨s,?_,a,by omega,c⟩;unfold bk;rw [jT hk hv,bS,dE rfl,bF,e,bS]
end Go.Proofs.T1
