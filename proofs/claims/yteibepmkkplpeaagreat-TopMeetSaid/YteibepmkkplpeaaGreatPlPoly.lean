import Derived.Test.YteibepmkkplpeaaGreatPlRing
namespace Go.Proofs.T1
open Go Go.Sx
theorem iH {α:Type} (F:Nat→Int→Option (α ⊕ Unit)) (lo N:Int) (P:Int→Prop) (g:Int→α)
  (hstep:∀ n v,lo≤v→v<N→P v→F (n+1) v=some (.inl (g v)))
  (hskip:∀ n v,lo≤v→v<N→¬ P v→F (n+1) v=F n (v+1))
  (hend:∀ n v,lo≤v→N≤v→F (n+1) v=some (.inr ())) :
  ∀ (n:Nat) (v:Int),lo≤v→N - v<(n:Int)→(∃ j,v≤j∧j<N∧P j∧(∀ i,v≤i→i<j→¬ P i)∧F n v=some (.inl (g j))) ∨
   ((∀ j,v≤j→j<N→¬ P j)∧(0<n→F n v=some (.inr ()))):=by
 intro n
 induction n with
 | zero =>
  intro v h1 h2;exact Or.inr ⟨fun j a b=>by omega,fun h=>absurd h (by decide)⟩
 | succ n ih =>
  intro v h1 h2
  by_cases hv:v<N
  ·by_cases hp:P v
   ·exact Or.inl ⟨v,by omega,hv,hp,fun i a b=>by omega,hstep n v h1 hv hp⟩
   ·have e:=hskip n v h1 hv hp
    have hn:0<n:=by omega
    rcases ih (v+1) (by omega) (by omega) with ⟨j,a,b,c,d,f⟩ | ⟨a,b⟩
    ·refine Or.inl ⟨j,by omega,b,c,?_,e ▸ f⟩
     intro i x y
     by_cases hi:i=v
     ·exact hi ▸ hp
     ·exact d i (by omega) y
    ·refine Or.inr ⟨?_,fun _=>by rw [e,b hn]⟩
     intro i x y
     by_cases hi:i=v
     ·exact hi ▸ hp
     ·exact a i (by omega) y
  ·exact Or.inr ⟨fun j a b=>by omega,fun _=>hend n v h1 (by omega)⟩
theorem iM {σ:Type} (F:Nat→σ→Int→Option σ) (lo N:Int) (I:σ→Int→Prop)
  (hstep:∀ n s v,lo≤v→v<N→I s v→∃ s',I s' (v+1)∧F (n+1) s v=F n s' (v+1))
  (hend:∀ n s v,lo≤v→N≤v→F (n+1) s v=some s) :
  ∀ (n:Nat) (s:σ) (v:Int),lo≤v→v≤N→N - v<(n:Int)→I s v→∃ s',I s' N∧F n s v=some s':=by
 intro n
 induction n with
 | zero=>intro s v h1 h2 h3; omega
 | succ n ih =>
  intro s v h1 h2 h3 h4
  by_cases hv:v<N
  ·obtain ⟨s',a,b⟩:=hstep n s v h1 hv h4
   rw [b];exact ih s' (v+1) (by omega) (by omega) (by omega) a
  ·have:v=N:=by omega
   subst this;exact ⟨s,h4,hend n s v h1 (by omega)⟩
def Dg (a:List Int):Prop:=a.length=8∧∀ i,i<8→0≤a.getD i 0∧a.getD i 0<65536
instance (a:List Int):Decidable (Dg a):=by unfold Dg; infer_instance
end Go.Proofs.T1
namespace Go.Proofs.T1
open Go Go.Sx
end Go.Proofs.T1
namespace Go.Proofs.T1
open Go Go.Sx
def lF (x y:Int):Int:=if x<y then -1 else if x=y then 0 else 1
theorem sX {x y:Int} (h:x<y):lF x y=-1:=if_pos h
theorem Dm {x y:Int} (h:x=y):lF x y=0:=by unfold lF; rw [if_neg (by omega),if_pos h]
theorem sF {x y:Int} (h:y<x):lF x y=1:=by unfold lF; rw [if_neg (by omega),if_neg (by omega)]
def lG (x:Int):Prop:=-9223372036854775808≤x∧x≤9223372036854775807
def Wn (a:aB):Prop:=-65536000≤a.1∧a.1≤65536000∧-65536000≤a.2.1∧a.2.1≤65536000
instance (a:aB):Decidable (Wn a):=by unfold Wn; infer_instance
def fb (a b p:aB):Int:=(b.1 - a.1)*(p.2.1 - a.2.1) - (b.2.1 - a.2.1)*(p.1 - a.1)
theorem dB {x y M N:Int} (h1:-M≤x) (h2:x≤M) (h3:-N≤y) (h4:y≤N):-(M*N)≤x*y∧x*y≤M*N:=by
 have p1:0≤(M - x)*(N - y):=Int.mul_nonneg (by omega) (by omega);have p2:0≤(M+x)*(N+y):=Int.mul_nonneg (by omega) (by omega);have p3:0≤(M - x)*(N+y):=Int.mul_nonneg (by omega) (by omega);have p4:0≤(M+x)*(N - y):=Int.mul_nonneg (by omega) (by omega);have e1:(M - x)*(N - y)=M*N - M*y - x*N+x*y:=by grind
 have e2:(M+x)*(N+y)=M*N+M*y+x*N+x*y:=by grind
 have e3:(M - x)*(N+y)=M*N+M*y - x*N - x*y:=by grind
 have e4:(M+x)*(N - y)=M*N - M*y+x*N - x*y:=by grind
 omega
theorem rX (k:Nat) (a:aB):er k a=some (decide (Wn a)):=by
 unfold er Wn
 by_cases h1:a.1 ≥ -65536000 <;> by_cases h2:a.1≤65536000 <;> by_cases h3:a.2.1 ≥ -65536000 <;> by_cases h4:a.2.1≤65536000 <;>
  simp [jd,jw,aR,h1,h2,h3,h4] <;> omega
theorem rN {a b p:aB} (ha:Wn a) (hb:Wn b) (hp:Wn p):-34359738368000000≤fb a b p∧fb a b p≤34359738368000000:=by
 unfold fb Wn at *
 have h1:=dB (x:=b.1 - a.1) (y:=p.2.1 - a.2.1) (M:=131072000) (N:=131072000) (by omega) (by omega) (by omega) (by omega);have h2:=dB (x:=b.2.1 - a.2.1) (y:=p.1 - a.1) (M:=131072000) (N:=131072000) (by omega) (by omega) (by omega) (by omega);omega
theorem xW (k:Nat) {a b p:aB} (ha:Wn a) (hb:Wn b) (hp:Wn p):eD k a b p=some (fb a b p):=by
 unfold eD fb Wn at *
 have h1:=dB (x:=b.1 - a.1) (y:=p.2.1 - a.2.1) (M:=131072000) (N:=131072000) (by omega) (by omega) (by omega) (by omega);have h2:=dB (x:=b.2.1 - a.2.1) (y:=p.1 - a.1) (M:=131072000) (N:=131072000) (by omega) (by omega) (by omega) (by omega);rw [cR (x:=b.1) (by omega) (by omega),cR (x:=b.2.1) (by omega) (by omega),cR (x:=p.1) (by omega) (by omega),cR (x:=p.2.1) (by omega) (by omega)];rw [dr (by omega) (by omega),dr (by omega) (by omega),cR (by omega) (by omega)]
theorem pT (k:Nat) {a b:gz} (ha:oX a) (hb:oX b):bc k a b=some (lF (wv a) (wv b)):=by
 unfold bc bc.c1;rw [FU];obtain ⟨a1,a2,u⟩:=a;obtain ⟨b1,b2,u'⟩:=b
 by_cases h:((a1,a2,u):gz)=(b1,b2,u')
 ·cases h
  simp [lF,aR]
 ·have h':¬ (a1=b1∧a2=b2):=fun e=>h (by obtain ⟨e1,e2⟩:=e; subst e1 e2; rfl)
  simp only [h,decide_false,bF];have hwa:wv (a1,a2,u)=a1*18446744073709551616+a2:=rfl;have hwb:wv (b1,b2,u')=b1*18446744073709551616+b2:=rfl;simp only [oX] at ha hb
  by_cases c1:a1<b1
  ·have:fq a1 b1=true:=by simp [fq,c1]
   rw [this,bT,bS,bT,sX (by omega)]
  ·have:fq a1 b1=false:=by simp [fq,c1]
   rw [this,bF]
   by_cases c2:a1=b1
   ·have:gX a1 b1=true:=by simp [gX,c2]
    rw [this,bT,bS]
    by_cases c3:a2<b2
    ·have:fq a2 b2=true:=by simp [fq,c3]
     rw [this,bT,sX (by omega)]
    ·have:fq a2 b2=false:=by simp [fq,c3]
     rw [this,bF,sF (by omega)]
   ·have:gX a1 b1=false:=by simp [gX,c2]
    rw [this,bF,bS,bF,sF (by omega)]
end Go.Proofs.T1
namespace Go.Proofs.T1
open Go Go.Sx
theorem cZ {α:Type} {v:Int} {l:List α} (h0:0≤v) (h1:v<len l):gn v l:=⟨h0,h1⟩
theorem cB {a b:Int} (h:a<b):fq a b=true:=decide_eq_true h
theorem cD {a b:Int} (h:b≤a):fq a b=false:=decide_eq_false (by omega)
theorem kU {a b:Int} (h:a≤b):jw a b=true:=decide_eq_true h
theorem mr {a b:Int} (h:b<a):jw a b=false:=decide_eq_false (by omega)
theorem iR {a b:Int} (h:a > b):iS a b=true:=decide_eq_true h
theorem il {a b:Int} (h:a≤b):iS a b=false:=decide_eq_false (by omega)
theorem iV {a b:Int} (h:a ≥ b):jd a b=true:=decide_eq_true h
theorem jZ {a b:Int} (h:a<b):jd a b=false:=decide_eq_false (by omega)
theorem jh {a b:Int} (h:¬ a=b):j6 a b=true:=decide_eq_true h
theorem ek {a b:Int} (h:a=b):j6 a b=false:=decide_eq_false (fun g=>g h)
theorem fw {a b:Int} (h:a=b):gX a b=true:=decide_eq_true h
theorem fu {a b:Int} (h:¬ a=b):gX a b=false:=decide_eq_false h
def q (l:List aB) (i:Int):aB:=el bK l i
def nx (n i:Int):Int:=if i+1=n then 0 else i+1
theorem dK {n i:Int} (h0:0≤i) (h1:i<n):0≤nx n i∧nx n i<n:=by unfold nx; split <;> omega
theorem gU {n i:Int} (h0:0≤i) (h1:i<n) (h2:n≤1000):cC (ag .i64 i 1) n=nx n i:=by
 rw [bH (by omega) (by omega)];unfold cC nx;rw [Int.tmod_eq_emod_of_nonneg (by omega)];split
 ·rename_i h; rw [h,Int.emod_self]
 ·exact Int.emod_eq_of_lt (by omega) (by omega)
def jT (l:List aB):Prop:=∀ i,0≤i→i<len l→Wn (q l i)
def iz (l:List aB):Prop:=∀ i j,0≤i→i<len l→0≤j→j<len l→j≠i→j≠nx (len l) i→0<fb (q l i) (q l (nx (len l) i)) (q l j)
def D7 (l:List aB):Prop:=∀ i j m,0≤i→i<j→j<m→m<len l→0<fb (q l i) (q l j) (q l m)
theorem mg (a b c:aB):fb a b c=fb b c a:=by unfold fb; grind
theorem BW (a b:aB):fb a b b=0:=by unfold fb; grind
theorem sk (a b:aB):fb a b a=0:=by unfold fb; grind
theorem AQ (a b c:aB):fb b a c=- fb a b c:=by unfold fb; grind
theorem E4 (a u x y z:aB):fb a u y*fb a x z=fb a u x*fb a y z+fb a u z*fb a x y:=by unfold fb; grind
theorem mW {a b:Int} (hb:0<b) (h:0<b*a):0<a:=by
 rcases Int.lt_or_le 0 a with g | g
 ·exact g
 ·have:b*a≤b*0:=Int.mul_le_mul_of_nonneg_left g (by omega)
  omega
theorem mo {a b:Int} (hb:0<b) (h:0≤b*a):0≤a:=by
 rcases Int.lt_or_le a 0 with g | g
 ·have:b*a≤b*(-1):=Int.mul_le_mul_of_nonneg_left (by omega) (by omega)
  omega
 ·exact g
theorem rZ {l:List aB} (he:iz l):D7 l:=by
 have H:∀ (d:Nat) (i j:Int),0≤i→i<j→j+1+d<len l→0<fb (q l i) (q l j) (q l (j+1+d)):=by
  intro d
  induction d with
  | zero =>
   intro i j h0 h1 h2;have h:=he j i (by omega) (by omega) (by omega) (by omega) (by omega) (by unfold nx; split <;> omega);have hn:nx (len l) j=j+1:=by unfold nx; split <;> omega
   rw [hn] at h;rw [mg]
   simpa using h
  | succ d ih =>
   intro i j h0 h1 h2;have hij:nx (len l) i=i+1:=by unfold nx; split <;> omega
   have e1:j+1+((d+1:Nat):Int)=(j+1+d)+1:=by omega
   by_cases hj:j=i+1
   ·have h:=he i (j+1+((d+1:Nat):Int)) (by omega) (by omega) (by omega) (by omega) (by omega) (by rw [hij]; omega)
    rw [hij] at h;rw [hj] at h ⊢;exact h
   ·have a1:=ih i j h0 h1 (by omega)
    have hn:nx (len l) (j+1+d)=j+1+d+1:=by unfold nx; split <;> omega
    have a2:=he (j+1+d) i (by omega) (by omega) (by omega) (by omega) (by omega) (by rw [hn]; omega);have a3:=he i j (by omega) (by omega) (by omega) (by omega) (by omega) (by rw [hij]; omega);have a4:=he i (j+1+d) (by omega) (by omega) (by omega) (by omega) (by omega) (by rw [hij]; omega);have a5:=he i (j+1+d+1) (by omega) (by omega) (by omega) (by omega) (by omega) (by rw [hij]; omega);rw [hn,← mg] at a2;rw [hij] at a3 a4 a5;rw [e1];refine mW a4 ?_
    rw [E4];have p1:=Int.mul_pos a3 a2;have p2:=Int.mul_pos a5 a1;omega
 intro i j m h0 h1 h2 h3;have:=H (m - j - 1).toNat i j h0 h1 (by omega)
 rwa [show j+1+((m - j - 1).toNat:Int)=m by omega] at this
theorem Ag {l:List aB} (ht:D7 l):iz l:=by
 intro i j h0 h1 h2 h3 h4 h5;unfold nx at *
 split
 ·rename_i h
  rw [if_pos h] at h5;rw [mg];exact ht 0 j i (by omega) (by omega) (by omega) (by omega)
 ·rename_i h
  rw [if_neg h] at h5;rcases Int.lt_or_le j i with g | g
  ·rw [← mg]
   exact ht j i (i+1) (by omega) (by omega) (by omega) (by omega)
  ·exact ht i (i+1) j (by omega) (by omega) (by omega) (by omega)
def pY (l:List aB) (p:aB):Prop:=∀ i,0≤i→i<len l→0≤fb (q l i) (q l (nx (len l) i)) p
def Gy (l:List aB) (p:aB):Prop:=∃ i,2≤i∧i<len l∧0≤fb (q l 0) (q l (i - 1)) p∧0≤fb (q l (i - 1)) (q l i) p∧0≤fb (q l i) (q l 0) p
theorem nU {l:List aB} (he:iz l) (i j:Int) (h0:0≤i) (h1:i<len l) (h2:0≤j) (h3:j<len l):0≤fb (q l i) (q l (nx (len l) i)) (q l j):=by
 by_cases a:j=i
 ·subst a
  rw [sk];decide
 ·by_cases b:j=nx (len l) i
  ·rw [← b,BW]
   decide
  ·exact Int.le_of_lt (he i j h0 h1 h2 h3 a b)
theorem Bz {l:List aB} (hl:3≤len l) {p:aB} (h:pY l p):Gy l p:=by
 have H:∀ (d:Nat) (i:Int),i=len l - 1 - d→2≤i→0≤fb (q l 0) (q l (i - 1)) p→Gy l p:=by
  intro d
  induction d with
  | zero =>
   intro i hi h2 ha;have e:=h (len l - 1) (by omega) (by omega);have hn:nx (len l) (len l - 1)=0:=by unfold nx; split <;> omega
   have e':=h (i - 1) (by omega) (by omega);have hn':nx (len l) (i - 1)=i:=by unfold nx; split <;> omega
   rw [hn] at e;rw [hn'] at e';have:len l - 1=i:=by omega
   rw [this] at e;exact ⟨i,h2,by omega,ha,e',e⟩
  | succ d ih =>
   intro i hi h2 ha
   by_cases c:0≤fb (q l i) (q l 0) p
   ·have e':=h (i - 1) (by omega) (by omega)
    have hn':nx (len l) (i - 1)=i:=by unfold nx; split <;> omega
    rw [hn'] at e';exact ⟨i,h2,by omega,ha,e',c⟩
   ·refine ih (i+1) (by omega) (by omega) ?_
    rw [show i+1 - 1=i by omega];rw [AQ] at c;omega
 refine H (len l - 3).toNat 2 (by omega) (by omega) ?_
 have e:=h 0 (by omega) (by omega);have hn:nx (len l) 0=1:=by unfold nx; split <;> omega
 rw [hn] at e;exact e
end Go.Proofs.T1
namespace Go.Proofs.T1
open Go Go.Sx
theorem lP {k:Nat} {l:List aB} (hl:len l≤1000) (hk:len l<k) {f:(aB × Unit)→Option Bool} {g:aB→Bool} (hf:∀ x,f (x,())=some (g x))
  : bW k l f=some true∧(∃ i,0≤i∧i<len l∧g (q l i)=true)∨bW k l f=some false∧(∀ i,0≤i→i<len l→¬ g (q l i)=true):=by
 have H:=iH (fun n v=>aO.c1 k l f n v) 0 (len l) (fun v=>g (q l v)=true) (fun v=>v)
  (by
   intro n v h0 h1 h2;show aO.c1 k l f (n+1) v=_;rw [aO.c1,cB h1,bT,rP (cZ h0 h1),hf,bS];show aR (g (q l v)) _ _=_
   rw [h2,bT])
  (by
   intro n v h0 h1 h2;show aO.c1 k l f (n+1) v=aO.c1 k l f n (v+1);rw [aO.c1,cB h1,bT,rP (cZ h0 h1),hf,bS];show aR (g (q l v)) _ _=_;rw [Bool.not_eq_true] at h2
   rw [h2,bF,bH (by omega) (by omega)])
  (by
   intro n v h0 h1;show aO.c1 k l f (n+1) v=_
   rw [aO.c1,cD h1,bF])
  k 0 (by omega) (by omega)
 have hk0:0<k:=by unfold len at hk; omega
 rcases H with ⟨j,a,b,c,_,e⟩ | ⟨a,e⟩
 ·refine Or.inl ⟨?_,j,a,b,c⟩
  unfold bW aO;have e:aO.c1 k l f k 0=some (.inl j):=e;rw [e,bS,ir,bS,iV (by omega)]
 ·refine Or.inr ⟨?_,a⟩
  unfold bW aO;have e:aO.c1 k l f k 0=some (.inr ()):=e hk0;rw [e,bS,ig,bS];rfl
def Et (l:List aB) (e:Int):Prop :=
 (len l > 8∧e=2)∨(len l<3∧e=3)∨(3≤len l∧len l≤8∧¬ jT l∧e=1) ∨
 (3≤len l∧len l≤8∧jT l∧¬ iz l∧e=3)∨(3≤len l∧len l≤8∧jT l∧iz l∧e=0)
theorem Bk {l:List aB} {e f:Int} (h:Et l e) (g:Et l f):e=f:=by
 unfold Et at *
 rcases h with h | h | h | h | h <;> rcases g with g | g | g | g | g <;> first | omega | (exact absurd h.2.2.1 g.2.2.1) | (exact absurd g.2.2.1 h.2.2.1) | (exact absurd h.2.2.2.1 g.2.2.2.1) | (exact absurd g.2.2.2.1 h.2.2.2.1)
theorem vS (k:Nat) {l:List aB} (hl:len l≤8) (hw:jT l) {i j:Int} (h0:0≤i) (h1:i<len l) (h2:0≤j) (h3:j<len l) :
  au.c3 k l i j=some (decide (j≠i∧j≠nx (len l) i∧fb (q l i) (q l (nx (len l) i)) (q l j)≤0)):=by
 have hn:=dK h0 h1;have hz:nz (len l):=by unfold nz; omega
 unfold au.c3;rw [gU h0 h1 (by omega)];have hs:eD k (el bK l i) (el bK l (nx (len l) i)) (el bK l j)=some (fb (q l i) (q l (nx (len l) i)) (q l j)):=xW k (hw i h0 h1) (hw _ hn.1 hn.2) (hw j h2 h3);rw [hs,rP hz,bS]
 by_cases a:j=i
 ·rw [ek a,bF]; simp [a]
 ·rw [jh a,bT]
  by_cases b:j=nx (len l) i
  ·rw [ek b,bF]
   have:¬ (j≠i∧j≠nx (len l) i∧fb (q l i) (q l (nx (len l) i)) (q l j)≤0):=fun h=>h.2.1 b;rw [decide_eq_false this]
  ·rw [jh b,bT]
   unfold jw;congr 1;rw [decide_eq_decide];exact ⟨fun h=>⟨a,b,h⟩,fun h=>h.2.2⟩
theorem vq {k:Nat} {l:List aB} (hl:len l≤8) (hk:9≤k) (hw:jT l) {i:Int} (h0:0≤i) (h1:i<len l) :
  (au.c2 k l i k 0=some (.inl ())∧∃ j,0≤j∧j<len l∧(j≠i∧j≠nx (len l) i∧fb (q l i) (q l (nx (len l) i)) (q l j)≤0)) ∨
  (au.c2 k l i k 0=some (.inr ())∧∀ j,0≤j→j<len l→¬ (j≠i∧j≠nx (len l) i∧fb (q l i) (q l (nx (len l) i)) (q l j)≤0)):=by
 have H:=iH (fun n v=>au.c2 k l i n v) 0 (len l) (fun j=>j≠i∧j≠nx (len l) i∧fb (q l i) (q l (nx (len l) i)) (q l j)≤0) (fun _=>())
  (by
   intro n v h2 h3 h4;show au.c2 k l i (n+1) v=_
   rw [au.c2,cB h3,bT,rP (cZ h2 h3),vS k hl hw h0 h1 h2 h3,bS,decide_eq_true h4,bT])
  (by
   intro n v h2 h3 h4;show au.c2 k l i (n+1) v=au.c2 k l i n (v+1)
   rw [au.c2,cB h3,bT,rP (cZ h2 h3),vS k hl hw h0 h1 h2 h3,bS,decide_eq_false h4,bF,bH (by omega) (by omega)])
  (by
   intro n v h2 h3;show au.c2 k l i (n+1) v=_
   rw [au.c2,cD h3,bF])
  k 0 (by omega) (by omega)
 rcases H with ⟨j,a,b,c,_,e⟩ | ⟨a,e⟩
 ·exact Or.inl ⟨e,j,a,b,c⟩
 ·exact Or.inr ⟨e (by omega),a⟩
theorem vd {k:Nat} (hk:9≤k) (l:List aB):∃ e,au k l=some e∧Et l e:=by
 unfold au
 by_cases c1:len l > 8
 ·rw [iR c1,bT]
  exact ⟨2,rfl,Or.inl ⟨c1,rfl⟩⟩
 rw [il (by omega),bF]
 by_cases c2:len l<3
 ·rw [cB c2,bT]
  exact ⟨3,rfl,Or.inr (Or.inl ⟨c2,rfl⟩)⟩
 rw [cD (by omega),bF];have hf:∀ x:aB,(fun x:(aB × Unit)=>dV k (x.1)) (x,())=some (!decide (Wn x)):=by
  intro x;show dV k x=_;unfold dV;rw [rX,bS]
 rcases lP (l:=l) (k:=k) (f:=fun x:(aB × Unit)=>dV k (x.1)) (by omega) (by omega) (g:=fun x=>!decide (Wn x)) hf with ⟨h,i,h0,h1,h2⟩ | ⟨h,h2⟩
 ·rw [h,bS,bT]
  refine ⟨1,rfl,Or.inr (Or.inr (Or.inl ⟨by omega,by omega,?_,rfl⟩))⟩;intro ha;have:=ha i h0 h1;simp [this] at h2
 rw [h,bS,bF];have hw:jT l:=by
  intro i h0 h1;have:=h2 i h0 h1
  simpa using this
 have H:=iH (fun n v=>au.c1 k l n v) 0 (len l) (fun i=>∃ j,0≤j∧j<len l∧(j≠i∧j≠nx (len l) i∧fb (q l i) (q l (nx (len l) i)) (q l j)≤0)) (fun _=>())
  (by
   intro n v h2 h3 h4;show au.c1 k l (n+1) v=_;have hn:=dK h2 h3;rw [au.c1,cB h3,bT,rP (cZ h2 h3),rP (show nz (len l) by unfold nz; omega),gU h2 h3 (by omega),rP (cZ hn.1 hn.2)];rcases vq (k:=k) (by omega) hk hw h2 h3 with ⟨e,_⟩ | ⟨_,e⟩
   ·rw [e,bS,ir]
   ·obtain ⟨j,a,b,c⟩:=h4
    exact absurd c (e j a b))
  (by
   intro n v h2 h3 h4;show au.c1 k l (n+1) v=au.c1 k l n (v+1);have hn:=dK h2 h3;rw [au.c1,cB h3,bT,rP (cZ h2 h3),rP (show nz (len l) by unfold nz; omega),gU h2 h3 (by omega),rP (cZ hn.1 hn.2)];rcases vq (k:=k) (by omega) hk hw h2 h3 with ⟨_,e⟩ | ⟨e,_⟩
   ·exact absurd e h4
   ·rw [e,bS,ig,bH (by omega) (by omega)])
  (by
   intro n v h2 h3;show au.c1 k l (n+1) v=_
   rw [au.c1,cD h3,bF])
  k 0 (by omega) (by omega)
 rcases H with ⟨i,a,b,⟨j,c,d,f⟩,_,e⟩ | ⟨a,e⟩
 ·have e:au.c1 k l k 0=some (.inl ()):=e
  rw [e,bS,ir];refine ⟨3,rfl,Or.inr (Or.inr (Or.inr (Or.inl ⟨by omega,by omega,hw,?_,rfl⟩)))⟩;intro he;have:=he i j a b c d f.1 f.2.1;omega
 ·have e:au.c1 k l k 0=some (.inr ()):=e (by omega)
  rw [e,bS,ig];refine ⟨0,rfl,Or.inr (Or.inr (Or.inr (Or.inr ⟨by omega,by omega,hw,?_,rfl⟩)))⟩;intro i j h0 h1 h2 h3 h4 h5;rcases Int.lt_or_le 0 (fb (q l i) (q l (nx (len l) i)) (q l j)) with g | g
  ·exact g
  ·exact absurd ⟨j,h2,h3,h4,h5,g⟩ (a i h0 h1)
end Go.Proofs.T1
namespace Go.Proofs.T1
open Go Go.Sx
def cr (a b:aB):Int:=a.1*b.2.1 - a.2.1*b.1
def G7 (l:List aB):Nat→Int
 | 0=>0
 | n+1=>G7 l n+cr (q l n) (q l (n+1))
def sh (l:List aB) (v:Int):Int:=G7 l v.toNat
def Hk (l:List aB):Int:=sh l (len l - 1)+cr (q l (len l - 1)) (q l 0)
def jx (l:List aB):Prop:=3≤len l∧len l≤8∧jT l∧iz l
theorem AI {l:List aB} (h:Et l 0):jx l:=by
 unfold Et at h;rcases h with h | h | h | h | h
 ·omega
 ·omega
 ·omega
 ·omega
 ·exact ⟨h.1,h.2.1,h.2.2.1,h.2.2.2.1⟩
theorem Dy {l:List aB} (h:jx l):Et l 0:=Or.inr (Or.inr (Or.inr (Or.inr ⟨h.1,h.2.1,h.2.2.1,h.2.2.2,rfl⟩)))
theorem iQ {k:Nat} (hk:9≤k) {l:List aB} (h:jx l):au k l=some 0:=by
 obtain ⟨e,h1,h2⟩:=vd hk l;rw [h1,Bk h2 (Dy h)]
open Classical in
theorem yj {k:Nat} (hk:9≤k) {l:List aB} (hv:jx l) (p:aB):bz k l p=some (decide (Wn p∧pY l p)):=by
 unfold bz bz.c1;rw [iQ hk hv,bS,ek rfl,bF,rX,bS,bS]
 by_cases hp:Wn p
 ·rw [decide_eq_true hp]
  show aR false _ _=_;rw [bF];have hs:∀ v,0≤v→v<len l→eD k (el bK l v) (el bK l (nx (len l) v)) p=some (fb (q l v) (q l (nx (len l) v)) p):=by
   intro v a b;have hn:=dK a b;exact xW k (hv.2.2.1 v a b) (hv.2.2.1 _ hn.1 hn.2) hp
  have h8:=hv.2.1;have H:=iH (fun n v=>bz.c2 k l p n v) 0 (len l) (fun v=>fb (q l v) (q l (nx (len l) v)) p<0) (fun _=>())
   (by
    intro n v a b c;have hn:=dK a b;show bz.c2 k l p (n+1) v=_
    rw [bz.c2,cB b,bT,rP (cZ a b),rP (show nz (len l) by unfold nz; omega),gU a b (by omega),rP (cZ hn.1 hn.2),hs v a b,bS,cB c,bT])
   (by
    intro n v a b c;have hn:=dK a b;show bz.c2 k l p (n+1) v=bz.c2 k l p n (v+1)
    rw [bz.c2,cB b,bT,rP (cZ a b),rP (show nz (len l) by unfold nz; omega),gU a b (by omega),rP (cZ hn.1 hn.2),hs v a b,bS,cD (by omega),bF,bH (by omega) (by omega)])
   (by
    intro n v a b;show bz.c2 k l p (n+1) v=_
    rw [bz.c2,cD b,bF])
   k 0 (by omega) (by omega)
  rcases H with ⟨i,a,b,c,_,e⟩ | ⟨a,e⟩
  ·have e:bz.c2 k l p k 0=some (.inl ()):=e
   rw [e,bS,ir,decide_eq_false];intro h;have:=h.2 i a b;omega
  ·have e:bz.c2 k l p k 0=some (.inr ()):=e (by omega)
   rw [e,bS,ig,decide_eq_true];refine ⟨hp,fun i x y=>?_⟩;have:=a i x y;omega
 ·rw [decide_eq_false hp]
  show aR true _ _=_;rw [bT,decide_eq_false (fun h=>hp h.1)]
end Go.Proofs.T1
namespace Go.Proofs.T1
open Go Go.Sx
def dt (a b:aB):Int:=a.1*b.1+a.2.1*b.2.1
theorem CK {a d:aB} (ha:Wn a) (h3:lG d.1) (h4:lG d.2.1):-1208925819614629174706176000≤dt a d∧dt a d≤1208925819614629174706176000:=by
 unfold dt Wn lG at *
 have h1:=dB (x:=a.1) (y:=d.1) (M:=65536000) (N:=9223372036854775808) (by omega) (by omega) (by omega) (by omega);have h2:=dB (x:=a.2.1) (y:=d.2.1) (M:=65536000) (N:=9223372036854775808) (by omega) (by omega) (by omega) (by omega);omega
theorem Bb (k:Nat) {a d:aB} (ha:Wn a) (h3:lG d.1) (h4:lG d.2.1):∃ c,fW k a d=some c∧oX c∧wv c=dt a d:=by
 have hr:=CK ha h3 h4;unfold Wn lG at *
 obtain ⟨x,e1,o1,v1⟩:=iO k (a:=a.1) (b:=d.1) (by omega) (by omega) h3.1 h3.2;obtain ⟨y,e2,o2,v2⟩:=iO k (a:=a.2.1) (b:=d.2.1) (by omega) (by omega) h4.1 h4.2;obtain ⟨c,e3,o3,v3⟩:=Db k o1 o2;refine ⟨c,?_,o3,?_⟩
 ·unfold fW
  rw [e1,bS,e2,bS,e3,bS]
 ·rw [v1,v2] at v3
  have:a.1*d.1+a.2.1*d.2.1=dt a d:=rfl;rw [this] at v3;unfold oX at o3;have hc:wv c=c.1*18446744073709551616+c.2.1:=rfl;omega
theorem GN (k:Nat) {a b d:aB} (ha:Wn a) (hb:Wn b) (h3:lG d.1) (h4:lG d.2.1) {α:Type} (f:Int→Option α) :
  (bG (fW k a d) fun y8=>bG (fW k b d) fun y11=>bG (bc k y8 y11) f)=f (lF (dt a d) (dt b d)):=by
 obtain ⟨x,e1,o1,v1⟩:=Bb k ha h3 h4;obtain ⟨y,e2,o2,v2⟩:=Bb k hb h3 h4;rw [e1,bS,e2,bS,pT k o1 o2,bS,v1,v2]
def zS (l:List aB) (d:aB) (b:Int):Prop:=0≤b∧b<len l∧∀ j,0≤j→j<len l→dt (q l j) d<dt (q l b) d∨(dt (q l j) d=dt (q l b) d∧b≤j)
theorem Ax {l:List aB} {d:aB} {b c:Int} (hb:zS l d b) (hc:zS l d c):b=c:=by
 have h1:=hb.2.2 c hc.1 hc.2.1;have h2:=hc.2.2 b hb.1 hb.2.1;omega
theorem CF {k:Nat} (hk:9≤k) {l:List aB} (hv:jx l) {d:aB} (h3:lG d.1) (h4:lG d.2.1):∃ b,bn k l d=some b∧zS l d b:=by
 have h8:=hv.2.1;have hl3:=hv.1;have H:=iM (fun n s v=>bn.c1 k l d n s v) 0 (len l) (fun b v=>0≤b∧(b<v∨v=0∧b=0)∧∀ j,0≤j→j<v→dt (q l j) d<dt (q l b) d∨(dt (q l j) d=dt (q l b) d∧b≤j))
  (by
   intro n s v a b ⟨c,e,f⟩;have hd:=GN k (a:=q l v) (b:=q l s) (d:=d) (hv.2.2.1 v a b) (hv.2.2.1 s c (by omega)) h3 h4 (fun y13=>aR (iS y13 0) (bn.c1 k l d n v (ag .i64 v 1)) (bn.c1 k l d n s (ag .i64 v 1)));have hu:bn.c1 k l d (n+1) s v=aR (iS (lF (dt (q l v) d) (dt (q l s) d)) 0) (bn.c1 k l d n v (ag .i64 v 1)) (bn.c1 k l d n s (ag .i64 v 1)):=by
    have hin:gn s l:=cZ c (by omega);rw [bn.c1,cB b,bT,rP (cZ a b)];simp only [rP hin];exact hd
   rw [bH (by omega) (by omega)] at hu
   by_cases g:dt (q l s) d<dt (q l v) d
   ·rw [sF g] at hu
    refine ⟨v,⟨a,Or.inl (by omega),?_⟩,hu⟩;intro j j0 j1
    by_cases hj:j=v
    ·subst hj; exact Or.inr ⟨rfl,by omega⟩
    ·have:=f j j0 (by omega)
     exact Or.inl (by omega)
   ·have h5:iS (lF (dt (q l v) d) (dt (q l s) d)) 0=false:=by
     rcases Int.lt_trichotomy (dt (q l v) d) (dt (q l s) d) with x | x | x
     ·rw [sX x]; rfl
     ·rw [Dm x]; rfl
     ·exact absurd x g
    rw [h5,bF] at hu;refine ⟨s,⟨c,Or.inl (by omega),?_⟩,hu⟩;intro j j0 j1
    by_cases hj:j=v
    ·subst hj
     rcases Int.lt_trichotomy (dt (q l j) d) (dt (q l s) d) with x | x | x
     ·exact Or.inl x
     ·exact Or.inr ⟨x,by omega⟩
     ·exact absurd x g
    ·exact f j j0 (by omega))
  (by
   intro n s v a b;show bn.c1 k l d (n+1) s v=some s
   rw [bn.c1,cD b,bF])
  k 0 0 (by omega) (by omega) (by omega) ⟨by omega,Or.inr ⟨rfl,rfl⟩,fun j x y=>by omega⟩
 obtain ⟨s,⟨a,b,c⟩,e⟩:=H;have e:bn.c1 k l d k 0 0=some s:=e;refine ⟨s,?_,a,by omega,c⟩;unfold bn;rw [iQ hk hv,bS,ek rfl,bF,e,bS]
end Go.Proofs.T1
