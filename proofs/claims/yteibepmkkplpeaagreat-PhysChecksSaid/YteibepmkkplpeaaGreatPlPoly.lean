import Derived.Test.YteibepmkkplpeaaGreatPlRing
import Derived.Test.YteibepmkkplpeaaGreatG17
namespace Go.Proofs.T1
open Go Go.Sx
theorem fZ {α:Type} (F:Nat→Int→Option (α ⊕ Unit)) (lo N:Int) (P:Int→Prop) (g:Int→α)
  (hstep:∀ n v,lo≤v→v<N→P v→F (n+1) v=some (.inl (g v)))
  (hskip:∀ n v,lo≤v→v<N→¬ P v→F (n+1) v=F n (v+1))
  (hend:∀ n v,lo≤v→N≤v→F (n+1) v=some (.inr ())) :
  ∀ (n:Nat) (v:Int),lo≤v→N - v<(n:Int)→(∃ j,v≤j∧j<N∧P j∧(∀ i,v≤i→i<j→¬ P i)∧F n v=some (.inl (g j))) ∨
   ((∀ j,v≤j→j<N→¬ P j)∧(0<n→F n v=some (.inr ()))):=by
 intro n
 induction n with
 | zero =>
  intro v h1 h2;exact Or.inr ⟨fun j a b=>by omega,fun h=>absurd h (by decide)⟩
 | succ n ih =>
  intro v h1 h2
  by_cases hv:v<N
  ·by_cases hp:P v
   ·exact Or.inl ⟨v,by omega,hv,hp,fun i a b=>by omega,hstep n v h1 hv hp⟩
   ·have e:=hskip n v h1 hv hp
    have hn:0<n:=by omega
    rcases ih (v+1) (by omega) (by omega) with ⟨j,a,b,c,d,f⟩ | ⟨a,b⟩
    ·refine Or.inl ⟨j,by omega,b,c,?_,e ▸ f⟩
     intro i x y
     by_cases hi:i=v
     ·exact hi ▸ hp
     ·exact d i (by omega) y
    ·refine Or.inr ⟨?_,fun _=>by rw [e,b hn]⟩
     intro i x y
     by_cases hi:i=v
     ·exact hi ▸ hp
     ·exact a i (by omega) y
  ·exact Or.inr ⟨fun j a b=>by omega,fun _=>hend n v h1 (by omega)⟩
theorem lT {σ:Type} (F:Nat→σ→Int→Option σ) (lo N:Int) (I:σ→Int→Prop)
  (hstep:∀ n s v,lo≤v→v<N→I s v→∃ s',I s' (v+1)∧F (n+1) s v=F n s' (v+1))
  (hend:∀ n s v,lo≤v→N≤v→F (n+1) s v=some s) :
  ∀ (n:Nat) (s:σ) (v:Int),lo≤v→v≤N→N - v<(n:Int)→I s v→∃ s',I s' N∧F n s v=some s':=by
 intro n
 induction n with
 | zero=>intro s v h1 h2 h3; omega
 | succ n ih =>
  intro s v h1 h2 h3 h4
  by_cases hv:v<N
  ·obtain ⟨s',a,b⟩:=hstep n s v h1 hv h4
   rw [b];exact ih s' (v+1) (by omega) (by omega) (by omega) a
  ·have:v=N:=by omega
   subst this;exact ⟨s,h4,hend n s v h1 (by omega)⟩
def fH (a:List Int):Nat→Int
 | 0=>0
 | n+1=>fH a n+a.getD n 0*65536 ^ n
def Dg (a:List Int):Prop:=a.length=8∧∀ i,i<8→0≤a.getD i 0∧a.getD i 0<65536
theorem km (a:List Int) (i j:Nat) (x:Int):(a.set i x).getD j 0=if i=j∧i<a.length then x else a.getD j 0:=by
 simp only [List.getD_eq_getElem?_getD,List.getElem?_set]
 by_cases h:i=j
 ·subst h
  by_cases h2:i<a.length
  ·simp [h2]
  ·simp [h2]
 ·simp [h]
theorem rZ (a:List Int) (i:Nat) (x:Int):∀ j,j≤i→fH (a.set i x) j=fH a j:=by
 intro j
 induction j with
 | zero=>intro _; rfl
 | succ j ih =>
  intro h;have h2:¬ i=j:=by omega
  simp only [fH,ih (by omega),km,h2,false_and,if_false]
theorem oh (a:List Int) (i:Nat) (x:Int) (hi:i<a.length):∀ j,i<j→fH (a.set i x) j=fH a j+(x - a.getD i 0)*65536 ^ i:=by
 intro j
 induction j with
 | zero=>intro h; omega
 | succ j ih =>
  intro h
  by_cases hj:i=j
  ·subst hj
   simp only [fH,rZ a i x i (Nat.le_refl _),km,hi,and_self,if_true];grind
  ·simp only [fH,ih (by omega),km,hj,false_and,if_false]
   grind
theorem sv {a:List Int} (ha:Dg a) (i:Nat) {x:Int} (h0:0≤x) (h1:x<65536):Dg (a.set i x):=by
 refine ⟨by simp [ha.1],?_⟩;intro j hj;rw [km];split
 ·exact ⟨h0,h1⟩
 ·exact ha.2 j hj
theorem iJ {a:List Int} (ha:Dg a):∀ j,j≤8→0≤fH a j∧fH a j<65536 ^ j:=by
 intro j
 induction j with
 | zero=>intro _; exact ⟨Int.le_refl _,by simp [fH]⟩
 | succ j ih =>
  intro h;have h1:=ih (by omega);have h2:=ha.2 j (by omega);have hp:(0:Int)<65536 ^ j:=Int.pow_pos (by decide);rw [Int.pow_succ];simp only [fH];generalize (65536:Int) ^ j=P at *
  generalize fH a j=S at *
  generalize a.getD j 0=d at *
  have e1:0≤d*P:=Int.mul_nonneg h2.1 (by omega);have e2:0≤(65535 - d)*P:=Int.mul_nonneg (by omega) (by omega);have e3:(65535 - d)*P=65535*P - d*P:=by grind
  omega
instance (a:List Int):Decidable (Dg a):=by unfold Dg; infer_instance
theorem qz:Dg (List.replicate 8 0):=by decide
theorem uE:fH (List.replicate 8 0) 8=0:=by decide
def BR (a:List Int) (z:Int):Prop:=Dg a∧fH a 8=z % 340282366920938463463374607431768211456
theorem yD:BR (List.replicate 8 0) 0:=⟨qz,by decide⟩
theorem tG {a:List Int} {x y:Int} (h:BR a x) (e:x % 340282366920938463463374607431768211456=y % 340282366920938463463374607431768211456):BR a y:=⟨h.1,h.2.trans e⟩
theorem pY (a:List Int) (i:Nat):el 0 a (i:Int)=a.getD i 0:=rfl
theorem s8 (a:List Int) (i:Nat) (x:Int):st a (i:Int) x=a.set i x:=rfl
theorem zG {x:Int}:cU .u32 x 16=x / 65536:=by
 unfold cU;exact Int.fdiv_eq_ediv_of_nonneg _ (by decide)
theorem zp {x:Int}:cU .u64 x 16=x / 65536:=rE x (n:=16) (by decide)
theorem qM (x y:Int):aw .u32 x y=(x+y) % 4294967296:=wrap_u32 _
theorem Ap {x:Int} (h0:0≤x) (h1:x≤4294967295):cH .and .u32 x 65535=x % 65536:=by
 obtain ⟨n,rfl⟩:=Int.eq_ofNat_of_zero_le h0;simp only [cH,wrap_u32];have e:((BitVec.ofInt IntKind.u32.bits (n:Int)) &&& (BitVec.ofInt IntKind.u32.bits (65535:Int))).toNat=n % 2 ^ 16:=by
  show ((BitVec.ofInt 32 (n:Int)) &&& (BitVec.ofInt 32 ((65535:Nat):Int))).toNat=_;rw [BitVec.toNat_and];have e1:(BitVec.ofInt 32 (n:Int)).toNat=n:=by simp; omega
  have e2:(BitVec.ofInt 32 ((65535:Nat):Int)).toNat=2 ^ 16 - 1:=by decide
  rw [e1,e2,Nat.and_two_pow_sub_one_eq_mod]
 rw [e];omega
theorem nV {x:Int} (h0:0≤x) (h1:x≤18446744073709551615):cH .and .u64 x 65535=x % 65536:=vN h0 h1 16 (by decide)
theorem Ao {x:Int} (h0:0≤x) (h1:x<65536):cH .xor .u32 x 65535=65535 - x:=by
 obtain ⟨n,rfl⟩:=Int.eq_ofNat_of_zero_le h0;have hn:n<65536:=by omega
 simp only [cH,wrap_u32];have e:((BitVec.ofInt IntKind.u32.bits (n:Int)) ^^^ (BitVec.ofInt IntKind.u32.bits (65535:Int))).toNat=65535 - n:=by
  show ((BitVec.ofInt 32 (n:Int)) ^^^ (BitVec.ofInt 32 ((65535:Nat):Int))).toNat=_;rw [BitVec.toNat_xor];have e1:(BitVec.ofInt 32 (n:Int)).toNat=n:=by simp; omega
  have e2:(BitVec.ofInt 32 ((65535:Nat):Int)).toNat=65535:=by decide
  rw [e1,e2];have h:∀ m:BitVec 16,m ^^^ 65535#16 = ~~~ m:=by intro m; rw [show (65535#16:BitVec 16)=BitVec.allOnes 16 from by decide,BitVec.xor_allOnes]
  have e3:=congrArg BitVec.toNat (h (BitVec.ofNat 16 n));rw [BitVec.toNat_xor,BitVec.toNat_not] at e3;have e4:(BitVec.ofNat 16 n).toNat=n:=by rw [BitVec.toNat_ofNat]; omega
  rw [e4] at e3;have e5:(65535#16:BitVec 16).toNat=65535:=by decide
  rw [e5] at e3;omega
 rw [e];omega
end Go.Proofs.T1
namespace Go.Proofs.T1
open Go Go.Sx
theorem yQ (a:List Int):fH a 8=a.getD 0 0+a.getD 1 0*65536+a.getD 2 0*4294967296+a.getD 3 0*281474976710656+a.getD 4 0*18446744073709551616+a.getD 5 0*1208925819614629174706176+a.getD 6 0*79228162514264337593543950336+a.getD 7 0*5192296858534827628530496329220096:=by
 simp [fH]
theorem wm (k:Nat) {a b:List Int} (ha:Dg a) (hb:Dg b):∀ (n i:Nat) (c:Int) (v:List Int),i≤8→8<i+n→Dg v→0≤c→c≤1 →
  fH v i+c*65536 ^ i=fH a i+fH b i →
  ∃ r c',cg.c1 k a b n c (i:Int) v=some r∧Dg r∧fH r 8+c'*65536 ^ 8=fH a 8+fH b 8:=by
 intro n
 induction n with
 | zero=>intro i c v h1 h2; omega
 | succ n ih =>
  intro i c v h1 h2 hv c0 c1 inv
  by_cases hi:i=8
  ·subst hi
   exact ⟨v,c,rfl,hv,inv⟩
  ·have hlt:eC (i:Int) 8=true:=by simp [eC]; omega
   have hin:gk (i:Int) 8:=by unfold gk; omega
   have hai:=ha.2 i (by omega);have hbi:=hb.2 i (by omega);have e1:aw .u32 (a.getD i 0) (b.getD i 0)=a.getD i 0+b.getD i 0:=by rw [qM]; omega
   have e2:aw .u32 c (a.getD i 0+b.getD i 0)=c+(a.getD i 0+b.getD i 0):=by rw [qM]; omega
   have e3:aw .i64 (i:Int) 1=((i+1:Nat):Int):=by rw [cA (by omega) (by omega)]; omega
   rw [cg.c1,hlt,bT,rP hin];simp only [pY,s8,e1,e2,e3,zG];rw [Ap (by omega) (by omega)];refine ih (i+1) _ _ (by omega) (by omega) (sv hv i (by omega) (by omega)) (by omega) (by omega) ?_
   rw [oh _ _ _ (by rw [hv.1]; omega) _ (by omega)];simp only [fH,Int.pow_succ];have hd:=Int.emod_add_mul_ediv (c+(a.getD i 0+b.getD i 0)) 65536;generalize (65536:Int) ^ i=P at *
   generalize (c+(a.getD i 0+b.getD i 0)) % 65536=x at *
   generalize (c+(a.getD i 0+b.getD i 0)) / 65536=y at *
   generalize a.getD i 0=p at *
   generalize b.getD i 0=q at *
   generalize v.getD i 0=w at *
   have:(x+65536*y)*P=(c+(p+q))*P:=by rw [hd]
   grind
theorem w9:(65536:Int) ^ 8=340282366920938463463374607431768211456:=by decide
theorem An {k:Nat} (hk:9≤k) {a b:List Int} {x y:Int} (ha:BR a x) (hb:BR b y):∃ c,cg k a b=some c∧BR c (x+y):=by
 obtain ⟨r,c',h1,h2,h3⟩:=wm k ha.1 hb.1 k 0 0 (List.replicate 8 0) (by decide) (by omega) qz (by decide) (by decide) (by simp [fH]);refine ⟨r,?_,h2,?_⟩
 ·unfold cg
  show bq (cg.c1 k a b k 0 ((0:Nat):Int) _) _=_;rw [h1,bS]
 ·have hr:=iJ h2 8 (Nat.le_refl _)
  rw [ha.2,hb.2,w9] at h3;rw [w9] at hr;omega
theorem tm {n:Int} (i:Nat) (hi:i≤4):cU .u64 (cP .u64 n) (bQ .i64 16 (i:Int))=n % 18446744073709551616 / 2 ^ (16*i):=by
 rw [nw];have:bQ .i64 16 (i:Int)=((16*i:Nat):Int):=by rw [ji (by omega) (by omega)]; omega
 rw [this,rE _ (by omega)]
theorem z1 (k:Nat) (n:Int) (m:Nat):dR.c1 k n (m+4) 0 (List.replicate 8 0)=dR.c1 k n m 4
  [n % 65536,n / 65536 % 65536,n / 4294967296 % 65536,n / 281474976710656 % 65536,0,0,0,0]:=by
 have s0:=tm (n:=n) 0 (by decide);have s1:=tm (n:=n) 1 (by decide);have s2:=tm (n:=n) 2 (by decide);have s3:=tm (n:=n) 3 (by decide);have t0:cP .u32 (cH .and .u64 (cU .u64 (cP .u64 n) (bQ .i64 16 0)) 65535)=n % 65536:=by
  rw [show (bQ .i64 16 (0:Int))=bQ .i64 16 ((0:Nat):Int) from rfl,s0,nV (by omega) (by omega),k8];omega
 have t1:cP .u32 (cH .and .u64 (cU .u64 (cP .u64 n) (bQ .i64 16 1)) 65535)=n / 65536 % 65536:=by
  rw [show (bQ .i64 16 (1:Int))=bQ .i64 16 ((1:Nat):Int) from rfl,s1,nV (by omega) (by omega),k8];omega
 have t2:cP .u32 (cH .and .u64 (cU .u64 (cP .u64 n) (bQ .i64 16 2)) 65535)=n / 4294967296 % 65536:=by
  rw [show (bQ .i64 16 (2:Int))=bQ .i64 16 ((2:Nat):Int) from rfl,s2,nV (by omega) (by omega),k8];omega
 have t3:cP .u32 (cH .and .u64 (cU .u64 (cP .u64 n) (bQ .i64 16 3)) 65535)=n / 281474976710656 % 65536:=by
  rw [show (bQ .i64 16 (3:Int))=bQ .i64 16 ((3:Nat):Int) from rfl,s3,nV (by omega) (by omega),k8];omega
 rw [← t0,← t1,← t2,← t3];rfl
theorem zO {k:Nat} (hk:9≤k) {n:Int} (h0:-9223372036854775808≤n) (h1:n≤9223372036854775807):∃ a,dR k n=some a∧BR a n:=by
 obtain ⟨m,rfl⟩:∃ m,k=m+9:=⟨k - 9,by omega⟩;have e:dR (m+9) n=bq (dR.c1 (m+9) n (m+5) 4 [n % 65536,n / 65536 % 65536,n / 4294967296 % 65536,n / 281474976710656 % 65536,0,0,0,0]) some:=by
  unfold dR;rw [z1]
 by_cases hn:n<0
 ·have hb:eC n 0=true:=by simp [eC,hn]
  refine ⟨[n % 65536,n / 65536 % 65536,n / 4294967296 % 65536,n / 281474976710656 % 65536,65535,65535,65535,65535],?_,⟨rfl,?_⟩,?_⟩
  ·rw [e]
   have step:∀ (j:Nat) (i:Int) (v:List Int),eC i 8=true→eC i 4=false→gk i 8→dR.c1 (m+9) n (j+1) i v=dR.c1 (m+9) n j (aw .i64 i 1) (st v i 65535):=by
    intro j i v a b c;rw [dR.c1,a,b,hb,bT,bF,bT,rP c]
   rw [show m+5=(m+4)+1 from rfl,step _ _ _ rfl rfl (by decide),step _ _ _ rfl rfl (by decide),step _ _ _ rfl rfl (by decide),step _ _ _ rfl rfl (by decide)];rfl
  ·intro i hi
   have:i=0∨i=1∨i=2∨i=3∨i=4∨i=5∨i=6∨i=7:=by omega
   rcases this with h | h | h | h | h | h | h | h <;> subst h <;> simp <;> omega
  ·rw [yQ]
   simp;omega
 ·have hb:eC n 0=false:=by simp [eC,hn]
  refine ⟨[n % 65536,n / 65536 % 65536,n / 4294967296 % 65536,n / 281474976710656 % 65536,0,0,0,0],?_,⟨rfl,?_⟩,?_⟩
  ·rw [e]
   have step:∀ (j:Nat) (i:Int) (v:List Int),eC i 8=true→eC i 4=false→dR.c1 (m+9) n (j+1) i v=dR.c1 (m+9) n j (aw .i64 i 1) v:=by
    intro j i v a b;rw [dR.c1,a,b,hb,bT,bF,bF]
   rw [show m+5=(m+4)+1 from rfl,step _ _ _ rfl rfl,step _ _ _ rfl rfl,step _ _ _ rfl rfl,step _ _ _ rfl rfl];rfl
  ·intro i hi
   have:i=0∨i=1∨i=2∨i=3∨i=4∨i=5∨i=6∨i=7:=by omega
   rcases this with h | h | h | h | h | h | h | h <;> subst h <;> simp <;> omega
  ·rw [yQ]
   simp;omega
theorem xo (k:Nat) (a:List Int):∀ (n i:Nat) (v:List Int),i≤8→8<i+n→Dg v →
  fH v i+fH a i=65536 ^ i - 1→(∀ j,i≤j→v.getD j 0=a.getD j 0) →
  ∃ r,ct.c1 k n (i:Int) v=some r∧Dg r∧fH r 8+fH a 8=65536 ^ 8 - 1:=by
 intro n
 induction n with
 | zero=>intro i v h1 h2; omega
 | succ n ih =>
  intro i v h1 h2 hv inv rest
  by_cases hi:i=8
  ·subst hi
   exact ⟨v,rfl,hv,inv⟩
  ·have hlt:eC (i:Int) 8=true:=by simp [eC]; omega
   have hin:gk (i:Int) 8:=by unfold gk; omega
   have hai:=hv.2 i (by omega);have e3:aw .i64 (i:Int) 1=((i+1:Nat):Int):=by rw [cA (by omega) (by omega)]; omega
   rw [ct.c1,hlt,bT,rP hin];simp only [pY,s8,e3];rw [Ao hai.1 hai.2];refine ih (i+1) _ (by omega) (by omega) (sv hv i (by omega) (by omega)) ?_ ?_
   ·rw [oh _ _ _ (by rw [hv.1]; omega) _ (by omega)]
    simp only [fH,Int.pow_succ];rw [rest i (Nat.le_refl _)];generalize (65536:Int) ^ i=P at *
    grind
   ·intro j hj
    rw [km];have:¬ (i=j∧i<v.length):=by omega
    rw [if_neg this];exact rest j (by omega)
theorem AJ {k:Nat} (hk:9≤k) {a:List Int} {x:Int} (ha:BR a x):∃ c,ct k a=some c∧BR c (-x):=by
 obtain ⟨r,h1,h2,h3⟩:=xo k a k 0 a (by decide) (by omega) ha.1 (by simp [fH]) (fun _ _=>rfl);obtain ⟨o,o1,o2⟩:=zO hk (n:=1) (by decide) (by decide);have hb:BR r (-1 - x):=by
  refine ⟨h2,?_⟩;have hr:=iJ h2 8 (Nat.le_refl _);rw [ha.2,w9] at h3;rw [w9] at hr;omega
 obtain ⟨c,c1,c2⟩:=An hk hb o2;refine ⟨c,?_,tG c2 (by congr 1; omega)⟩;unfold ct;show bq (ct.c1 k k ((0:Nat):Int) a) _=_;rw [h1,bS,o1,bS,c1,bS]
theorem AO {k:Nat} (hk:9≤k) {a b:List Int} {x y:Int} (ha:BR a x) (hb:BR b y):∃ c,eL k a b=some c∧BR c (x - y):=by
 obtain ⟨n,n1,n2⟩:=AJ hk hb;obtain ⟨c,c1,c2⟩:=An hk ha n2;exact ⟨c,by unfold eL; rw [n1,bS,c1,bS],tG c2 (by congr 1)⟩
theorem zc (k:Nat) {a b:List Int} (ha:Dg a) (hb:Dg b) (i:Nat) (hi:i<8) (S:Int):∀ (n j:Nat) (c:Int) (v:List Int),i+j≤8→8<i+j+n→Dg v→0≤c→c≤65535 →
  fH v 8+c*65536 ^ (i+j)=S+a.getD i 0*65536 ^ i*fH b j →
  ∃ r c',bn.c2 k a b (i:Int) n c (j:Int) v=some r∧Dg r∧fH r 8+c'*65536 ^ 8=S+a.getD i 0*65536 ^ i*fH b (8 - i):=by
 intro n
 induction n with
 | zero=>intro j c v h1 h2; omega
 | succ n ih =>
  intro j c v h1 h2 hv c0 c1 inv;have e4:aw .i64 (i:Int) (j:Int)=((i+j:Nat):Int):=by rw [cA (by omega) (by omega)]; omega
  by_cases hij:i+j=8
  ·have hj:j=8 - i:=by omega
   subst hj;refine ⟨v,c,?_,hv,?_⟩
   ·rw [bn.c2,e4,hij]
    rfl
   ·rw [hij] at inv
    exact inv
  ·have hlt:eC ((i+j:Nat):Int) 8=true:=by simp [eC]; omega
   have hin:gk ((i+j:Nat):Int) 8:=by unfold gk; omega
   have hin1:gk (i:Int) 8:=by unfold gk; omega
   have hin2:gk (j:Int) 8:=by unfold gk; omega
   have hai:=ha.2 i (by omega);have hbj:=hb.2 j (by omega);have hvi:=hv.2 (i+j) (by omega);have hpr:=vd hai.1 (show a.getD i 0≤65535 by omega) hbj.1 (show b.getD j 0≤65535 by omega);have e3:aw .i64 (j:Int) 1=((j+1:Nat):Int):=by rw [cA (by omega) (by omega)]; omega
   rw [bn.c2];simp only [e4];rw [hlt,bT,rP hin1,rP hin2,rP hin];simp only [pY,s8,e3,zp];have f1:cP .u64 (a.getD i 0)=a.getD i 0:=by rw [nw]; omega
   have f2:cP .u64 (b.getD j 0)=b.getD j 0:=by rw [nw]; omega
   have f3:cP .u64 (v.getD (i+j) 0)=v.getD (i+j) 0:=by rw [nw]; omega
   have f4:bQ .u64 (a.getD i 0) (b.getD j 0)=a.getD i 0*b.getD j 0:=by rw [vD]; omega
   have f5:aw .u64 (a.getD i 0*b.getD j 0) (v.getD (i+j) 0)=a.getD i 0*b.getD j 0+v.getD (i+j) 0:=by rw [qR]; omega
   have f6:aw .u64 c (a.getD i 0*b.getD j 0+v.getD (i+j) 0)=c+(a.getD i 0*b.getD j 0+v.getD (i+j) 0):=by rw [qR]; omega
   simp only [f1,f2,f3,f4,f5,f6];rw [nV (by omega) (by omega),k8];have f7:(c+(a.getD i 0*b.getD j 0+v.getD (i+j) 0)) % 65536 % 4294967296=(c+(a.getD i 0*b.getD j 0+v.getD (i+j) 0)) % 65536:=by omega
   rw [f7];refine ih (j+1) _ _ (by omega) (by omega) (sv hv _ (by omega) (by omega)) (by omega) (by omega) ?_
   rw [oh _ _ _ (by rw [hv.1]; omega) _ (by omega)];have hd:=Int.emod_add_mul_ediv (c+(a.getD i 0*b.getD j 0+v.getD (i+j) 0)) 65536;rw [show fH b (j+1)=fH b j+b.getD j 0*65536 ^ j from rfl,show (65536:Int) ^ (i+(j+1))=65536 ^ (i+j)*65536 from Int.pow_succ _ _];have hpw:(65536:Int) ^ (i+j)=65536 ^ i*65536 ^ j:=Int.pow_add _ _ _;rw [hpw] at inv ⊢;generalize (65536:Int) ^ i=P at *
   generalize (65536:Int) ^ j=Q at *
   generalize (c+(a.getD i 0*b.getD j 0+v.getD (i+j) 0)) % 65536=x at *
   generalize (c+(a.getD i 0*b.getD j 0+v.getD (i+j) 0)) / 65536=y at *
   generalize a.getD i 0=p at *
   generalize b.getD j 0=q at *
   generalize v.getD (i+j) 0=w at *
   generalize fH v 8=V at *
   generalize fH b j=B at *
   have h9:(x+65536*y)*(P*Q)=(c+(p*q+w))*(P*Q):=by rw [hd]
   have e1:(x+65536*y)*(P*Q)=x*(P*Q)+65536*(y*(P*Q)):=by grind
   have e2:(c+(p*q+w))*(P*Q)=c*(P*Q)+p*q*(P*Q)+w*(P*Q):=by grind
   have e5:(x - w)*(P*Q)=x*(P*Q) - w*(P*Q):=by grind
   have e6:y*(P*Q*65536)=65536*(y*(P*Q)):=by grind
   have e7:p*P*(B+q*Q)=p*P*B+p*q*(P*Q):=by grind
   rw [e5,e6,e7];rw [e1,e2] at h9;clear hd e1 e2 e5 e6 e7 hpr f1 f2 f3 f4 f5 f6 f7 ih;generalize x*(P*Q)=t1 at *
   generalize y*(P*Q)=t2 at *
   generalize c*(P*Q)=t3 at *
   generalize p*q*(P*Q)=t4 at *
   generalize w*(P*Q)=t5 at *
   generalize p*P*B=t6 at *
   omega
theorem sL (b:List Int) (i:Nat):∀ j,∃ q,fH b (i+j)=fH b i+q*65536 ^ i:=by
 intro j
 induction j with
 | zero=>exact ⟨0,by simp⟩
 | succ j ih =>
  obtain ⟨q,hq⟩:=ih;refine ⟨q+b.getD (i+j) 0*65536 ^ j,?_⟩;show fH b (i+j)+b.getD (i+j) 0*65536 ^ (i+j)=_;rw [hq,Int.pow_add];grind
theorem xQ (k:Nat) (hk:9≤k) {a b:List Int} (ha:Dg a) (hb:Dg b):∀ (n i:Nat) (v:List Int),i≤8→8<i+n→Dg v →
  (∃ c,fH v 8+c*65536 ^ 8=fH a i*fH b 8) →
  ∃ r,bn.c1 k a b n (i:Int) v=some r∧Dg r∧∃ c,fH r 8+c*65536 ^ 8=fH a 8*fH b 8:=by
 intro n
 induction n with
 | zero=>intro i v h1 h2; omega
 | succ n ih =>
  intro i v h1 h2 hv inv
  by_cases hi:i=8
  ·subst hi
   exact ⟨v,rfl,hv,inv⟩
  ·have hlt:eC (i:Int) 8=true:=by simp [eC]; omega
   have e3:aw .i64 (i:Int) 1=((i+1:Nat):Int):=by rw [cA (by omega) (by omega)]; omega
   obtain ⟨r,c',h3,h4,h5⟩:=zc k ha hb i (by omega) (fH v 8) k 0 0 v (by omega) (by omega) hv (by decide) (by decide) (by simp [fH]);rw [bn.c1,hlt,bT];show ∃ r,bq (bn.c2 k a b (i:Int) k 0 ((0:Nat):Int) v) _=some r∧_;rw [h3,bS,e3];refine ih (i+1) r (by omega) (by omega) h4 ?_
   obtain ⟨c,inv⟩:=inv;obtain ⟨q,hq⟩:=sL b (8 - i) i;rw [show 8 - i+i=8 by omega] at hq;have hpw:(65536:Int) ^ 8=65536 ^ (8 - i)*65536 ^ i:=by rw [← Int.pow_add,show 8 - i+i=8 by omega]
   refine ⟨c+c'+a.getD i 0*q,?_⟩;rw [show fH a (i+1)=fH a i+a.getD i 0*65536 ^ i from rfl];generalize (65536:Int) ^ 8=W at *
   generalize (65536:Int) ^ (8 - i)=P at *
   generalize (65536:Int) ^ i=Q at *
   grind
theorem zR {k:Nat} (hk:9≤k) {a b:List Int} {x y:Int} (ha:BR a x) (hb:BR b y):∃ c,bn k a b=some c∧BR c (x*y):=by
 obtain ⟨r,h1,h2,c,h3⟩:=xQ k hk ha.1 hb.1 k 0 (List.replicate 8 0) (by decide) (by omega) qz ⟨0,by rw [uE,show fH a 0=0 from rfl]; simp⟩;refine ⟨r,?_,h2,?_⟩
 ·unfold bn
  show bq (bn.c1 k a b k ((0:Nat):Int) _) _=_;rw [h1,bS]
 ·have hr:=iJ h2 8 (Nat.le_refl _)
  rw [w9] at h3 hr;have e1:fH r 8=(fH a 8*fH b 8) % 340282366920938463463374607431768211456:=by
   rw [← h3];omega
  rw [e1,ha.2,hb.2,← Int.mul_emod]
end Go.Proofs.T1
namespace Go.Proofs.T1
open Go Go.Sx
def lL (x y:Int):Int:=if x<y then -1 else if x=y then 0 else 1
theorem lk {x y:Int} (h:x<y):lL x y=-1:=if_pos h
theorem nA {x y:Int} (h:x=y):lL x y=0:=by unfold lL; rw [if_neg (by omega),if_pos h]
theorem lj {x y:Int} (h:y<x):lL x y=1:=by unfold lL; rw [if_neg (by omega),if_neg (by omega)]
def vg (x y:Int):Int ⊕ Unit:=if x<y then .inl (-1) else if x=y then .inr () else .inl 1
theorem lK {x y:Int} (h:x<y):vg x y=.inl (-1):=if_pos h
theorem nM {x y:Int} (h:x=y):vg x y=.inr ():=by unfold vg; rw [if_neg (by omega),if_pos h]
theorem k5 {x y:Int} (h:y<x):vg x y=.inl 1:=by unfold vg; rw [if_neg (by omega),if_neg (by omega)]
def SR (x:Int):Prop:=-170141183460469231731687303715884105728≤x∧x<170141183460469231731687303715884105728
theorem xw (k:Nat) {a:List Int} {x:Int} (ha:BR a x) (hx:SR x):dL k a=some (decide (x<0)):=by
 unfold dL SR at *
 have h1:=iJ ha.1 7 (by decide);have h2:=ha.1.2 7 (by decide);have h3:fH a 8=fH a 7+a.getD 7 0*5192296858534827628530496329220096:=by simp [fH]
 have h4:(65536:Int) ^ 7=5192296858534827628530496329220096:=by decide
 have e:el 0 a 7=a.getD 7 0:=rfl;have e2:cU .u32 (a.getD 7 0) 15=a.getD 7 0 / 32768:=by
  unfold cU;exact Int.fdiv_eq_ediv_of_nonneg _ (by decide)
 rw [h4] at h1;rw [e,e2];congr 1;rw [gK,decide_eq_decide];have h5:=ha.2;rw [h3] at h5;omega
theorem wL (k:Nat) {a b:List Int} (ha:Dg a) (hb:Dg b):∀ (i n:Nat),i≤8→i<n →
  bP.c1 k a b n ((i:Int) - 1)=some (vg (fH a i) (fH b i)):=by
 intro i
 induction i with
 | zero =>
  intro n h1 h2;obtain ⟨m,rfl⟩:∃ m,n=m+1:=⟨n - 1,by omega⟩;rfl
 | succ i ih =>
  intro n h1 h2;obtain ⟨m,rfl⟩:∃ m,n=m+1:=⟨n - 1,by omega⟩;have e:(((i+1:Nat):Int) - 1)=(i:Int):=by omega
  have hge:iB (i:Int) 0=true:=by simp [iB]
  have hin:gk (i:Int) 8:=by unfold gk; omega
  have e3:cE .i64 (i:Int) 1=(i:Int) - 1:=by rw [fp (by omega) (by omega)]
  rw [bP.c1,e,hge,bT,rP hin,e3,ih m (by omega) (by omega)];simp only [pY];have p1:=iJ ha i (by omega);have p2:=iJ hb i (by omega);simp only [fH];generalize (65536:Int) ^ i=P at *
  generalize a.getD i 0=x at *
  generalize b.getD i 0=y at *
  generalize fH a i=S at *
  generalize fH b i=R at *
  by_cases h:x=y
  ·have c1:ig x y=false:=by simp [ig,h]
   rw [c1,bF,h];rcases Int.lt_trichotomy S R with g | g | g
   ·rw [lK g,lK (by omega)]
   ·rw [nM g,nM (by omega)]
   ·rw [k5 g,k5 (by omega)]
  ·have c1:ig x y=true:=by simp [ig,h]
   rw [c1,bT]
   by_cases h2:x<y
   ·have c2:eC x y=true:=by simp [eC,h2]
    rw [c2,bT];have q0:0≤(y - x - 1)*P:=Int.mul_nonneg (by omega) (by omega);have q1:(y - x - 1)*P=y*P - x*P - P:=by grind
    rw [lK (by omega)]
   ·have c2:eC x y=false:=by simp [eC,h2]
    rw [c2,bF];have q0:0≤(x - y - 1)*P:=Int.mul_nonneg (by omega) (by omega);have q1:(x - y - 1)*P=x*P - y*P - P:=by grind
    rw [k5 (by omega)]
theorem Ad {k:Nat} (hk:9≤k) {a b:List Int} {x y:Int} (ha:BR a x) (hb:BR b y) (hx:SR x) (hy:SR y):bP k a b=some (lL x y):=by
 unfold bP;rw [xw k ha hx,xw k hb hy];simp only [bS];have hl:=wL k ha.1 hb.1 8 k (by decide) (by omega);have e7:(((8:Nat):Int) - 1)=7:=by decide
 rw [e7] at hl;rw [hl];have e0:Ty.l5 T4 (decide (x<0)) (decide (y<0))=(decide (x<0) == decide (y<0)):=rfl;rw [e0];unfold SR at *
 have h1:=ha.2;have h2:=hb.2
 by_cases c1:x<0 <;> by_cases c2:y<0
 ·simp only [c1,c2,decide_true,beq_self_eq_true,bT,bS]
  rcases Int.lt_trichotomy x y with g | g | g
  ·rw [lk g,lK (by omega)]; rfl
  ·rw [nA g,nM (by omega)]; rfl
  ·rw [lj g,k5 (by omega)]; rfl
 ·rw [lk (by omega)]
  simp only [c1,c2,decide_true,decide_false];rfl
 ·rw [lj (by omega)]
  simp only [c1,c2,decide_true,decide_false];rfl
 ·simp only [c1,c2,decide_false,beq_self_eq_true,bT,bS]
  rcases Int.lt_trichotomy x y with g | g | g
  ·rw [lk g,lK (by omega)]; rfl
  ·rw [nA g,nM (by omega)]; rfl
  ·rw [lj g,k5 (by omega)]; rfl
def vB (x:Int):Prop:=-9223372036854775808≤x∧x≤9223372036854775807
theorem xg {k:Nat} (hk:9≤k) {a b:bm} (h1:vB a.1) (h2:vB a.2.1) (h3:vB b.1) (h4:vB b.2.1):∃ c,fi k a b=some c∧BR c (a.1*b.2.1 - a.2.1*b.1):=by
 obtain ⟨y1,e1,r1⟩:=zO hk h1.1 h1.2;obtain ⟨y3,e3,r3⟩:=zO hk h4.1 h4.2;obtain ⟨y5,e5,r5⟩:=zR hk r1 r3;obtain ⟨y7,e7,r7⟩:=zO hk h2.1 h2.2;obtain ⟨y9,e9,r9⟩:=zO hk h3.1 h3.2;obtain ⟨y11,e11,r11⟩:=zR hk r7 r9;obtain ⟨y13,e13,r13⟩:=AO hk r5 r11;exact ⟨y13,by unfold fi; rw [e1,bS,e3,bS,e5,bS,e7,bS,e9,bS,e11,bS,e13,bS],r13⟩
def Wn (a:bm):Prop:=-65536000≤a.1∧a.1≤65536000∧-65536000≤a.2.1∧a.2.1≤65536000
instance (a:bm):Decidable (Wn a):=by unfold Wn; infer_instance
def gr (a b p:bm):Int:=(b.1 - a.1)*(p.2.1 - a.2.1) - (b.2.1 - a.2.1)*(p.1 - a.1)
theorem ki {x y M N:Int} (h1:-M≤x) (h2:x≤M) (h3:-N≤y) (h4:y≤N):-(M*N)≤x*y∧x*y≤M*N:=by
 have p1:0≤(M - x)*(N - y):=Int.mul_nonneg (by omega) (by omega);have p2:0≤(M+x)*(N+y):=Int.mul_nonneg (by omega) (by omega);have p3:0≤(M - x)*(N+y):=Int.mul_nonneg (by omega) (by omega);have p4:0≤(M+x)*(N - y):=Int.mul_nonneg (by omega) (by omega);have e1:(M - x)*(N - y)=M*N - M*y - x*N+x*y:=by grind
 have e2:(M+x)*(N+y)=M*N+M*y+x*N+x*y:=by grind
 have e3:(M - x)*(N+y)=M*N+M*y - x*N - x*y:=by grind
 have e4:(M+x)*(N - y)=M*N - M*y+x*N - x*y:=by grind
 omega
theorem pC (k:Nat) (a:bm):dV k a=some (decide (Wn a)):=by
 unfold dV Wn
 by_cases h1:a.1 ≥ -65536000 <;> by_cases h2:a.1≤65536000 <;> by_cases h3:a.2.1 ≥ -65536000 <;> by_cases h4:a.2.1≤65536000 <;>
  simp [iB,jf,aP,h1,h2,h3,h4] <;> omega
theorem gR (k:Nat) (a:bm) (m:Int) (h0:0≤m) (h1:m≤9223372036854775807):dq k a m=some (decide (-m≤a.1∧a.1≤m∧-m≤a.2.1∧a.2.1≤m)):=by
 have e:fV .i64 m=-m:=by unfold fV; rw [wrap_i64 (by omega) (by omega)]; omega
 unfold dq;rw [e]
 by_cases h1:a.1 ≥ -m <;> by_cases h2:a.1≤m <;> by_cases h3:a.2.1 ≥ -m <;> by_cases h4:a.2.1≤m <;>
  simp [iB,jf,aP,h1,h2,h3,h4] <;> omega
theorem vz {a b p:bm} (ha:Wn a) (hb:Wn b) (hp:Wn p):-34359738368000000≤gr a b p∧gr a b p≤34359738368000000:=by
 unfold gr Wn at *
 have h1:=ki (x:=b.1 - a.1) (y:=p.2.1 - a.2.1) (M:=131072000) (N:=131072000) (by omega) (by omega) (by omega) (by omega);have h2:=ki (x:=b.2.1 - a.2.1) (y:=p.1 - a.1) (M:=131072000) (N:=131072000) (by omega) (by omega) (by omega) (by omega);omega
theorem tD (k:Nat) {a b p:bm} (ha:Wn a) (hb:Wn b) (hp:Wn p):eB k a b p=some (gr a b p):=by
 unfold eB gr Wn at *
 have h1:=ki (x:=b.1 - a.1) (y:=p.2.1 - a.2.1) (M:=131072000) (N:=131072000) (by omega) (by omega) (by omega) (by omega);have h2:=ki (x:=b.2.1 - a.2.1) (y:=p.1 - a.1) (M:=131072000) (N:=131072000) (by omega) (by omega) (by omega) (by omega);rw [fp (x:=b.1) (by omega) (by omega),fp (x:=b.2.1) (by omega) (by omega),fp (x:=p.1) (by omega) (by omega),fp (x:=p.2.1) (by omega) (by omega)];rw [ji (by omega) (by omega),ji (by omega) (by omega),fp (by omega) (by omega)]
theorem nr {k:Nat} (hk:9≤k) {a b p:bm} (ha:Wn a) (hb:Wn b) (hp:Wn p):fh k a b p=some (lL (gr a b p) 0):=by
 have ht:=vz ha hb hp;unfold Wn at *
 have e1:fy k b a=some (b.1 - a.1,b.2.1 - a.2.1,()):=by
  unfold fy;rw [fp (by omega) (by omega),fp (by omega) (by omega)]
 have e2:fy k p a=some (p.1 - a.1,p.2.1 - a.2.1,()):=by
  unfold fy;rw [fp (by omega) (by omega),fp (by omega) (by omega)]
 obtain ⟨c,e3,r⟩:=xg hk (a:=(b.1 - a.1,b.2.1 - a.2.1,())) (b:=(p.1 - a.1,p.2.1 - a.2.1,())) (by unfold vB; dsimp only; omega) (by unfold vB; dsimp only; omega) (by unfold vB; dsimp only; omega) (by unfold vB; dsimp only; omega);unfold fh;rw [e1,bS,e2,bS,e3,bS,Ad hk r yD (by unfold SR; unfold gr at ht; dsimp only; omega) (by unfold SR; omega),bS];rfl
end Go.Proofs.T1
namespace Go.Proofs.T1
open Go Go.Sx
theorem cF {α:Type} {v:Int} {l:List α} (h0:0≤v) (h1:v<len l):eR v l:=⟨h0,h1⟩
theorem cI {a b:Int} (h:a<b):eC a b=true:=decide_eq_true h
theorem db {a b:Int} (h:b≤a):eC a b=false:=decide_eq_false (by omega)
theorem qp {a b:Int} (h:a≤b):jf a b=true:=decide_eq_true h
theorem qk {a b:Int} (h:b<a):jf a b=false:=decide_eq_false (by omega)
theorem hG {a b:Int} (h:a > b):ib a b=true:=decide_eq_true h
theorem gZ {a b:Int} (h:a≤b):ib a b=false:=decide_eq_false (by omega)
theorem ij {a b:Int} (h:a ≥ b):iB a b=true:=decide_eq_true h
theorem gL {a b:Int} (h:a<b):iB a b=false:=decide_eq_false (by omega)
theorem fw {a b:Int} (h:¬ a=b):ig a b=true:=decide_eq_true h
theorem eu {a b:Int} (h:a=b):ig a b=false:=decide_eq_false (fun g=>g h)
theorem gB {a b:Int} (h:a=b):gK a b=true:=decide_eq_true h
theorem gY {a b:Int} (h:¬ a=b):gK a b=false:=decide_eq_false h
def q (l:List bm) (i:Int):bm:=el ea l i
def nx (n i:Int):Int:=if i+1=n then 0 else i+1
theorem gU {n i:Int} (h0:0≤i) (h1:i<n):0≤nx n i∧nx n i<n:=by unfold nx; split <;> omega
theorem ja {n i:Int} (h0:0≤i) (h1:i<n) (h2:n≤1000):fM (aw .i64 i 1) n=nx n i:=by
 rw [cA (by omega) (by omega)];unfold fM nx;rw [Int.tmod_eq_emod_of_nonneg (by omega)];split
 ·rename_i h; rw [h,Int.emod_self]
 ·exact Int.emod_eq_of_lt (by omega) (by omega)
def oU (l:List bm):Prop:=∀ i,0≤i→i<len l→Wn (q l i)
def oD (l:List bm):Prop:=∀ i j,0≤i→i<len l→0≤j→j<len l→j≠i→j≠nx (len l) i→0<gr (q l i) (q l (nx (len l) i)) (q l j)
def yS (l:List bm):Prop:=∀ i j m,0≤i→i<j→j<m→m<len l→0<gr (q l i) (q l j) (q l m)
theorem kC (a b c:bm):gr a b c=gr b c a:=by unfold gr; grind
theorem vW (a b:bm):gr a b b=0:=by unfold gr; grind
theorem vy (a b:bm):gr a b a=0:=by unfold gr; grind
theorem wy (a b c:bm):gr b a c=- gr a b c:=by unfold gr; grind
theorem zb (a u x y z:bm):gr a u y*gr a x z=gr a u x*gr a y z+gr a u z*gr a x y:=by unfold gr; grind
theorem w8 (a b p x y z:bm):gr a b p*gr x y z=gr a b x*gr p y z+gr a b y*gr x p z+gr a b z*gr x y p:=by unfold gr; grind
theorem th {a b:Int} (hb:0<b) (h:0<b*a):0<a:=by
 rcases Int.lt_or_le 0 a with g | g
 ·exact g
 ·have:b*a≤b*0:=Int.mul_le_mul_of_nonneg_left g (by omega)
  omega
theorem vr {a b:Int} (hb:0<b) (h:0≤b*a):0≤a:=by
 rcases Int.lt_or_le a 0 with g | g
 ·have:b*a≤b*(-1):=Int.mul_le_mul_of_nonneg_left (by omega) (by omega)
  omega
 ·exact g
theorem pj {l:List bm} (he:oD l):yS l:=by
 have H:∀ (d:Nat) (i j:Int),0≤i→i<j→j+1+d<len l→0<gr (q l i) (q l j) (q l (j+1+d)):=by
  intro d
  induction d with
  | zero =>
   intro i j h0 h1 h2;have h:=he j i (by omega) (by omega) (by omega) (by omega) (by omega) (by unfold nx; split <;> omega);have hn:nx (len l) j=j+1:=by unfold nx; split <;> omega
   rw [hn] at h;rw [kC]
   simpa using h
  | succ d ih =>
   intro i j h0 h1 h2;have hij:nx (len l) i=i+1:=by unfold nx; split <;> omega
   have e1:j+1+((d+1:Nat):Int)=(j+1+d)+1:=by omega
   by_cases hj:j=i+1
   ·have h:=he i (j+1+((d+1:Nat):Int)) (by omega) (by omega) (by omega) (by omega) (by omega) (by rw [hij]; omega)
    rw [hij] at h;rw [hj] at h ⊢;exact h
   ·have a1:=ih i j h0 h1 (by omega)
    have hn:nx (len l) (j+1+d)=j+1+d+1:=by unfold nx; split <;> omega
    have a2:=he (j+1+d) i (by omega) (by omega) (by omega) (by omega) (by omega) (by rw [hn]; omega);have a3:=he i j (by omega) (by omega) (by omega) (by omega) (by omega) (by rw [hij]; omega);have a4:=he i (j+1+d) (by omega) (by omega) (by omega) (by omega) (by omega) (by rw [hij]; omega);have a5:=he i (j+1+d+1) (by omega) (by omega) (by omega) (by omega) (by omega) (by rw [hij]; omega);rw [hn,← kC] at a2;rw [hij] at a3 a4 a5;rw [e1];refine th a4 ?_
    rw [zb];have p1:=Int.mul_pos a3 a2;have p2:=Int.mul_pos a5 a1;omega
 intro i j m h0 h1 h2 h3;have:=H (m - j - 1).toNat i j h0 h1 (by omega)
 rwa [show j+1+((m - j - 1).toNat:Int)=m by omega] at this
theorem vc {l:List bm} (ht:yS l):oD l:=by
 intro i j h0 h1 h2 h3 h4 h5;unfold nx at *
 split
 ·rename_i h
  rw [if_pos h] at h5;rw [kC];exact ht 0 j i (by omega) (by omega) (by omega) (by omega)
 ·rename_i h
  rw [if_neg h] at h5;rcases Int.lt_or_le j i with g | g
  ·rw [← kC]
   exact ht j i (i+1) (by omega) (by omega) (by omega) (by omega)
  ·exact ht i (i+1) j (by omega) (by omega) (by omega) (by omega)
def yq (l:List bm) (p:bm):Prop:=∀ i,0≤i→i<len l→0≤gr (q l i) (q l (nx (len l) i)) p
def uB (l:List bm) (p:bm):Prop:=∃ i,2≤i∧i<len l∧0≤gr (q l 0) (q l (i - 1)) p∧0≤gr (q l (i - 1)) (q l i) p∧0≤gr (q l i) (q l 0) p
theorem qd {l:List bm} (he:oD l) (i j:Int) (h0:0≤i) (h1:i<len l) (h2:0≤j) (h3:j<len l):0≤gr (q l i) (q l (nx (len l) i)) (q l j):=by
 by_cases a:j=i
 ·subst a
  rw [vy];decide
 ·by_cases b:j=nx (len l) i
  ·rw [← b,vW]
   decide
  ·exact Int.le_of_lt (he i j h0 h1 h2 h3 a b)
theorem zi {l:List bm} (he:oD l) {p:bm} (h:uB l p):yq l p:=by
 obtain ⟨i,h1,h2,a,b,c⟩:=h;have ht:=pj he 0 (i - 1) i (by omega) (by omega) (by omega) (by omega);intro j j0 j1;refine vr ht ?_
 rw [Int.mul_comm,w8];have e1:=qd he j 0 j0 j1 (by omega) (by omega);have e2:=qd he j (i - 1) j0 j1 (by omega) (by omega);have e3:=qd he j i j0 j1 (by omega) (by omega);have b':0≤gr p (q l (i - 1)) (q l i):=by rw [kC]; exact b
 have c':0≤gr (q l 0) p (q l i):=by rw [← kC]; exact c
 have p1:=Int.mul_nonneg e1 b';have p2:=Int.mul_nonneg e2 c';have p3:=Int.mul_nonneg e3 a;omega
theorem zd {l:List bm} (hl:3≤len l) {p:bm} (h:yq l p):uB l p:=by
 have H:∀ (d:Nat) (i:Int),i=len l - 1 - d→2≤i→0≤gr (q l 0) (q l (i - 1)) p→uB l p:=by
  intro d
  induction d with
  | zero =>
   intro i hi h2 ha;have e:=h (len l - 1) (by omega) (by omega);have hn:nx (len l) (len l - 1)=0:=by unfold nx; split <;> omega
   have e':=h (i - 1) (by omega) (by omega);have hn':nx (len l) (i - 1)=i:=by unfold nx; split <;> omega
   rw [hn] at e;rw [hn'] at e';have:len l - 1=i:=by omega
   rw [this] at e;exact ⟨i,h2,by omega,ha,e',e⟩
  | succ d ih =>
   intro i hi h2 ha
   by_cases c:0≤gr (q l i) (q l 0) p
   ·have e':=h (i - 1) (by omega) (by omega)
    have hn':nx (len l) (i - 1)=i:=by unfold nx; split <;> omega
    rw [hn'] at e';exact ⟨i,h2,by omega,ha,e',c⟩
   ·refine ih (i+1) (by omega) (by omega) ?_
    rw [show i+1 - 1=i by omega];rw [wy] at c;omega
 refine H (len l - 3).toNat 2 (by omega) (by omega) ?_
 have e:=h 0 (by omega) (by omega);have hn:nx (len l) 0=1:=by unfold nx; split <;> omega
 rw [hn] at e;exact e
end Go.Proofs.T1
namespace Go.Proofs.T1
open Go Go.Sx
theorem mS {k:Nat} {l:List bm} (hl:len l≤1000) (hk:len l<k) {f:(bm × Unit)→Option Bool} {g:bm→Bool} (hf:∀ x,f (x,())=some (g x))
  : b6 k l f=some true∧(∃ i,0≤i∧i<len l∧g (q l i)=true)∨b6 k l f=some false∧(∀ i,0≤i→i<len l→¬ g (q l i)=true):=by
 have H:=fZ (fun n v=>aQ.c1 k l f n v) 0 (len l) (fun v=>g (q l v)=true) (fun v=>v)
  (by
   intro n v h0 h1 h2;show aQ.c1 k l f (n+1) v=_;rw [aQ.c1,cI h1,bT,rP (cF h0 h1),hf,bS];show aP (g (q l v)) _ _=_
   rw [h2,bT])
  (by
   intro n v h0 h1 h2;show aQ.c1 k l f (n+1) v=aQ.c1 k l f n (v+1);rw [aQ.c1,cI h1,bT,rP (cF h0 h1),hf,bS];show aP (g (q l v)) _ _=_;rw [Bool.not_eq_true] at h2
   rw [h2,bF,cA (by omega) (by omega)])
  (by
   intro n v h0 h1;show aQ.c1 k l f (n+1) v=_
   rw [aQ.c1,db h1,bF])
  k 0 (by omega) (by omega)
 have hk0:0<k:=by unfold len at hk; omega
 rcases H with ⟨j,a,b,c,_,e⟩ | ⟨a,e⟩
 ·refine Or.inl ⟨?_,j,a,b,c⟩
  unfold b6 aQ;have e:aQ.c1 k l f k 0=some (.inl j):=e;rw [e,bS,fz,bS,ij (by omega)]
 ·refine Or.inr ⟨?_,a⟩
  unfold b6 aQ;have e:aQ.c1 k l f k 0=some (.inr ()):=e hk0;rw [e,bS,fQ,bS];rfl
def xE (l:List bm) (e:Int):Prop :=
 (len l > 8∧e=2)∨(len l<3∧e=3)∨(3≤len l∧len l≤8∧¬ oU l∧e=1) ∨
 (3≤len l∧len l≤8∧oU l∧¬ oD l∧e=3)∨(3≤len l∧len l≤8∧oU l∧oD l∧e=0)
theorem nP {l:List bm} {e f:Int} (h:xE l e) (g:xE l f):e=f:=by
 unfold xE at *
 rcases h with h | h | h | h | h <;> rcases g with g | g | g | g | g <;> first | omega | (exact absurd h.2.2.1 g.2.2.1) | (exact absurd g.2.2.1 h.2.2.1) | (exact absurd h.2.2.2.1 g.2.2.2.1) | (exact absurd g.2.2.2.1 h.2.2.2.1)
theorem qZ (k:Nat) {l:List bm} (hl:len l≤8) (hw:oU l) {i j:Int} (h0:0≤i) (h1:i<len l) (h2:0≤j) (h3:j<len l) :
  aD.c3 k l i j=some (decide (j≠i∧j≠nx (len l) i∧gr (q l i) (q l (nx (len l) i)) (q l j)≤0)):=by
 have hn:=gU h0 h1;have hz:nz (len l):=by unfold nz; omega
 unfold aD.c3;rw [ja h0 h1 (by omega)];have hs:eB k (el ea l i) (el ea l (nx (len l) i)) (el ea l j)=some (gr (q l i) (q l (nx (len l) i)) (q l j)):=tD k (hw i h0 h1) (hw _ hn.1 hn.2) (hw j h2 h3);rw [hs,rP hz,bS]
 by_cases a:j=i
 ·rw [eu a,bF]; simp [a]
 ·rw [fw a,bT]
  by_cases b:j=nx (len l) i
  ·rw [eu b,bF]
   have:¬ (j≠i∧j≠nx (len l) i∧gr (q l i) (q l (nx (len l) i)) (q l j)≤0):=fun h=>h.2.1 b;rw [decide_eq_false this]
  ·rw [fw b,bT]
   unfold jf;congr 1;rw [decide_eq_decide];exact ⟨fun h=>⟨a,b,h⟩,fun h=>h.2.2⟩
theorem rM {k:Nat} {l:List bm} (hl:len l≤8) (hk:9≤k) (hw:oU l) {i:Int} (h0:0≤i) (h1:i<len l) :
  (aD.c2 k l i k 0=some (.inl ())∧∃ j,0≤j∧j<len l∧(j≠i∧j≠nx (len l) i∧gr (q l i) (q l (nx (len l) i)) (q l j)≤0)) ∨
  (aD.c2 k l i k 0=some (.inr ())∧∀ j,0≤j→j<len l→¬ (j≠i∧j≠nx (len l) i∧gr (q l i) (q l (nx (len l) i)) (q l j)≤0)):=by
 have H:=fZ (fun n v=>aD.c2 k l i n v) 0 (len l) (fun j=>j≠i∧j≠nx (len l) i∧gr (q l i) (q l (nx (len l) i)) (q l j)≤0) (fun _=>())
  (by
   intro n v h2 h3 h4;show aD.c2 k l i (n+1) v=_
   rw [aD.c2,cI h3,bT,rP (cF h2 h3),qZ k hl hw h0 h1 h2 h3,bS,decide_eq_true h4,bT])
  (by
   intro n v h2 h3 h4;show aD.c2 k l i (n+1) v=aD.c2 k l i n (v+1)
   rw [aD.c2,cI h3,bT,rP (cF h2 h3),qZ k hl hw h0 h1 h2 h3,bS,decide_eq_false h4,bF,cA (by omega) (by omega)])
  (by
   intro n v h2 h3;show aD.c2 k l i (n+1) v=_
   rw [aD.c2,db h3,bF])
  k 0 (by omega) (by omega)
 rcases H with ⟨j,a,b,c,_,e⟩ | ⟨a,e⟩
 ·exact Or.inl ⟨e,j,a,b,c⟩
 ·exact Or.inr ⟨e (by omega),a⟩
theorem qG {k:Nat} (hk:9≤k) (l:List bm):∃ e,aD k l=some e∧xE l e:=by
 unfold aD
 by_cases c1:len l > 8
 ·rw [hG c1,bT]
  exact ⟨2,rfl,Or.inl ⟨c1,rfl⟩⟩
 rw [gZ (by omega),bF]
 by_cases c2:len l<3
 ·rw [cI c2,bT]
  exact ⟨3,rfl,Or.inr (Or.inl ⟨c2,rfl⟩)⟩
 rw [db (by omega),bF];have hf:∀ x:bm,(fun x:(bm × Unit)=>dO k (x.1)) (x,())=some (!decide (Wn x)):=by
  intro x;show dO k x=_;unfold dO;rw [pC,bS]
 rcases mS (l:=l) (k:=k) (f:=fun x:(bm × Unit)=>dO k (x.1)) (by omega) (by omega) (g:=fun x=>!decide (Wn x)) hf with ⟨h,i,h0,h1,h2⟩ | ⟨h,h2⟩
 ·rw [h,bS,bT]
  refine ⟨1,rfl,Or.inr (Or.inr (Or.inl ⟨by omega,by omega,?_,rfl⟩))⟩;intro ha;have:=ha i h0 h1;simp [this] at h2
 rw [h,bS,bF];have hw:oU l:=by
  intro i h0 h1;have:=h2 i h0 h1
  simpa using this
 have H:=fZ (fun n v=>aD.c1 k l n v) 0 (len l) (fun i=>∃ j,0≤j∧j<len l∧(j≠i∧j≠nx (len l) i∧gr (q l i) (q l (nx (len l) i)) (q l j)≤0)) (fun _=>())
  (by
   intro n v h2 h3 h4;show aD.c1 k l (n+1) v=_;have hn:=gU h2 h3;rw [aD.c1,cI h3,bT,rP (cF h2 h3),rP (show nz (len l) by unfold nz; omega),ja h2 h3 (by omega),rP (cF hn.1 hn.2)];rcases rM (k:=k) (by omega) hk hw h2 h3 with ⟨e,_⟩ | ⟨_,e⟩
   ·rw [e,bS,fz]
   ·obtain ⟨j,a,b,c⟩:=h4
    exact absurd c (e j a b))
  (by
   intro n v h2 h3 h4;show aD.c1 k l (n+1) v=aD.c1 k l n (v+1);have hn:=gU h2 h3;rw [aD.c1,cI h3,bT,rP (cF h2 h3),rP (show nz (len l) by unfold nz; omega),ja h2 h3 (by omega),rP (cF hn.1 hn.2)];rcases rM (k:=k) (by omega) hk hw h2 h3 with ⟨_,e⟩ | ⟨e,_⟩
   ·exact absurd e h4
   ·rw [e,bS,fQ,cA (by omega) (by omega)])
  (by
   intro n v h2 h3;show aD.c1 k l (n+1) v=_
   rw [aD.c1,db h3,bF])
  k 0 (by omega) (by omega)
 rcases H with ⟨i,a,b,⟨j,c,d,f⟩,_,e⟩ | ⟨a,e⟩
 ·have e:aD.c1 k l k 0=some (.inl ()):=e
  rw [e,bS,fz];refine ⟨3,rfl,Or.inr (Or.inr (Or.inr (Or.inl ⟨by omega,by omega,hw,?_,rfl⟩)))⟩;intro he;have:=he i j a b c d f.1 f.2.1;omega
 ·have e:aD.c1 k l k 0=some (.inr ()):=e (by omega)
  rw [e,bS,fQ];refine ⟨0,rfl,Or.inr (Or.inr (Or.inr (Or.inr ⟨by omega,by omega,hw,?_,rfl⟩)))⟩;intro i j h0 h1 h2 h3 h4 h5;rcases Int.lt_or_le 0 (gr (q l i) (q l (nx (len l) i)) (q l j)) with g | g
  ·exact g
  ·exact absurd ⟨j,h2,h3,h4,h5,g⟩ (a i h0 h1)
theorem tA {k:Nat} {l:List bm} (hl:len l≤8) (hk:9≤k) (hw:oU l) {i j:Int} (h0:0≤i) (h1:i<j) (h2:j<len l) :
  (aN.c4 k l i j k (j+1)=some (.inl ())∧∃ m,j<m∧m<len l∧gr (q l i) (q l j) (q l m)≤0) ∨
  (aN.c4 k l i j k (j+1)=some (.inr ())∧∀ m,j<m→m<len l→¬ gr (q l i) (q l j) (q l m)≤0):=by
 have hlf:∀ v,j+1≤v→v<len l→fh k (el ea l i) (el ea l j) (el ea l v)=some (lL (gr (q l i) (q l j) (q l v)) 0):=by
  intro v a b;exact nr hk (hw i h0 (by omega)) (hw j (by omega) h2) (hw v (by omega) b)
 have hc:∀ x:Int,jf (lL x 0) 0=decide (x≤0):=by
  intro x;rcases Int.lt_trichotomy x 0 with g | g | g
  ·rw [lk g,decide_eq_true (by omega)]; rfl
  ·rw [nA g,decide_eq_true (by omega)]; rfl
  ·rw [lj g,decide_eq_false (by omega)]; rfl
 have H:=fZ (fun n v=>aN.c4 k l i j n v) (j+1) (len l) (fun m=>gr (q l i) (q l j) (q l m)≤0) (fun _=>())
  (by
   intro n v a b c;show aN.c4 k l i j (n+1) v=_
   rw [aN.c4,cI b,bT,rP (cF h0 (by omega)),rP (cF (by omega) h2),rP (cF (by omega) b),hlf v a b,bS,hc,decide_eq_true c,bT])
  (by
   intro n v a b c;show aN.c4 k l i j (n+1) v=aN.c4 k l i j n (v+1)
   rw [aN.c4,cI b,bT,rP (cF h0 (by omega)),rP (cF (by omega) h2),rP (cF (by omega) b),hlf v a b,bS,hc,decide_eq_false c,bF,cA (by omega) (by omega)])
  (by
   intro n v a b;show aN.c4 k l i j (n+1) v=_
   rw [aN.c4,db b,bF])
  k (j+1) (by omega) (by omega)
 rcases H with ⟨m,a,b,c,_,e⟩ | ⟨a,e⟩
 ·exact Or.inl ⟨e,m,by omega,b,c⟩
 ·exact Or.inr ⟨e (by omega),fun m x y=>a m (by omega) y⟩
theorem tJ {k:Nat} {l:List bm} (hl:len l≤8) (hk:9≤k) (hw:oU l) {i:Int} (h0:0≤i) (h1:i<len l) :
  (aN.c3 k l i k (i+1)=some (.inl ())∧∃ j m,i<j∧j<m∧m<len l∧gr (q l i) (q l j) (q l m)≤0) ∨
  (aN.c3 k l i k (i+1)=some (.inr ())∧∀ j m,i<j→j<m→m<len l→¬ gr (q l i) (q l j) (q l m)≤0):=by
 have H:=fZ (fun n v=>aN.c3 k l i n v) (i+1) (len l) (fun j=>∃ m,j<m∧m<len l∧gr (q l i) (q l j) (q l m)≤0) (fun _=>())
  (by
   intro n v a b c;show aN.c3 k l i (n+1) v=_;rw [aN.c3,cI b,bT,cA (by omega) (by omega)];rcases tA hl hk hw h0 (show i<v by omega) b with ⟨e,_⟩ | ⟨_,e⟩
   ·rw [e,bS,fz]
   ·obtain ⟨m,x,y,z⟩:=c
    exact absurd z (e m x y))
  (by
   intro n v a b c;show aN.c3 k l i (n+1) v=aN.c3 k l i n (v+1);rw [aN.c3,cI b,bT,cA (by omega) (by omega)];rcases tA hl hk hw h0 (show i<v by omega) b with ⟨_,e⟩ | ⟨e,_⟩
   ·exact absurd e c
   ·rw [e,bS,fQ])
  (by
   intro n v a b;show aN.c3 k l i (n+1) v=_
   rw [aN.c3,db b,bF])
  k (i+1) (by omega) (by omega)
 rcases H with ⟨j,a,b,⟨m,c,d,f⟩,_,e⟩ | ⟨a,e⟩
 ·exact Or.inl ⟨e,j,m,by omega,c,d,f⟩
 ·exact Or.inr ⟨e (by omega),fun j m x y z w=>a j (by omega) (by omega) ⟨m,y,z,w⟩⟩
theorem ya {k:Nat} (hk:9≤k) (l:List bm):∃ e,aN k l=some e∧xE l e:=by
 unfold aN
 by_cases c1:len l > 8
 ·rw [hG c1,bT]
  exact ⟨2,rfl,Or.inl ⟨c1,rfl⟩⟩
 rw [gZ (by omega),bF]
 by_cases c2:len l<3
 ·rw [cI c2,bT]
  exact ⟨3,rfl,Or.inr (Or.inl ⟨c2,rfl⟩)⟩
 rw [db (by omega),bF];have hco:∀ v,dq k (el ea l v) 65536000=some (decide (Wn (q l v))):=fun v=>gR k _ 65536000 (by decide) (by decide);have H:=fZ (fun n v=>aN.c1 k l n v) 0 (len l) (fun i=>¬ Wn (q l i)) (fun _=>())
  (by
   intro n v a b c;show aN.c1 k l (n+1) v=_
   rw [aN.c1,cI b,bT,rP (cF a b),hco,bS,decide_eq_false c,bF])
  (by
   intro n v a b c;show aN.c1 k l (n+1) v=aN.c1 k l n (v+1)
   rw [aN.c1,cI b,bT,rP (cF a b),hco,bS,decide_eq_true (Decidable.not_not.mp c),bT,cA (by omega) (by omega)])
  (by
   intro n v a b;show aN.c1 k l (n+1) v=_
   rw [aN.c1,db b,bF])
  k 0 (by omega) (by omega)
 rcases H with ⟨i,a,b,c,_,e⟩ | ⟨a,e⟩
 ·have e:aN.c1 k l k 0=some (.inl ()):=e
  rw [e,bS,fz];exact ⟨1,rfl,Or.inr (Or.inr (Or.inl ⟨by omega,by omega,fun h=>c (h i a b),rfl⟩))⟩
 have e:aN.c1 k l k 0=some (.inr ()):=e (by omega);rw [e,bS,fQ];have hw:oU l:=fun i h0 h1=>Decidable.not_not.mp (a i h0 h1);have H:=fZ (fun n v=>aN.c2 k l n v) 0 (len l) (fun i=>∃ j m,i<j∧j<m∧m<len l∧gr (q l i) (q l j) (q l m)≤0) (fun _=>())
  (by
   intro n v a b c;show aN.c2 k l (n+1) v=_;rw [aN.c2,cI b,bT,cA (by omega) (by omega)];rcases tJ (by omega) hk hw a b with ⟨e,_⟩ | ⟨_,e⟩
   ·rw [e,bS,fz]
   ·obtain ⟨j,m,x,y,z,w⟩:=c
    exact absurd w (e j m x y z))
  (by
   intro n v a b c;show aN.c2 k l (n+1) v=aN.c2 k l n (v+1);rw [aN.c2,cI b,bT,cA (by omega) (by omega)];rcases tJ (by omega) hk hw a b with ⟨_,e⟩ | ⟨e,_⟩
   ·exact absurd e c
   ·rw [e,bS,fQ])
  (by
   intro n v a b;show aN.c2 k l (n+1) v=_
   rw [aN.c2,db b,bF])
  k 0 (by omega) (by omega)
 rcases H with ⟨i,a,b,⟨j,m,c,d,f,g⟩,_,e⟩ | ⟨a,e⟩
 ·have e:aN.c2 k l k 0=some (.inl ()):=e
  rw [e,bS,fz];refine ⟨3,rfl,Or.inr (Or.inr (Or.inr (Or.inl ⟨by omega,by omega,hw,?_,rfl⟩)))⟩;intro he;have:=pj he i j m a c d f;omega
 ·have e:aN.c2 k l k 0=some (.inr ()):=e (by omega)
  rw [e,bS,fQ];refine ⟨0,rfl,Or.inr (Or.inr (Or.inr (Or.inr ⟨by omega,by omega,hw,vc ?_,rfl⟩)))⟩;intro i j m h0 h1 h2 h3;rcases Int.lt_or_le 0 (gr (q l i) (q l j) (q l m)) with g | g
  ·exact g
  ·exact absurd ⟨j,m,h1,h2,h3,g⟩ (a i h0 (by omega))
end Go.Proofs.T1
namespace Go.Proofs.T1
open Go Go.Sx
def cr (a b:bm):Int:=a.1*b.2.1 - a.2.1*b.1
def AX (l:List bm):Nat→Int
 | 0=>0
 | n+1=>AX l n+cr (q l n) (q l (n+1))
def sh (l:List bm) (v:Int):Int:=AX l v.toNat
def A4 (l:List bm):Int:=sh l (len l - 1)+cr (q l (len l - 1)) (q l 0)
def xF (l:List bm):Prop:=3≤len l∧len l≤8∧oU l∧oD l
theorem qS {l:List bm} (h:xE l 0):xF l:=by
 unfold xE at h;rcases h with h | h | h | h | h
 ·omega
 ·omega
 ·omega
 ·omega
 ·exact ⟨h.1,h.2.1,h.2.2.1,h.2.2.2.1⟩
theorem tL {l:List bm} (h:xF l):xE l 0:=Or.inr (Or.inr (Or.inr (Or.inr ⟨h.1,h.2.1,h.2.2.1,h.2.2.2,rfl⟩)))
theorem vn {k:Nat} (hk:9≤k) {l:List bm} (h:xF l):aD k l=some 0:=by
 obtain ⟨e,h1,h2⟩:=qG hk l;rw [h1,nP h2 (tL h)]
open Classical in
theorem x8 {k:Nat} (hk:9≤k) {l:List bm} (hv:xF l) (p:bm):bz k l p=some (decide (Wn p∧yq l p)):=by
 unfold bz bz.c1;rw [vn hk hv,bS,eu rfl,bF,pC,bS,bS]
 by_cases hp:Wn p
 ·rw [decide_eq_true hp]
  show aP false _ _=_;rw [bF];have hs:∀ v,0≤v→v<len l→eB k (el ea l v) (el ea l (nx (len l) v)) p=some (gr (q l v) (q l (nx (len l) v)) p):=by
   intro v a b;have hn:=gU a b;exact tD k (hv.2.2.1 v a b) (hv.2.2.1 _ hn.1 hn.2) hp
  have h8:=hv.2.1;have H:=fZ (fun n v=>bz.c2 k l p n v) 0 (len l) (fun v=>gr (q l v) (q l (nx (len l) v)) p<0) (fun _=>())
   (by
    intro n v a b c;have hn:=gU a b;show bz.c2 k l p (n+1) v=_
    rw [bz.c2,cI b,bT,rP (cF a b),rP (show nz (len l) by unfold nz; omega),ja a b (by omega),rP (cF hn.1 hn.2),hs v a b,bS,cI c,bT])
   (by
    intro n v a b c;have hn:=gU a b;show bz.c2 k l p (n+1) v=bz.c2 k l p n (v+1)
    rw [bz.c2,cI b,bT,rP (cF a b),rP (show nz (len l) by unfold nz; omega),ja a b (by omega),rP (cF hn.1 hn.2),hs v a b,bS,db (by omega),bF,cA (by omega) (by omega)])
   (by
    intro n v a b;show bz.c2 k l p (n+1) v=_
    rw [bz.c2,db b,bF])
   k 0 (by omega) (by omega)
  rcases H with ⟨i,a,b,c,_,e⟩ | ⟨a,e⟩
  ·have e:bz.c2 k l p k 0=some (.inl ()):=e
   rw [e,bS,fz,decide_eq_false];intro h;have:=h.2 i a b;omega
  ·have e:bz.c2 k l p k 0=some (.inr ()):=e (by omega)
   rw [e,bS,fQ,decide_eq_true];refine ⟨hp,fun i x y=>?_⟩;have:=a i x y;omega
 ·rw [decide_eq_false hp]
  show aP true _ _=_;rw [bT,decide_eq_false (fun h=>hp h.1)]
open Classical in
theorem sk {k:Nat} (hk:9≤k) {l:List bm} (hv:xF l) (p:bm):bk k l p=some (decide (Wn p∧uB l p)):=by
 unfold bk;rw [gR k p 65536000 (by decide) (by decide),bS];show aP (decide (Wn p)) _ _=_
 by_cases hp:Wn p
 ·rw [decide_eq_true hp,bT]
  have h8:=hv.2.1;have hc:∀ x:Int,iB (lL x 0) 0=decide (0≤x):=by
   intro x;rcases Int.lt_trichotomy x 0 with g | g | g
   ·rw [lk g,decide_eq_false (by omega)]; rfl
   ·rw [nA g,decide_eq_true (by omega)]; rfl
   ·rw [lj g,decide_eq_true (by omega)]; rfl
  have hc2:∀ v,2≤v→v<len l→bk.c2 k l p v=some (decide (0≤gr (q l 0) (q l (v - 1)) p∧0≤gr (q l (v - 1)) (q l v) p∧0≤gr (q l v) (q l 0) p)):=by
   intro v a b;have w0:=hv.2.2.1 0 (by omega) (by omega);have w1:=hv.2.2.1 (v - 1) (by omega) (by omega);have w2:=hv.2.2.1 v (by omega) (by omega);have l1:fh k (el ea l 0) (el ea l (v - 1)) p=some (lL (gr (q l 0) (q l (v - 1)) p) 0):=nr hk w0 w1 hp;have l2:fh k (el ea l (v - 1)) (el ea l v) p=some (lL (gr (q l (v - 1)) (q l v) p) 0):=nr hk w1 w2 hp;have l3:fh k (el ea l v) (el ea l 0) p=some (lL (gr (q l v) (q l 0) p) 0):=nr hk w2 w0 hp;unfold bk.c2;rw [fp (by omega) (by omega),rP (cF (by omega) (by omega)),rP (cF (by omega) (by omega)),l1,bS,hc,rP (cF (by omega) (by omega)),l2,bS,hc,l3,bS,hc]
   by_cases x:0≤gr (q l 0) (q l (v - 1)) p <;> by_cases y:0≤gr (q l (v - 1)) (q l v) p <;> simp [x,y,aP]
  have H:=fZ (fun n v=>bk.c1 k l p n v) 2 (len l) (fun v=>0≤gr (q l 0) (q l (v - 1)) p∧0≤gr (q l (v - 1)) (q l v) p∧0≤gr (q l v) (q l 0) p) (fun _=>())
   (by
    intro n v a b c;show bk.c1 k l p (n+1) v=_
    rw [bk.c1,cI b,bT,hc2 v a b,bS,decide_eq_true c,bT])
   (by
    intro n v a b c;show bk.c1 k l p (n+1) v=bk.c1 k l p n (v+1)
    rw [bk.c1,cI b,bT,hc2 v a b,bS,decide_eq_false c,bF,cA (by omega) (by omega)])
   (by
    intro n v a b;show bk.c1 k l p (n+1) v=_
    rw [bk.c1,db b,bF])
   k 2 (by omega) (by omega)
  rcases H with ⟨i,a,b,c,_,e⟩ | ⟨a,e⟩
  ·have e:bk.c1 k l p k 2=some (.inl ()):=e
   rw [e,bS,fz,decide_eq_true];exact ⟨hp,i,a,b,c⟩
  ·have e:bk.c1 k l p k 2=some (.inr ()):=e (by omega)
   rw [e,bS,fQ,decide_eq_false];intro ⟨_,i,x,y,z⟩;exact a i x y z
 ·rw [decide_eq_false hp,bF,decide_eq_false (fun h=>hp h.1)]
end Go.Proofs.T1
namespace Go.Proofs.T1
open Go Go.Sx
end Go.Proofs.T1
