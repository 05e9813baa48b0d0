import Derived.Test.YtipddonkkhjegaaGreatPlRing
import Derived.Test.YtipddonkkhjegaaGreatG12
import Derived.Test.YtipddonkkhjegaaGreatG13
import Derived.Test.YtipddonkkhjegaaGreatG14
namespace Go.Proofs.T1
open Go Go.Sx
theorem fM {α:Type} (F:Nat→Int→Option (α ⊕ Unit)) (lo N:Int) (P:Int→Prop) (g:Int→α)
  (hstep:∀ n v,lo≤v→v<N→P v→F (n+1) v=some (.inl (g v)))
  (hskip:∀ n v,lo≤v→v<N→¬ P v→F (n+1) v=F n (v+1))
  (hend:∀ n v,lo≤v→N≤v→F (n+1) v=some (.inr ())) :
  ∀ (n:Nat) (v:Int),lo≤v→N - v<(n:Int)→(∃ j,v≤j∧j<N∧P j∧(∀ i,v≤i→i<j→¬ P i)∧F n v=some (.inl (g j))) ∨
   ((∀ j,v≤j→j<N→¬ P j)∧(0<n→F n v=some (.inr ()))):=by
 intro n
 induction n with
 | zero =>
  intro v h1 h2;exact Or.inr ⟨fun j a b=>by omega,fun h=>absurd h (by decide)⟩
 | succ n ih =>
  intro v h1 h2
  by_cases hv:v<N
  ·by_cases hp:P v
   ·exact Or.inl ⟨v,by omega,hv,hp,fun i a b=>by omega,hstep n v h1 hv hp⟩
   ·have e:=hskip n v h1 hv hp
    have hn:0<n:=by omega
    rcases ih (v+1) (by omega) (by omega) with ⟨j,a,b,c,d,f⟩ | ⟨a,b⟩
    ·refine Or.inl ⟨j,by omega,b,c,?_,e ▸ f⟩
     intro i x y
     by_cases hi:i=v
     ·exact hi ▸ hp
     ·exact d i (by omega) y
    ·refine Or.inr ⟨?_,fun _=>by rw [e,b hn]⟩
     intro i x y
     by_cases hi:i=v
     ·exact hi ▸ hp
     ·exact a i (by omega) y
  ·exact Or.inr ⟨fun j a b=>by omega,fun _=>hend n v h1 (by omega)⟩
theorem gS {σ:Type} (F:Nat→σ→Int→Option σ) (lo N:Int) (I:σ→Int→Prop)
  (hstep:∀ n s v,lo≤v→v<N→I s v→∃ s',I s' (v+1)∧F (n+1) s v=F n s' (v+1))
  (hend:∀ n s v,lo≤v→N≤v→F (n+1) s v=some s) :
  ∀ (n:Nat) (s:σ) (v:Int),lo≤v→v≤N→N - v<(n:Int)→I s v→∃ s',I s' N∧F n s v=some s':=by
 intro n
 induction n with
 | zero=>intro s v h1 h2 h3; omega
 | succ n ih =>
  intro s v h1 h2 h3 h4
  by_cases hv:v<N
  ·obtain ⟨s',a,b⟩:=hstep n s v h1 hv h4
   rw [b];exact ih s' (v+1) (by omega) (by omega) (by omega) a
  ·have:v=N:=by omega
   subst this;exact ⟨s,h4,hend n s v h1 (by omega)⟩
def fH (a:List Int):Nat→Int
 | 0=>0
 | n+1=>fH a n+a.getD n 0*65536 ^ n
def Dg (a:List Int):Prop:=a.length=8∧∀ i,i<8→0≤a.getD i 0∧a.getD i 0<65536
theorem lA (a:List Int) (i j:Nat) (x:Int):(a.set i x).getD j 0=if i=j∧i<a.length then x else a.getD j 0:=by
 simp only [List.getD_eq_getElem?_getD,List.getElem?_set]
 by_cases h:i=j
 ·subst h
  by_cases h2:i<a.length
  ·simp [h2]
  ·simp [h2]
 ·simp [h]
theorem vf (a:List Int) (i:Nat) (x:Int):∀ j,j≤i→fH (a.set i x) j=fH a j:=by
 intro j
 induction j with
 | zero=>intro _; rfl
 | succ j ih =>
  intro h;have h2:¬ i=j:=by omega
  simp only [fH,ih (by omega),lA,h2,false_and,if_false]
theorem mW (a:List Int) (i:Nat) (x:Int) (hi:i<a.length):∀ j,i<j→fH (a.set i x) j=fH a j+(x - a.getD i 0)*65536 ^ i:=by
 intro j
 induction j with
 | zero=>intro h; omega
 | succ j ih =>
  intro h
  by_cases hj:i=j
  ·subst hj
   simp only [fH,vf a i x i (Nat.le_refl _),lA,hi,and_self,if_true];grind
  ·simp only [fH,ih (by omega),lA,hj,false_and,if_false]
   grind
theorem sU {a:List Int} (ha:Dg a) (i:Nat) {x:Int} (h0:0≤x) (h1:x<65536):Dg (a.set i x):=by
 refine ⟨by simp [ha.1],?_⟩;intro j hj;rw [lA];split
 ·exact ⟨h0,h1⟩
 ·exact ha.2 j hj
theorem iO {a:List Int} (ha:Dg a):∀ j,j≤8→0≤fH a j∧fH a j<65536 ^ j:=by
 intro j
 induction j with
 | zero=>intro _; exact ⟨Int.le_refl _,by simp [fH]⟩
 | succ j ih =>
  intro h;have h1:=ih (by omega);have h2:=ha.2 j (by omega);have hp:(0:Int)<65536 ^ j:=Int.pow_pos (by decide);rw [Int.pow_succ];simp only [fH];generalize (65536:Int) ^ j=P at *
  generalize fH a j=S at *
  generalize a.getD j 0=d at *
  have e1:0≤d*P:=Int.mul_nonneg h2.1 (by omega);have e2:0≤(65535 - d)*P:=Int.mul_nonneg (by omega) (by omega);have e3:(65535 - d)*P=65535*P - d*P:=by grind
  omega
instance (a:List Int):Decidable (Dg a):=by unfold Dg; infer_instance
theorem sZ:Dg (List.replicate 8 0):=by decide
theorem AJ:fH (List.replicate 8 0) 8=0:=by decide
def BR (a:List Int) (z:Int):Prop:=Dg a∧fH a 8=z % 340282366920938463463374607431768211456
theorem pQ:BR (List.replicate 8 0) 0:=⟨sZ,by decide⟩
theorem sP {a:List Int} {x y:Int} (h:BR a x) (e:x % 340282366920938463463374607431768211456=y % 340282366920938463463374607431768211456):BR a y:=⟨h.1,h.2.trans e⟩
theorem qQ (a:List Int) (i:Nat):el 0 a (i:Int)=a.getD i 0:=rfl
theorem xQ (a:List Int) (i:Nat) (x:Int):st a (i:Int) x=a.set i x:=rfl
theorem Fs {x:Int}:cJ .u32 x 16=x / 65536:=by
 unfold cJ;exact Int.fdiv_eq_ediv_of_nonneg _ (by decide)
theorem FY {x:Int}:cJ .u64 x 16=x / 65536:=js x (n:=16) (by decide)
theorem uk (x y:Int):ao .u32 x y=(x+y) % 4294967296:=wrap_u32 _
theorem GR {x:Int} (h0:0≤x) (h1:x≤4294967295):bJ .and .u32 x 65535=x % 65536:=by
 obtain ⟨n,rfl⟩:=Int.eq_ofNat_of_zero_le h0;simp only [bJ,wrap_u32];have e:((BitVec.ofInt IntKind.u32.bits (n:Int)) &&& (BitVec.ofInt IntKind.u32.bits (65535:Int))).toNat=n % 2 ^ 16:=by
  show ((BitVec.ofInt 32 (n:Int)) &&& (BitVec.ofInt 32 ((65535:Nat):Int))).toNat=_;rw [BitVec.toNat_and];have e1:(BitVec.ofInt 32 (n:Int)).toNat=n:=by simp; omega
  have e2:(BitVec.ofInt 32 ((65535:Nat):Int)).toNat=2 ^ 16 - 1:=by decide
  rw [e1,e2,Nat.and_two_pow_sub_one_eq_mod]
 rw [e];omega
theorem qc {x:Int} (h0:0≤x) (h1:x≤18446744073709551615):bJ .and .u64 x 65535=x % 65536:=uT h0 h1 16 (by decide)
theorem GV {x:Int} (h0:0≤x) (h1:x<65536):bJ .xor .u32 x 65535=65535 - x:=by
 obtain ⟨n,rfl⟩:=Int.eq_ofNat_of_zero_le h0;have hn:n<65536:=by omega
 simp only [bJ,wrap_u32];have e:((BitVec.ofInt IntKind.u32.bits (n:Int)) ^^^ (BitVec.ofInt IntKind.u32.bits (65535:Int))).toNat=65535 - n:=by
  show ((BitVec.ofInt 32 (n:Int)) ^^^ (BitVec.ofInt 32 ((65535:Nat):Int))).toNat=_;rw [BitVec.toNat_xor];have e1:(BitVec.ofInt 32 (n:Int)).toNat=n:=by simp; omega
  have e2:(BitVec.ofInt 32 ((65535:Nat):Int)).toNat=65535:=by decide
  rw [e1,e2];have h:∀ m:BitVec 16,m ^^^ 65535#16= ~~~ m:=by intro m; rw [show (65535#16:BitVec 16)=BitVec.allOnes 16 from by decide,BitVec.xor_allOnes]
  have e3:=congrArg BitVec.toNat (h (BitVec.ofNat 16 n));rw [BitVec.toNat_xor,BitVec.toNat_not] at e3;have e4:(BitVec.ofNat 16 n).toNat=n:=by rw [BitVec.toNat_ofNat]; omega
  rw [e4] at e3;have e5:(65535#16:BitVec 16).toNat=65535:=by decide
  rw [e5] at e3;omega
 rw [e];omega
end Go.Proofs.T1
namespace Go.Proofs.T1
open Go Go.Sx
theorem x6 (a:List Int):fH a 8=a.getD 0 0+a.getD 1 0*65536+a.getD 2 0*4294967296+a.getD 3 0*281474976710656+a.getD 4 0*18446744073709551616+a.getD 5 0*1208925819614629174706176+a.getD 6 0*79228162514264337593543950336+a.getD 7 0*5192296858534827628530496329220096:=by
 simp [fH]
theorem Cy (k:Nat) {a b:List Int} (ha:Dg a) (hb:Dg b):∀ (n i:Nat) (c:Int) (v:List Int),i≤8→8<i+n→Dg v→0≤c→c≤1 →
  fH v i+c*65536 ^ i=fH a i+fH b i →
  ∃ r c',bL.c1 k a b n c (i:Int) v=some r∧Dg r∧fH r 8+c'*65536 ^ 8=fH a 8+fH b 8:=by
 intro n
 induction n with
 | zero=>intro i c v h1 h2; omega
 | succ n ih =>
  intro i c v h1 h2 hv c0 c1 inv
  by_cases hi:i=8
  ·subst hi
   exact ⟨v,c,rfl,hv,inv⟩
  ·have hlt:eK (i:Int) 8=true:=by simp [eK]; omega
   have hin:fR (i:Int) 8:=by unfold fR; omega
   have hai:=ha.2 i (by omega);have hbi:=hb.2 i (by omega);have e1:ao .u32 (a.getD i 0) (b.getD i 0)=a.getD i 0+b.getD i 0:=by rw [uk]; omega
   have e2:ao .u32 c (a.getD i 0+b.getD i 0)=c+(a.getD i 0+b.getD i 0):=by rw [uk]; omega
   have e3:ao .i64 (i:Int) 1=((i+1:Nat):Int):=by rw [aX (by omega) (by omega)]; omega
   rw [bL.c1,hlt,bT,rP hin];simp only [qQ,xQ,e1,e2,e3,Fs];rw [GR (by omega) (by omega)];refine ih (i+1) _ _ (by omega) (by omega) (sU hv i (by omega) (by omega)) (by omega) (by omega) ?_
   rw [mW _ _ _ (by rw [hv.1]; omega) _ (by omega)];simp only [fH,Int.pow_succ];have hd:=Int.emod_add_mul_ediv (c+(a.getD i 0+b.getD i 0)) 65536;generalize (65536:Int) ^ i=P at *
   generalize (c+(a.getD i 0+b.getD i 0)) % 65536=x at *
   generalize (c+(a.getD i 0+b.getD i 0)) / 65536=y at *
   generalize a.getD i 0=p at *
   generalize b.getD i 0=q at *
   generalize v.getD i 0=w at *
   have:(x+65536*y)*P=(c+(p+q))*P:=by rw [hd]
   grind
theorem BV:(65536:Int) ^ 8=340282366920938463463374607431768211456:=by decide
theorem zZ {k:Nat} (hk:9≤k) {a b:List Int} {x y:Int} (ha:BR a x) (hb:BR b y):∃ c,bL k a b=some c∧BR c (x+y):=by
 obtain ⟨r,c',h1,h2,h3⟩:=Cy k ha.1 hb.1 k 0 0 (List.replicate 8 0) (by decide) (by omega) sZ (by decide) (by decide) (by simp [fH]);refine ⟨r,?_,h2,?_⟩
 ·unfold bL
  show bB (bL.c1 k a b k 0 ((0:Nat):Int) _) _=_;rw [h1,bS]
 ·have hr:=iO h2 8 (Nat.le_refl _)
  rw [ha.2,hb.2,BV] at h3;rw [BV] at hr;omega
theorem yi {n:Int} (i:Nat) (hi:i≤4):cJ .u64 (cF .u64 n) (a7 .i64 16 (i:Int))=n % 18446744073709551616 / 2 ^ (16*i):=by
 rw [gW];have:a7 .i64 16 (i:Int)=((16*i:Nat):Int):=by rw [eB (by omega) (by omega)]; omega
 rw [this,js _ (by omega)]
theorem Gn (k:Nat) (n:Int) (m:Nat):cS.c1 k n (m+4) 0 (List.replicate 8 0)=cS.c1 k n m 4
  [n % 65536,n / 65536 % 65536,n / 4294967296 % 65536,n / 281474976710656 % 65536,0,0,0,0]:=by
 have s0:=yi (n:=n) 0 (by decide);have s1:=yi (n:=n) 1 (by decide);have s2:=yi (n:=n) 2 (by decide);have s3:=yi (n:=n) 3 (by decide);have t0:cF .u32 (bJ .and .u64 (cJ .u64 (cF .u64 n) (a7 .i64 16 0)) 65535)=n % 65536:=by
  rw [show (a7 .i64 16 (0:Int))=a7 .i64 16 ((0:Nat):Int) from rfl,s0,qc (by omega) (by omega),nE];omega
 have t1:cF .u32 (bJ .and .u64 (cJ .u64 (cF .u64 n) (a7 .i64 16 1)) 65535)=n / 65536 % 65536:=by
  rw [show (a7 .i64 16 (1:Int))=a7 .i64 16 ((1:Nat):Int) from rfl,s1,qc (by omega) (by omega),nE];omega
 have t2:cF .u32 (bJ .and .u64 (cJ .u64 (cF .u64 n) (a7 .i64 16 2)) 65535)=n / 4294967296 % 65536:=by
  rw [show (a7 .i64 16 (2:Int))=a7 .i64 16 ((2:Nat):Int) from rfl,s2,qc (by omega) (by omega),nE];omega
 have t3:cF .u32 (bJ .and .u64 (cJ .u64 (cF .u64 n) (a7 .i64 16 3)) 65535)=n / 281474976710656 % 65536:=by
  rw [show (a7 .i64 16 (3:Int))=a7 .i64 16 ((3:Nat):Int) from rfl,s3,qc (by omega) (by omega),nE];omega
 rw [← t0,← t1,← t2,← t3];rfl
theorem wh {k:Nat} (hk:9≤k) {n:Int} (h0:-9223372036854775808≤n) (h1:n≤9223372036854775807):∃ a,cS k n=some a∧BR a n:=by
 obtain ⟨m,rfl⟩:∃ m,k=m+9:=⟨k - 9,by omega⟩;have e:cS (m+9) n=bB (cS.c1 (m+9) n (m+5) 4 [n % 65536,n / 65536 % 65536,n / 4294967296 % 65536,n / 281474976710656 % 65536,0,0,0,0]) some:=by
  unfold cS;rw [Gn]
 by_cases hn:n<0
 ·have hb:eK n 0=true:=by simp [eK,hn]
  refine ⟨[n % 65536,n / 65536 % 65536,n / 4294967296 % 65536,n / 281474976710656 % 65536,65535,65535,65535,65535],?_,⟨rfl,?_⟩,?_⟩
  ·rw [e]
   have step:∀ (j:Nat) (i:Int) (v:List Int),eK i 8=true→eK i 4=false→fR i 8→cS.c1 (m+9) n (j+1) i v=cS.c1 (m+9) n j (ao .i64 i 1) (st v i 65535):=by
    intro j i v a b c;rw [cS.c1,a,b,hb,bT,bF,bT,rP c]
   rw [show m+5=(m+4)+1 from rfl,step _ _ _ rfl rfl (by decide),step _ _ _ rfl rfl (by decide),step _ _ _ rfl rfl (by decide),step _ _ _ rfl rfl (by decide)];rfl
  ·intro i hi
   have:i=0∨i=1∨i=2∨i=3∨i=4∨i=5∨i=6∨i=7:=by omega
   rcases this with h | h | h | h | h | h | h | h <;> subst h <;> simp <;> omega
  ·rw [x6]
   simp;omega
 ·have hb:eK n 0=false:=by simp [eK,hn]
  refine ⟨[n % 65536,n / 65536 % 65536,n / 4294967296 % 65536,n / 281474976710656 % 65536,0,0,0,0],?_,⟨rfl,?_⟩,?_⟩
  ·rw [e]
   have step:∀ (j:Nat) (i:Int) (v:List Int),eK i 8=true→eK i 4=false→cS.c1 (m+9) n (j+1) i v=cS.c1 (m+9) n j (ao .i64 i 1) v:=by
    intro j i v a b;rw [cS.c1,a,b,hb,bT,bF,bF]
   rw [show m+5=(m+4)+1 from rfl,step _ _ _ rfl rfl,step _ _ _ rfl rfl,step _ _ _ rfl rfl,step _ _ _ rfl rfl];rfl
  ·intro i hi
   have:i=0∨i=1∨i=2∨i=3∨i=4∨i=5∨i=6∨i=7:=by omega
   rcases this with h | h | h | h | h | h | h | h <;> subst h <;> simp <;> omega
  ·rw [x6]
   simp;omega
theorem CK (k:Nat) (a:List Int):∀ (n i:Nat) (v:List Int),i≤8→8<i+n→Dg v →
  fH v i+fH a i=65536 ^ i - 1→(∀ j,i≤j→v.getD j 0=a.getD j 0) →
  ∃ r,b6.c1 k n (i:Int) v=some r∧Dg r∧fH r 8+fH a 8=65536 ^ 8 - 1:=by
 intro n
 induction n with
 | zero=>intro i v h1 h2; omega
 | succ n ih =>
  intro i v h1 h2 hv inv rest
  by_cases hi:i=8
  ·subst hi
   exact ⟨v,rfl,hv,inv⟩
  ·have hlt:eK (i:Int) 8=true:=by simp [eK]; omega
   have hin:fR (i:Int) 8:=by unfold fR; omega
   have hai:=hv.2 i (by omega);have e3:ao .i64 (i:Int) 1=((i+1:Nat):Int):=by rw [aX (by omega) (by omega)]; omega
   rw [b6.c1,hlt,bT,rP hin];simp only [qQ,xQ,e3];rw [GV hai.1 hai.2];refine ih (i+1) _ (by omega) (by omega) (sU hv i (by omega) (by omega)) ?_ ?_
   ·rw [mW _ _ _ (by rw [hv.1]; omega) _ (by omega)]
    simp only [fH,Int.pow_succ];rw [rest i (Nat.le_refl _)];generalize (65536:Int) ^ i=P at *
    grind
   ·intro j hj
    rw [lA];have:¬ (i=j∧i<v.length):=by omega
    rw [if_neg this];exact rest j (by omega)
theorem FA {k:Nat} (hk:9≤k) {a:List Int} {x:Int} (ha:BR a x):∃ c,b6 k a=some c∧BR c (-x):=by
 obtain ⟨r,h1,h2,h3⟩:=CK k a k 0 a (by decide) (by omega) ha.1 (by simp [fH]) (fun _ _=>rfl);obtain ⟨o,o1,o2⟩:=wh hk (n:=1) (by decide) (by decide);have hb:BR r (-1 - x):=by
  refine ⟨h2,?_⟩;have hr:=iO h2 8 (Nat.le_refl _);rw [ha.2,BV] at h3;rw [BV] at hr;omega
 obtain ⟨c,c1,c2⟩:=zZ hk hb o2;refine ⟨c,?_,sP c2 (by congr 1; omega)⟩;unfold b6;show bB (b6.c1 k k ((0:Nat):Int) a) _=_;rw [h1,bS,o1,bS,c1,bS]
theorem DT {k:Nat} (hk:9≤k) {a b:List Int} {x y:Int} (ha:BR a x) (hb:BR b y):∃ c,dE k a b=some c∧BR c (x - y):=by
 obtain ⟨n,n1,n2⟩:=FA hk hb;obtain ⟨c,c1,c2⟩:=zZ hk ha n2;exact ⟨c,by unfold dE; rw [n1,bS,c1,bS],sP c2 (by congr 1)⟩
theorem Fo (k:Nat) {a b:List Int} (ha:Dg a) (hb:Dg b) (i:Nat) (hi:i<8) (S:Int):∀ (n j:Nat) (c:Int) (v:List Int),i+j≤8→8<i+j+n→Dg v→0≤c→c≤65535 →
  fH v 8+c*65536 ^ (i+j)=S+a.getD i 0*65536 ^ i*fH b j →
  ∃ r c',aV.c2 k a b (i:Int) n c (j:Int) v=some r∧Dg r∧fH r 8+c'*65536 ^ 8=S+a.getD i 0*65536 ^ i*fH b (8 - i):=by
 intro n
 induction n with
 | zero=>intro j c v h1 h2; omega
 | succ n ih =>
  intro j c v h1 h2 hv c0 c1 inv;have e4:ao .i64 (i:Int) (j:Int)=((i+j:Nat):Int):=by rw [aX (by omega) (by omega)]; omega
  by_cases hij:i+j=8
  ·have hj:j=8 - i:=by omega
   subst hj;refine ⟨v,c,?_,hv,?_⟩
   ·rw [aV.c2,e4,hij]
    rfl
   ·rw [hij] at inv
    exact inv
  ·have hlt:eK ((i+j:Nat):Int) 8=true:=by simp [eK]; omega
   have hin:fR ((i+j:Nat):Int) 8:=by unfold fR; omega
   have hin1:fR (i:Int) 8:=by unfold fR; omega
   have hin2:fR (j:Int) 8:=by unfold fR; omega
   have hai:=ha.2 i (by omega);have hbj:=hb.2 j (by omega);have hvi:=hv.2 (i+j) (by omega);have hpr:=iP hai.1 (show a.getD i 0≤65535 by omega) hbj.1 (show b.getD j 0≤65535 by omega);have e3:ao .i64 (j:Int) 1=((j+1:Nat):Int):=by rw [aX (by omega) (by omega)]; omega
   rw [aV.c2];simp only [e4];rw [hlt,bT,rP hin1,rP hin2,rP hin];simp only [qQ,xQ,e3,FY];have f1:cF .u64 (a.getD i 0)=a.getD i 0:=by rw [gW]; omega
   have f2:cF .u64 (b.getD j 0)=b.getD j 0:=by rw [gW]; omega
   have f3:cF .u64 (v.getD (i+j) 0)=v.getD (i+j) 0:=by rw [gW]; omega
   have f4:a7 .u64 (a.getD i 0) (b.getD j 0)=a.getD i 0*b.getD j 0:=by rw [lH]; omega
   have f5:ao .u64 (a.getD i 0*b.getD j 0) (v.getD (i+j) 0)=a.getD i 0*b.getD j 0+v.getD (i+j) 0:=by rw [jR]; omega
   have f6:ao .u64 c (a.getD i 0*b.getD j 0+v.getD (i+j) 0)=c+(a.getD i 0*b.getD j 0+v.getD (i+j) 0):=by rw [jR]; omega
   simp only [f1,f2,f3,f4,f5,f6];rw [qc (by omega) (by omega),nE];have f7:(c+(a.getD i 0*b.getD j 0+v.getD (i+j) 0)) % 65536 % 4294967296=(c+(a.getD i 0*b.getD j 0+v.getD (i+j) 0)) % 65536:=by omega
   rw [f7];refine ih (j+1) _ _ (by omega) (by omega) (sU hv _ (by omega) (by omega)) (by omega) (by omega) ?_
   rw [mW _ _ _ (by rw [hv.1]; omega) _ (by omega)];have hd:=Int.emod_add_mul_ediv (c+(a.getD i 0*b.getD j 0+v.getD (i+j) 0)) 65536;rw [show fH b (j+1)=fH b j+b.getD j 0*65536 ^ j from rfl,show (65536:Int) ^ (i+(j+1))=65536 ^ (i+j)*65536 from Int.pow_succ _ _];have hpw:(65536:Int) ^ (i+j)=65536 ^ i*65536 ^ j:=Int.pow_add _ _ _;rw [hpw] at inv ⊢;generalize (65536:Int) ^ i=P at *
   generalize (65536:Int) ^ j=Q at *
   generalize (c+(a.getD i 0*b.getD j 0+v.getD (i+j) 0)) % 65536=x at *
   generalize (c+(a.getD i 0*b.getD j 0+v.getD (i+j) 0)) / 65536=y at *
   generalize a.getD i 0=p at *
   generalize b.getD j 0=q at *
   generalize v.getD (i+j) 0=w at *
   generalize fH v 8=V at *
   generalize fH b j=B at *
   have h9:(x+65536*y)*(P*Q)=(c+(p*q+w))*(P*Q):=by rw [hd]
   have e1:(x+65536*y)*(P*Q)=x*(P*Q)+65536*(y*(P*Q)):=by grind
   have e2:(c+(p*q+w))*(P*Q)=c*(P*Q)+p*q*(P*Q)+w*(P*Q):=by grind
   have e5:(x - w)*(P*Q)=x*(P*Q) - w*(P*Q):=by grind
   have e6:y*(P*Q*65536)=65536*(y*(P*Q)):=by grind
   have e7:p*P*(B+q*Q)=p*P*B+p*q*(P*Q):=by grind
   rw [e5,e6,e7];rw [e1,e2] at h9;clear hd e1 e2 e5 e6 e7 hpr f1 f2 f3 f4 f5 f6 f7 ih;generalize x*(P*Q)=t1 at *
   generalize y*(P*Q)=t2 at *
   generalize c*(P*Q)=t3 at *
   generalize p*q*(P*Q)=t4 at *
   generalize w*(P*Q)=t5 at *
   generalize p*P*B=t6 at *
   omega
theorem qJ (b:List Int) (i:Nat):∀ j,∃ q,fH b (i+j)=fH b i+q*65536 ^ i:=by
 intro j
 induction j with
 | zero=>exact ⟨0,by simp⟩
 | succ j ih =>
  obtain ⟨q,hq⟩:=ih;refine ⟨q+b.getD (i+j) 0*65536 ^ j,?_⟩;show fH b (i+j)+b.getD (i+j) 0*65536 ^ (i+j)=_;rw [hq,Int.pow_add];grind
theorem Ei (k:Nat) (hk:9≤k) {a b:List Int} (ha:Dg a) (hb:Dg b):∀ (n i:Nat) (v:List Int),i≤8→8<i+n→Dg v →
  (∃ c,fH v 8+c*65536 ^ 8=fH a i*fH b 8) →
  ∃ r,aV.c1 k a b n (i:Int) v=some r∧Dg r∧∃ c,fH r 8+c*65536 ^ 8=fH a 8*fH b 8:=by
 intro n
 induction n with
 | zero=>intro i v h1 h2; omega
 | succ n ih =>
  intro i v h1 h2 hv inv
  by_cases hi:i=8
  ·subst hi
   exact ⟨v,rfl,hv,inv⟩
  ·have hlt:eK (i:Int) 8=true:=by simp [eK]; omega
   have e3:ao .i64 (i:Int) 1=((i+1:Nat):Int):=by rw [aX (by omega) (by omega)]; omega
   obtain ⟨r,c',h3,h4,h5⟩:=Fo k ha hb i (by omega) (fH v 8) k 0 0 v (by omega) (by omega) hv (by decide) (by decide) (by simp [fH]);rw [aV.c1,hlt,bT];show ∃ r,bB (aV.c2 k a b (i:Int) k 0 ((0:Nat):Int) v) _=some r∧_;rw [h3,bS,e3];refine ih (i+1) r (by omega) (by omega) h4 ?_
   obtain ⟨c,inv⟩:=inv;obtain ⟨q,hq⟩:=qJ b (8 - i) i;rw [show 8 - i+i=8 by omega] at hq;have hpw:(65536:Int) ^ 8=65536 ^ (8 - i)*65536 ^ i:=by rw [← Int.pow_add,show 8 - i+i=8 by omega]
   refine ⟨c+c'+a.getD i 0*q,?_⟩;rw [show fH a (i+1)=fH a i+a.getD i 0*65536 ^ i from rfl];generalize (65536:Int) ^ 8=W at *
   generalize (65536:Int) ^ (8 - i)=P at *
   generalize (65536:Int) ^ i=Q at *
   grind
theorem BI {k:Nat} (hk:9≤k) {a b:List Int} {x y:Int} (ha:BR a x) (hb:BR b y):∃ c,aV k a b=some c∧BR c (x*y):=by
 obtain ⟨r,h1,h2,c,h3⟩:=Ei k hk ha.1 hb.1 k 0 (List.replicate 8 0) (by decide) (by omega) sZ ⟨0,by rw [AJ,show fH a 0=0 from rfl]; simp⟩;refine ⟨r,?_,h2,?_⟩
 ·unfold aV
  show bB (aV.c1 k a b k ((0:Nat):Int) _) _=_;rw [h1,bS]
 ·have hr:=iO h2 8 (Nat.le_refl _)
  rw [BV] at h3 hr;have e1:fH r 8=(fH a 8*fH b 8) % 340282366920938463463374607431768211456:=by
   rw [← h3];omega
  rw [e1,ha.2,hb.2,← Int.mul_emod]
end Go.Proofs.T1
namespace Go.Proofs.T1
open Go Go.Sx
def iz (x y:Int):Int:=if x<y then -1 else if x=y then 0 else 1
theorem gO {x y:Int} (h:x<y):iz x y=-1:=if_pos h
theorem ia {x y:Int} (h:x=y):iz x y=0:=by unfold iz; rw [if_neg (by omega),if_pos h]
theorem gN {x y:Int} (h:y<x):iz x y=1:=by unfold iz; rw [if_neg (by omega),if_neg (by omega)]
def zg (x y:Int):Int ⊕ Unit:=if x<y then .inl (-1) else if x=y then .inr () else .inl 1
theorem nt {x y:Int} (h:x<y):zg x y=.inl (-1):=if_pos h
theorem pL {x y:Int} (h:x=y):zg x y=.inr ():=by unfold zg; rw [if_neg (by omega),if_pos h]
theorem mU {x y:Int} (h:y<x):zg x y=.inl 1:=by unfold zg; rw [if_neg (by omega),if_neg (by omega)]
def SR (x:Int):Prop:=-170141183460469231731687303715884105728≤x∧x<170141183460469231731687303715884105728
theorem qZ (k:Nat) {a:List Int} {x:Int} (ha:BR a x) (hx:SR x):cO k a=some (decide (x<0)):=by
 unfold cO SR at *
 have h1:=iO ha.1 7 (by decide);have h2:=ha.1.2 7 (by decide);have h3:fH a 8=fH a 7+a.getD 7 0*5192296858534827628530496329220096:=by simp [fH]
 have h4:(65536:Int) ^ 7=5192296858534827628530496329220096:=by decide
 have e:el 0 a 7=a.getD 7 0:=rfl;have e2:cJ .u32 (a.getD 7 0) 15=a.getD 7 0 / 32768:=by
  unfold cJ;exact Int.fdiv_eq_ediv_of_nonneg _ (by decide)
 rw [h4] at h1;rw [e,e2];congr 1;rw [gB,decide_eq_decide];have h5:=ha.2;rw [h3] at h5;omega
theorem BA (k:Nat) {a b:List Int} (ha:Dg a) (hb:Dg b):∀ (i n:Nat),i≤8→i<n →
  bo.c1 k a b n ((i:Int) - 1)=some (zg (fH a i) (fH b i)):=by
 intro i
 induction i with
 | zero =>
  intro n h1 h2;obtain ⟨m,rfl⟩:∃ m,n=m+1:=⟨n - 1,by omega⟩;rfl
 | succ i ih =>
  intro n h1 h2;obtain ⟨m,rfl⟩:∃ m,n=m+1:=⟨n - 1,by omega⟩;have e:(((i+1:Nat):Int) - 1)=(i:Int):=by omega
  have hge:hG (i:Int) 0=true:=by simp [hG]
  have hin:fR (i:Int) 8:=by unfold fR; omega
  have e3:bY .i64 (i:Int) 1=(i:Int) - 1:=by rw [cR (by omega) (by omega)]
  rw [bo.c1,e,hge,bT,rP hin,e3,ih m (by omega) (by omega)];simp only [qQ];have p1:=iO ha i (by omega);have p2:=iO hb i (by omega);simp only [fH];generalize (65536:Int) ^ i=P at *
  generalize a.getD i 0=x at *
  generalize b.getD i 0=y at *
  generalize fH a i=S at *
  generalize fH b i=R at *
  by_cases h:x=y
  ·have c1:j8 x y=false:=by simp [j8,h]
   rw [c1,bF,h];rcases Int.lt_trichotomy S R with g | g | g
   ·rw [nt g,nt (by omega)]
   ·rw [pL g,pL (by omega)]
   ·rw [mU g,mU (by omega)]
  ·have c1:j8 x y=true:=by simp [j8,h]
   rw [c1,bT]
   by_cases h2:x<y
   ·have c2:eK x y=true:=by simp [eK,h2]
    rw [c2,bT];have q0:0≤(y - x - 1)*P:=Int.mul_nonneg (by omega) (by omega);have q1:(y - x - 1)*P=y*P - x*P - P:=by grind
    rw [nt (by omega)]
   ·have c2:eK x y=false:=by simp [eK,h2]
    rw [c2,bF];have q0:0≤(x - y - 1)*P:=Int.mul_nonneg (by omega) (by omega);have q1:(x - y - 1)*P=x*P - y*P - P:=by grind
    rw [mU (by omega)]
theorem wz {k:Nat} (hk:9≤k) {a b:List Int} {x y:Int} (ha:BR a x) (hb:BR b y) (hx:SR x) (hy:SR y):bo k a b=some (iz x y):=by
 unfold bo;rw [qZ k ha hx,qZ k hb hy];simp only [bS];have hl:=BA k ha.1 hb.1 8 k (by decide) (by omega);have e7:(((8:Nat):Int) - 1)=7:=by decide
 rw [e7] at hl;rw [hl];have e0:Ty.kY T4 (decide (x<0)) (decide (y<0))=(decide (x<0) == decide (y<0)):=rfl;rw [e0];unfold SR at *
 have h1:=ha.2;have h2:=hb.2
 by_cases c1:x<0 <;> by_cases c2:y<0
 ·simp only [c1,c2,decide_true,beq_self_eq_true,bT,bS]
  rcases Int.lt_trichotomy x y with g | g | g
  ·rw [gO g,nt (by omega)]; rfl
  ·rw [ia g,pL (by omega)]; rfl
  ·rw [gN g,mU (by omega)]; rfl
 ·rw [gO (by omega)]
  simp only [c1,c2,decide_true,decide_false];rfl
 ·rw [gN (by omega)]
  simp only [c1,c2,decide_true,decide_false];rfl
 ·simp only [c1,c2,decide_false,beq_self_eq_true,bT,bS]
  rcases Int.lt_trichotomy x y with g | g | g
  ·rw [gO g,nt (by omega)]; rfl
  ·rw [ia g,pL (by omega)]; rfl
  ·rw [gN g,mU (by omega)]; rfl
def jd (x:Int):Prop:=-9223372036854775808≤x∧x≤9223372036854775807
theorem wY {k:Nat} (hk:9≤k) {a b:ay} (h1:jd a.1) (h2:jd a.2.1) (h3:jd b.1) (h4:jd b.2.1):∃ c,fz k a b=some c∧BR c (a.1*b.1+a.2.1*b.2.1):=by
 obtain ⟨y1,e1,r1⟩:=wh hk h1.1 h1.2;obtain ⟨y3,e3,r3⟩:=wh hk h3.1 h3.2;obtain ⟨y5,e5,r5⟩:=BI hk r1 r3;obtain ⟨y7,e7,r7⟩:=wh hk h2.1 h2.2;obtain ⟨y9,e9,r9⟩:=wh hk h4.1 h4.2;obtain ⟨y11,e11,r11⟩:=BI hk r7 r9;obtain ⟨y13,e13,r13⟩:=zZ hk r5 r11;exact ⟨y13,by unfold fz; rw [e1,bS,e3,bS,e5,bS,e7,bS,e9,bS,e11,bS,e13,bS],r13⟩
theorem B6 {k:Nat} (hk:9≤k) {a b:ay} (h1:jd a.1) (h2:jd a.2.1) (h3:jd b.1) (h4:jd b.2.1):∃ c,fD k a b=some c∧BR c (a.1*b.2.1 - a.2.1*b.1):=by
 obtain ⟨y1,e1,r1⟩:=wh hk h1.1 h1.2;obtain ⟨y3,e3,r3⟩:=wh hk h4.1 h4.2;obtain ⟨y5,e5,r5⟩:=BI hk r1 r3;obtain ⟨y7,e7,r7⟩:=wh hk h2.1 h2.2;obtain ⟨y9,e9,r9⟩:=wh hk h3.1 h3.2;obtain ⟨y11,e11,r11⟩:=BI hk r7 r9;obtain ⟨y13,e13,r13⟩:=DT hk r5 r11;exact ⟨y13,by unfold fD; rw [e1,bS,e3,bS,e5,bS,e7,bS,e9,bS,e11,bS,e13,bS],r13⟩
def Wn (a:ay):Prop:=-65536000≤a.1∧a.1≤65536000∧-65536000≤a.2.1∧a.2.1≤65536000
instance (a:ay):Decidable (Wn a):=by unfold Wn; infer_instance
def cV (a b p:ay):Int:=(b.1 - a.1)*(p.2.1 - a.2.1) - (b.2.1 - a.2.1)*(p.1 - a.1)
theorem ek {x y M N:Int} (h1:-M≤x) (h2:x≤M) (h3:-N≤y) (h4:y≤N):-(M*N)≤x*y∧x*y≤M*N:=by
 have p1:0≤(M - x)*(N - y):=Int.mul_nonneg (by omega) (by omega);have p2:0≤(M+x)*(N+y):=Int.mul_nonneg (by omega) (by omega);have p3:0≤(M - x)*(N+y):=Int.mul_nonneg (by omega) (by omega);have p4:0≤(M+x)*(N - y):=Int.mul_nonneg (by omega) (by omega);have e1:(M - x)*(N - y)=M*N - M*y - x*N+x*y:=by grind
 have e2:(M+x)*(N+y)=M*N+M*y+x*N+x*y:=by grind
 have e3:(M - x)*(N+y)=M*N+M*y - x*N - x*y:=by grind
 have e4:(M+x)*(N - y)=M*N - M*y+x*N - x*y:=by grind
 omega
theorem rZ (k:Nat) (a:ay):dN k a=some (decide (Wn a)):=by
 unfold dN Wn
 by_cases h1:a.1 ≥ -65536000 <;> by_cases h2:a.1≤65536000 <;> by_cases h3:a.2.1 ≥ -65536000 <;> by_cases h4:a.2.1≤65536000 <;>
  simp [hG,jb,aM,h1,h2,h3,h4] <;> omega
theorem jO (k:Nat) (a:ay) (m:Int) (h0:0≤m) (h1:m≤9223372036854775807):dZ k a m=some (decide (-m≤a.1∧a.1≤m∧-m≤a.2.1∧a.2.1≤m)):=by
 have e:fk .i64 m=-m:=by unfold fk; rw [wrap_i64 (by omega) (by omega)]; omega
 unfold dZ;rw [e]
 by_cases h1:a.1 ≥ -m <;> by_cases h2:a.1≤m <;> by_cases h3:a.2.1 ≥ -m <;> by_cases h4:a.2.1≤m <;>
  simp [hG,jb,aM,h1,h2,h3,h4] <;> omega
theorem lR {a b p:ay} (ha:Wn a) (hb:Wn b) (hp:Wn p):-34359738368000000≤cV a b p∧cV a b p≤34359738368000000:=by
 unfold cV Wn at *
 have h1:=ek (x:=b.1 - a.1) (y:=p.2.1 - a.2.1) (M:=131072000) (N:=131072000) (by omega) (by omega) (by omega) (by omega);have h2:=ek (x:=b.2.1 - a.2.1) (y:=p.1 - a.1) (M:=131072000) (N:=131072000) (by omega) (by omega) (by omega) (by omega);omega
theorem yC (k:Nat) {a b p:ay} (ha:Wn a) (hb:Wn b) (hp:Wn p):eI k a b p=some (cV a b p):=by
 unfold eI cV Wn at *
 have h1:=ek (x:=b.1 - a.1) (y:=p.2.1 - a.2.1) (M:=131072000) (N:=131072000) (by omega) (by omega) (by omega) (by omega);have h2:=ek (x:=b.2.1 - a.2.1) (y:=p.1 - a.1) (M:=131072000) (N:=131072000) (by omega) (by omega) (by omega) (by omega);rw [cR (x:=b.1) (by omega) (by omega),cR (x:=b.2.1) (by omega) (by omega),cR (x:=p.1) (by omega) (by omega),cR (x:=p.2.1) (by omega) (by omega)];rw [eB (by omega) (by omega),eB (by omega) (by omega),cR (by omega) (by omega)]
theorem j7 {k:Nat} (hk:9≤k) {a b p:ay} (ha:Wn a) (hb:Wn b) (hp:Wn p):eJ k a b p=some (iz (cV a b p) 0):=by
 have ht:=lR ha hb hp;unfold Wn at *
 have e1:dJ k b a=some (b.1 - a.1,b.2.1 - a.2.1,()):=by
  unfold dJ;rw [cR (by omega) (by omega),cR (by omega) (by omega)]
 have e2:dJ k p a=some (p.1 - a.1,p.2.1 - a.2.1,()):=by
  unfold dJ;rw [cR (by omega) (by omega),cR (by omega) (by omega)]
 obtain ⟨c,e3,r⟩:=B6 hk (a:=(b.1 - a.1,b.2.1 - a.2.1,())) (b:=(p.1 - a.1,p.2.1 - a.2.1,())) (by unfold jd; dsimp only; omega) (by unfold jd; dsimp only; omega) (by unfold jd; dsimp only; omega) (by unfold jd; dsimp only; omega);unfold eJ;rw [e1,bS,e2,bS,e3,bS,wz hk r pQ (by unfold SR; unfold cV at ht; dsimp only; omega) (by unfold SR; omega),bS];rfl
theorem D4 (k:Nat) {a b:gV} (ha:nO a) (hb:nO b):bt k a b=some (iz (wv a) (wv b)):=by
 unfold bt bt.c1;rw [Gl];obtain ⟨a1,a2,u⟩:=a;obtain ⟨b1,b2,u'⟩:=b
 by_cases h:((a1,a2,u):gV)=(b1,b2,u')
 ·cases h
  simp [iz,aM]
 ·have h':¬ (a1=b1∧a2=b2):=fun e=>h (by obtain ⟨e1,e2⟩:=e; subst e1 e2; rfl)
  simp only [h,decide_false,bF];have hwa:wv (a1,a2,u)=a1*18446744073709551616+a2:=rfl;have hwb:wv (b1,b2,u')=b1*18446744073709551616+b2:=rfl;simp only [nO] at ha hb
  by_cases c1:a1<b1
  ·have:eK a1 b1=true:=by simp [eK,c1]
   rw [this,bT,bS,bT,gO (by omega)]
  ·have:eK a1 b1=false:=by simp [eK,c1]
   rw [this,bF]
   by_cases c2:a1=b1
   ·have:gB a1 b1=true:=by simp [gB,c2]
    rw [this,bT,bS]
    by_cases c3:a2<b2
    ·have:eK a2 b2=true:=by simp [eK,c3]
     rw [this,bT,gO (by omega)]
    ·have:eK a2 b2=false:=by simp [eK,c3]
     rw [this,bF,gN (by omega)]
   ·have:gB a1 b1=false:=by simp [gB,c2]
    rw [this,bF,bS,bF,gN (by omega)]
end Go.Proofs.T1
namespace Go.Proofs.T1
open Go Go.Sx
theorem bu {α:Type} {v:Int} {l:List α} (h0:0≤v) (h1:v<len l):gi v l:=⟨h0,h1⟩
theorem bA {a b:Int} (h:a<b):eK a b=true:=decide_eq_true h
theorem bZ {a b:Int} (h:b≤a):eK a b=false:=decide_eq_false (by omega)
theorem iJ {a b:Int} (h:a≤b):jb a b=true:=decide_eq_true h
theorem iI {a b:Int} (h:b<a):jb a b=false:=decide_eq_false (by omega)
theorem gM {a b:Int} (h:a > b):kZ a b=true:=decide_eq_true h
theorem gG {a b:Int} (h:a≤b):kZ a b=false:=decide_eq_false (by omega)
theorem j3 {a b:Int} (h:a ≥ b):hG a b=true:=decide_eq_true h
theorem iV {a b:Int} (h:a<b):hG a b=false:=decide_eq_false (by omega)
theorem gn {a b:Int} (h:¬ a=b):j8 a b=true:=decide_eq_true h
theorem dR {a b:Int} (h:a=b):j8 a b=false:=decide_eq_false (fun g=>g h)
theorem fw {a b:Int} (h:a=b):gB a b=true:=decide_eq_true h
theorem fl {a b:Int} (h:¬ a=b):gB a b=false:=decide_eq_false h
def q (l:List ay) (i:Int):ay:=el cH l i
def nx (n i:Int):Int:=if i+1=n then 0 else i+1
theorem dK {n i:Int} (h0:0≤i) (h1:i<n):0≤nx n i∧nx n i<n:=by unfold nx; split <;> omega
theorem gK {n i:Int} (h0:0≤i) (h1:i<n) (h2:n≤1000):en (ao .i64 i 1) n=nx n i:=by
 rw [aX (by omega) (by omega)];unfold en nx;rw [Int.tmod_eq_emod_of_nonneg (by omega)];split
 ·rename_i h; rw [h,Int.emod_self]
 ·exact Int.emod_eq_of_lt (by omega) (by omega)
def kh (l:List ay):Prop:=∀ i,0≤i→i<len l→Wn (q l i)
def gR (l:List ay):Prop:=∀ i j,0≤i→i<len l→0≤j→j<len l→j≠i→j≠nx (len l) i→0<cV (q l i) (q l (nx (len l) i)) (q l j)
def Es (l:List ay):Prop:=∀ i j m,0≤i→i<j→j<m→m<len l→0<cV (q l i) (q l j) (q l m)
theorem l6 (a b c:ay):cV a b c=cV b c a:=by unfold cV; grind
theorem Ck (a b:ay):cV a b b=0:=by unfold cV; grind
theorem rW (a b:ay):cV a b a=0:=by unfold cV; grind
theorem CE (a b c:ay):cV b a c=- cV a b c:=by unfold cV; grind
theorem E8 (a u x y z:ay):cV a u y*cV a x z=cV a u x*cV a y z+cV a u z*cV a x y:=by unfold cV; grind
theorem B8 (a b p x y z:ay):cV a b p*cV x y z=cV a b x*cV p y z+cV a b y*cV x p z+cV a b z*cV x y p:=by unfold cV; grind
theorem jJ {a b:Int} (hb:0<b) (h:0<b*a):0<a:=by
 rcases Int.lt_or_le 0 a with g | g
 ·exact g
 ·have:b*a≤b*0:=Int.mul_le_mul_of_nonneg_left g (by omega)
  omega
theorem mf {a b:Int} (hb:0<b) (h:0≤b*a):0≤a:=by
 rcases Int.lt_or_le a 0 with g | g
 ·have:b*a≤b*(-1):=Int.mul_le_mul_of_nonneg_left (by omega) (by omega)
  omega
 ·exact g
theorem lM {l:List ay} (he:gR l):Es l:=by
 have H:∀ (d:Nat) (i j:Int),0≤i→i<j→j+1+d<len l→0<cV (q l i) (q l j) (q l (j+1+d)):=by
  intro d
  induction d with
  | zero =>
   intro i j h0 h1 h2;have h:=he j i (by omega) (by omega) (by omega) (by omega) (by omega) (by unfold nx; split <;> omega);have hn:nx (len l) j=j+1:=by unfold nx; split <;> omega
   rw [hn] at h;rw [l6]
   simpa using h
  | succ d ih =>
   intro i j h0 h1 h2;have hij:nx (len l) i=i+1:=by unfold nx; split <;> omega
   have e1:j+1+((d+1:Nat):Int)=(j+1+d)+1:=by omega
   by_cases hj:j=i+1
   ·have h:=he i (j+1+((d+1:Nat):Int)) (by omega) (by omega) (by omega) (by omega) (by omega) (by rw [hij]; omega)
    rw [hij] at h;rw [hj] at h ⊢;exact h
   ·have a1:=ih i j h0 h1 (by omega)
    have hn:nx (len l) (j+1+d)=j+1+d+1:=by unfold nx; split <;> omega
    have a2:=he (j+1+d) i (by omega) (by omega) (by omega) (by omega) (by omega) (by rw [hn]; omega);have a3:=he i j (by omega) (by omega) (by omega) (by omega) (by omega) (by rw [hij]; omega);have a4:=he i (j+1+d) (by omega) (by omega) (by omega) (by omega) (by omega) (by rw [hij]; omega);have a5:=he i (j+1+d+1) (by omega) (by omega) (by omega) (by omega) (by omega) (by rw [hij]; omega);rw [hn,← l6] at a2;rw [hij] at a3 a4 a5;rw [e1];refine jJ a4 ?_
    rw [E8];have p1:=Int.mul_pos a3 a2;have p2:=Int.mul_pos a5 a1;omega
 intro i j m h0 h1 h2 h3;have:=H (m - j - 1).toNat i j h0 h1 (by omega)
 rwa [show j+1+((m - j - 1).toNat:Int)=m by omega] at this
theorem AO {l:List ay} (ht:Es l):gR l:=by
 intro i j h0 h1 h2 h3 h4 h5;unfold nx at *
 split
 ·rename_i h
  rw [if_pos h] at h5;rw [l6];exact ht 0 j i (by omega) (by omega) (by omega) (by omega)
 ·rename_i h
  rw [if_neg h] at h5;rcases Int.lt_or_le j i with g | g
  ·rw [← l6]
   exact ht j i (i+1) (by omega) (by omega) (by omega) (by omega)
  ·exact ht i (i+1) j (by omega) (by omega) (by omega) (by omega)
def lj (l:List ay) (p:ay):Prop:=∀ i,0≤i→i<len l→0≤cV (q l i) (q l (nx (len l) i)) p
def Ai (l:List ay) (p:ay):Prop:=∃ i,2≤i∧i<len l∧0≤cV (q l 0) (q l (i - 1)) p∧0≤cV (q l (i - 1)) (q l i) p∧0≤cV (q l i) (q l 0) p
theorem jE {l:List ay} (he:gR l) (i j:Int) (h0:0≤i) (h1:i<len l) (h2:0≤j) (h3:j<len l):0≤cV (q l i) (q l (nx (len l) i)) (q l j):=by
 by_cases a:j=i
 ·subst a
  rw [rW];decide
 ·by_cases b:j=nx (len l) i
  ·rw [← b,Ck]
   decide
  ·exact Int.le_of_lt (he i j h0 h1 h2 h3 a b)
theorem AX {l:List ay} (he:gR l) {p:ay} (h:Ai l p):lj l p:=by
 obtain ⟨i,h1,h2,a,b,c⟩:=h;have ht:=lM he 0 (i - 1) i (by omega) (by omega) (by omega) (by omega);intro j j0 j1;refine mf ht ?_
 rw [Int.mul_comm,B8];have e1:=jE he j 0 j0 j1 (by omega) (by omega);have e2:=jE he j (i - 1) j0 j1 (by omega) (by omega);have e3:=jE he j i j0 j1 (by omega) (by omega);have b':0≤cV p (q l (i - 1)) (q l i):=by rw [l6]; exact b
 have c':0≤cV (q l 0) p (q l i):=by rw [← l6]; exact c
 have p1:=Int.mul_nonneg e1 b';have p2:=Int.mul_nonneg e2 c';have p3:=Int.mul_nonneg e3 a;omega
theorem sM {l:List ay} (hl:3≤len l) {p:ay} (h:lj l p):Ai l p:=by
 have H:∀ (d:Nat) (i:Int),i=len l - 1 - d→2≤i→0≤cV (q l 0) (q l (i - 1)) p→Ai l p:=by
  intro d
  induction d with
  | zero =>
   intro i hi h2 ha;have e:=h (len l - 1) (by omega) (by omega);have hn:nx (len l) (len l - 1)=0:=by unfold nx; split <;> omega
   have e':=h (i - 1) (by omega) (by omega);have hn':nx (len l) (i - 1)=i:=by unfold nx; split <;> omega
   rw [hn] at e;rw [hn'] at e';have:len l - 1=i:=by omega
   rw [this] at e;exact ⟨i,h2,by omega,ha,e',e⟩
  | succ d ih =>
   intro i hi h2 ha
   by_cases c:0≤cV (q l i) (q l 0) p
   ·have e':=h (i - 1) (by omega) (by omega)
    have hn':nx (len l) (i - 1)=i:=by unfold nx; split <;> omega
    rw [hn'] at e';exact ⟨i,h2,by omega,ha,e',c⟩
   ·refine ih (i+1) (by omega) (by omega) ?_
    rw [show i+1 - 1=i by omega];rw [CE] at c;omega
 refine H (len l - 3).toNat 2 (by omega) (by omega) ?_
 have e:=h 0 (by omega) (by omega);have hn:nx (len l) 0=1:=by unfold nx; split <;> omega
 rw [hn] at e;exact e
end Go.Proofs.T1
namespace Go.Proofs.T1
open Go Go.Sx
theorem oJ {k:Nat} {l:List ay} (hl:len l≤1000) (hk:len l<k) {f:(ay × Unit)→Option Bool} {g:ay→Bool} (hf:∀ x,f (x,())=some (g x))
  : b7 k l f=some true∧(∃ i,0≤i∧i<len l∧g (q l i)=true)∨b7 k l f=some false∧(∀ i,0≤i→i<len l→¬ g (q l i)=true):=by
 have H:=fM (fun n v=>aL.c1 k l f n v) 0 (len l) (fun v=>g (q l v)=true) (fun v=>v)
  (by
   intro n v h0 h1 h2;show aL.c1 k l f (n+1) v=_;rw [aL.c1,bA h1,bT,rP (bu h0 h1),hf,bS];show aM (g (q l v)) _ _=_
   rw [h2,bT])
  (by
   intro n v h0 h1 h2;show aL.c1 k l f (n+1) v=aL.c1 k l f n (v+1);rw [aL.c1,bA h1,bT,rP (bu h0 h1),hf,bS];show aM (g (q l v)) _ _=_;rw [Bool.not_eq_true] at h2
   rw [h2,bF,aX (by omega) (by omega)])
  (by
   intro n v h0 h1;show aL.c1 k l f (n+1) v=_
   rw [aL.c1,bZ h1,bF])
  k 0 (by omega) (by omega)
 have hk0:0<k:=by unfold len at hk; omega
 rcases H with ⟨j,a,b,c,_,e⟩ | ⟨a,e⟩
 ·refine Or.inl ⟨?_,j,a,b,c⟩
  unfold b7 aL;have e:aL.c1 k l f k 0=some (.inl j):=e;rw [e,bS,eE,bS,j3 (by omega)]
 ·refine Or.inr ⟨?_,a⟩
  unfold b7 aL;have e:aL.c1 k l f k 0=some (.inr ()):=e hk0;rw [e,bS,eW,bS];rfl
def C6 (l:List ay) (e:Int):Prop :=
 (len l > 8∧e=2)∨(len l<3∧e=3)∨(3≤len l∧len l≤8∧¬ kh l∧e=1) ∨
 (3≤len l∧len l≤8∧kh l∧¬ gR l∧e=3)∨(3≤len l∧len l≤8∧kh l∧gR l∧e=0)
theorem qF {l:List ay} {e f:Int} (h:C6 l e) (g:C6 l f):e=f:=by
 unfold C6 at *
 rcases h with h | h | h | h | h <;> rcases g with g | g | g | g | g <;> first | omega | (exact absurd h.2.2.1 g.2.2.1) | (exact absurd g.2.2.1 h.2.2.1) | (exact absurd h.2.2.2.1 g.2.2.2.1) | (exact absurd g.2.2.2.1 h.2.2.2.1)
theorem uw (k:Nat) {l:List ay} (hl:len l≤8) (hw:kh l) {i j:Int} (h0:0≤i) (h1:i<len l) (h2:0≤j) (h3:j<len l) :
  aA.c3 k l i j=some (decide (j≠i∧j≠nx (len l) i∧cV (q l i) (q l (nx (len l) i)) (q l j)≤0)):=by
 have hn:=dK h0 h1;have hz:nz (len l):=by unfold nz; omega
 unfold aA.c3;rw [gK h0 h1 (by omega)];have hs:eI k (el cH l i) (el cH l (nx (len l) i)) (el cH l j)=some (cV (q l i) (q l (nx (len l) i)) (q l j)):=yC k (hw i h0 h1) (hw _ hn.1 hn.2) (hw j h2 h3);rw [hs,rP hz,bS]
 by_cases a:j=i
 ·rw [dR a,bF]; simp [a]
 ·rw [gn a,bT]
  by_cases b:j=nx (len l) i
  ·rw [dR b,bF]
   have:¬ (j≠i∧j≠nx (len l) i∧cV (q l i) (q l (nx (len l) i)) (q l j)≤0):=fun h=>h.2.1 b;rw [decide_eq_false this]
  ·rw [gn b,bT]
   unfold jb;congr 1;rw [decide_eq_decide];exact ⟨fun h=>⟨a,b,h⟩,fun h=>h.2.2⟩
theorem uj {k:Nat} {l:List ay} (hl:len l≤8) (hk:9≤k) (hw:kh l) {i:Int} (h0:0≤i) (h1:i<len l) :
  (aA.c2 k l i k 0=some (.inl ())∧∃ j,0≤j∧j<len l∧(j≠i∧j≠nx (len l) i∧cV (q l i) (q l (nx (len l) i)) (q l j)≤0)) ∨
  (aA.c2 k l i k 0=some (.inr ())∧∀ j,0≤j→j<len l→¬ (j≠i∧j≠nx (len l) i∧cV (q l i) (q l (nx (len l) i)) (q l j)≤0)):=by
 have H:=fM (fun n v=>aA.c2 k l i n v) 0 (len l) (fun j=>j≠i∧j≠nx (len l) i∧cV (q l i) (q l (nx (len l) i)) (q l j)≤0) (fun _=>())
  (by
   intro n v h2 h3 h4;show aA.c2 k l i (n+1) v=_
   rw [aA.c2,bA h3,bT,rP (bu h2 h3),uw k hl hw h0 h1 h2 h3,bS,decide_eq_true h4,bT])
  (by
   intro n v h2 h3 h4;show aA.c2 k l i (n+1) v=aA.c2 k l i n (v+1)
   rw [aA.c2,bA h3,bT,rP (bu h2 h3),uw k hl hw h0 h1 h2 h3,bS,decide_eq_false h4,bF,aX (by omega) (by omega)])
  (by
   intro n v h2 h3;show aA.c2 k l i (n+1) v=_
   rw [aA.c2,bZ h3,bF])
  k 0 (by omega) (by omega)
 rcases H with ⟨j,a,b,c,_,e⟩ | ⟨a,e⟩
 ·exact Or.inl ⟨e,j,a,b,c⟩
 ·exact Or.inr ⟨e (by omega),a⟩
theorem uG {k:Nat} (hk:9≤k) (l:List ay):∃ e,aA k l=some e∧C6 l e:=by
 unfold aA
 by_cases c1:len l > 8
 ·rw [gM c1,bT]
  exact ⟨2,rfl,Or.inl ⟨c1,rfl⟩⟩
 rw [gG (by omega),bF]
 by_cases c2:len l<3
 ·rw [bA c2,bT]
  exact ⟨3,rfl,Or.inr (Or.inl ⟨c2,rfl⟩)⟩
 rw [bZ (by omega),bF];have hf:∀ x:ay,(fun x:(ay × Unit)=>dG k (x.1)) (x,())=some (!decide (Wn x)):=by
  intro x;show dG k x=_;unfold dG;rw [rZ,bS]
 rcases oJ (l:=l) (k:=k) (f:=fun x:(ay × Unit)=>dG k (x.1)) (by omega) (by omega) (g:=fun x=>!decide (Wn x)) hf with ⟨h,i,h0,h1,h2⟩ | ⟨h,h2⟩
 ·rw [h,bS,bT]
  refine ⟨1,rfl,Or.inr (Or.inr (Or.inl ⟨by omega,by omega,?_,rfl⟩))⟩;intro ha;have:=ha i h0 h1;simp [this] at h2
 rw [h,bS,bF];have hw:kh l:=by
  intro i h0 h1;have:=h2 i h0 h1
  simpa using this
 have H:=fM (fun n v=>aA.c1 k l n v) 0 (len l) (fun i=>∃ j,0≤j∧j<len l∧(j≠i∧j≠nx (len l) i∧cV (q l i) (q l (nx (len l) i)) (q l j)≤0)) (fun _=>())
  (by
   intro n v h2 h3 h4;show aA.c1 k l (n+1) v=_;have hn:=dK h2 h3;rw [aA.c1,bA h3,bT,rP (bu h2 h3),rP (show nz (len l) by unfold nz; omega),gK h2 h3 (by omega),rP (bu hn.1 hn.2)];rcases uj (k:=k) (by omega) hk hw h2 h3 with ⟨e,_⟩ | ⟨_,e⟩
   ·rw [e,bS,eE]
   ·obtain ⟨j,a,b,c⟩:=h4
    exact absurd c (e j a b))
  (by
   intro n v h2 h3 h4;show aA.c1 k l (n+1) v=aA.c1 k l n (v+1);have hn:=dK h2 h3;rw [aA.c1,bA h3,bT,rP (bu h2 h3),rP (show nz (len l) by unfold nz; omega),gK h2 h3 (by omega),rP (bu hn.1 hn.2)];rcases uj (k:=k) (by omega) hk hw h2 h3 with ⟨_,e⟩ | ⟨e,_⟩
   ·exact absurd e h4
   ·rw [e,bS,eW,aX (by omega) (by omega)])
  (by
   intro n v h2 h3;show aA.c1 k l (n+1) v=_
   rw [aA.c1,bZ h3,bF])
  k 0 (by omega) (by omega)
 rcases H with ⟨i,a,b,⟨j,c,d,f⟩,_,e⟩ | ⟨a,e⟩
 ·have e:aA.c1 k l k 0=some (.inl ()):=e
  rw [e,bS,eE];refine ⟨3,rfl,Or.inr (Or.inr (Or.inr (Or.inl ⟨by omega,by omega,hw,?_,rfl⟩)))⟩;intro he;have:=he i j a b c d f.1 f.2.1;omega
 ·have e:aA.c1 k l k 0=some (.inr ()):=e (by omega)
  rw [e,bS,eW];refine ⟨0,rfl,Or.inr (Or.inr (Or.inr (Or.inr ⟨by omega,by omega,hw,?_,rfl⟩)))⟩;intro i j h0 h1 h2 h3 h4 h5;rcases Int.lt_or_le 0 (cV (q l i) (q l (nx (len l) i)) (q l j)) with g | g
  ·exact g
  ·exact absurd ⟨j,h2,h3,h4,h5,g⟩ (a i h0 h1)
theorem zd {k:Nat} {l:List ay} (hl:len l≤8) (hk:9≤k) (hw:kh l) {i j:Int} (h0:0≤i) (h1:i<j) (h2:j<len l) :
  (aJ.c4 k l i j k (j+1)=some (.inl ())∧∃ m,j<m∧m<len l∧cV (q l i) (q l j) (q l m)≤0) ∨
  (aJ.c4 k l i j k (j+1)=some (.inr ())∧∀ m,j<m→m<len l→¬ cV (q l i) (q l j) (q l m)≤0):=by
 have hlf:∀ v,j+1≤v→v<len l→eJ k (el cH l i) (el cH l j) (el cH l v)=some (iz (cV (q l i) (q l j) (q l v)) 0):=by
  intro v a b;exact j7 hk (hw i h0 (by omega)) (hw j (by omega) h2) (hw v (by omega) b)
 have hc:∀ x:Int,jb (iz x 0) 0=decide (x≤0):=by
  intro x;rcases Int.lt_trichotomy x 0 with g | g | g
  ·rw [gO g,decide_eq_true (by omega)]; rfl
  ·rw [ia g,decide_eq_true (by omega)]; rfl
  ·rw [gN g,decide_eq_false (by omega)]; rfl
 have H:=fM (fun n v=>aJ.c4 k l i j n v) (j+1) (len l) (fun m=>cV (q l i) (q l j) (q l m)≤0) (fun _=>())
  (by
   intro n v a b c;show aJ.c4 k l i j (n+1) v=_
   rw [aJ.c4,bA b,bT,rP (bu h0 (by omega)),rP (bu (by omega) h2),rP (bu (by omega) b),hlf v a b,bS,hc,decide_eq_true c,bT])
  (by
   intro n v a b c;show aJ.c4 k l i j (n+1) v=aJ.c4 k l i j n (v+1)
   rw [aJ.c4,bA b,bT,rP (bu h0 (by omega)),rP (bu (by omega) h2),rP (bu (by omega) b),hlf v a b,bS,hc,decide_eq_false c,bF,aX (by omega) (by omega)])
  (by
   intro n v a b;show aJ.c4 k l i j (n+1) v=_
   rw [aJ.c4,bZ b,bF])
  k (j+1) (by omega) (by omega)
 rcases H with ⟨m,a,b,c,_,e⟩ | ⟨a,e⟩
 ·exact Or.inl ⟨e,m,by omega,b,c⟩
 ·exact Or.inr ⟨e (by omega),fun m x y=>a m (by omega) y⟩
theorem yd {k:Nat} {l:List ay} (hl:len l≤8) (hk:9≤k) (hw:kh l) {i:Int} (h0:0≤i) (h1:i<len l) :
  (aJ.c3 k l i k (i+1)=some (.inl ())∧∃ j m,i<j∧j<m∧m<len l∧cV (q l i) (q l j) (q l m)≤0) ∨
  (aJ.c3 k l i k (i+1)=some (.inr ())∧∀ j m,i<j→j<m→m<len l→¬ cV (q l i) (q l j) (q l m)≤0):=by
 have H:=fM (fun n v=>aJ.c3 k l i n v) (i+1) (len l) (fun j=>∃ m,j<m∧m<len l∧cV (q l i) (q l j) (q l m)≤0) (fun _=>())
  (by
   intro n v a b c;show aJ.c3 k l i (n+1) v=_;rw [aJ.c3,bA b,bT,aX (by omega) (by omega)];rcases zd hl hk hw h0 (show i<v by omega) b with ⟨e,_⟩ | ⟨_,e⟩
   ·rw [e,bS,eE]
   ·obtain ⟨m,x,y,z⟩:=c
    exact absurd z (e m x y))
  (by
   intro n v a b c;show aJ.c3 k l i (n+1) v=aJ.c3 k l i n (v+1);rw [aJ.c3,bA b,bT,aX (by omega) (by omega)];rcases zd hl hk hw h0 (show i<v by omega) b with ⟨_,e⟩ | ⟨e,_⟩
   ·exact absurd e c
   ·rw [e,bS,eW])
  (by
   intro n v a b;show aJ.c3 k l i (n+1) v=_
   rw [aJ.c3,bZ b,bF])
  k (i+1) (by omega) (by omega)
 rcases H with ⟨j,a,b,⟨m,c,d,f⟩,_,e⟩ | ⟨a,e⟩
 ·exact Or.inl ⟨e,j,m,by omega,c,d,f⟩
 ·exact Or.inr ⟨e (by omega),fun j m x y z w=>a j (by omega) (by omega) ⟨m,y,z,w⟩⟩
theorem DC {k:Nat} (hk:9≤k) (l:List ay):∃ e,aJ k l=some e∧C6 l e:=by
 unfold aJ
 by_cases c1:len l > 8
 ·rw [gM c1,bT]
  exact ⟨2,rfl,Or.inl ⟨c1,rfl⟩⟩
 rw [gG (by omega),bF]
 by_cases c2:len l<3
 ·rw [bA c2,bT]
  exact ⟨3,rfl,Or.inr (Or.inl ⟨c2,rfl⟩)⟩
 rw [bZ (by omega),bF];have hco:∀ v,dZ k (el cH l v) 65536000=some (decide (Wn (q l v))):=fun v=>jO k _ 65536000 (by decide) (by decide);have H:=fM (fun n v=>aJ.c1 k l n v) 0 (len l) (fun i=>¬ Wn (q l i)) (fun _=>())
  (by
   intro n v a b c;show aJ.c1 k l (n+1) v=_
   rw [aJ.c1,bA b,bT,rP (bu a b),hco,bS,decide_eq_false c,bF])
  (by
   intro n v a b c;show aJ.c1 k l (n+1) v=aJ.c1 k l n (v+1)
   rw [aJ.c1,bA b,bT,rP (bu a b),hco,bS,decide_eq_true (Decidable.not_not.mp c),bT,aX (by omega) (by omega)])
  (by
   intro n v a b;show aJ.c1 k l (n+1) v=_
   rw [aJ.c1,bZ b,bF])
  k 0 (by omega) (by omega)
 rcases H with ⟨i,a,b,c,_,e⟩ | ⟨a,e⟩
 ·have e:aJ.c1 k l k 0=some (.inl ()):=e
  rw [e,bS,eE];exact ⟨1,rfl,Or.inr (Or.inr (Or.inl ⟨by omega,by omega,fun h=>c (h i a b),rfl⟩))⟩
 have e:aJ.c1 k l k 0=some (.inr ()):=e (by omega);rw [e,bS,eW];have hw:kh l:=fun i h0 h1=>Decidable.not_not.mp (a i h0 h1);have H:=fM (fun n v=>aJ.c2 k l n v) 0 (len l) (fun i=>∃ j m,i<j∧j<m∧m<len l∧cV (q l i) (q l j) (q l m)≤0) (fun _=>())
  (by
   intro n v a b c;show aJ.c2 k l (n+1) v=_;rw [aJ.c2,bA b,bT,aX (by omega) (by omega)];rcases yd (by omega) hk hw a b with ⟨e,_⟩ | ⟨_,e⟩
   ·rw [e,bS,eE]
   ·obtain ⟨j,m,x,y,z,w⟩:=c
    exact absurd w (e j m x y z))
  (by
   intro n v a b c;show aJ.c2 k l (n+1) v=aJ.c2 k l n (v+1);rw [aJ.c2,bA b,bT,aX (by omega) (by omega)];rcases yd (by omega) hk hw a b with ⟨_,e⟩ | ⟨e,_⟩
   ·exact absurd e c
   ·rw [e,bS,eW])
  (by
   intro n v a b;show aJ.c2 k l (n+1) v=_
   rw [aJ.c2,bZ b,bF])
  k 0 (by omega) (by omega)
 rcases H with ⟨i,a,b,⟨j,m,c,d,f,g⟩,_,e⟩ | ⟨a,e⟩
 ·have e:aJ.c2 k l k 0=some (.inl ()):=e
  rw [e,bS,eE];refine ⟨3,rfl,Or.inr (Or.inr (Or.inr (Or.inl ⟨by omega,by omega,hw,?_,rfl⟩)))⟩;intro he;have:=lM he i j m a c d f;omega
 ·have e:aJ.c2 k l k 0=some (.inr ()):=e (by omega)
  rw [e,bS,eW];refine ⟨0,rfl,Or.inr (Or.inr (Or.inr (Or.inr ⟨by omega,by omega,hw,AO ?_,rfl⟩)))⟩;intro i j m h0 h1 h2 h3;rcases Int.lt_or_le 0 (cV (q l i) (q l j) (q l m)) with g | g
  ·exact g
  ·exact absurd ⟨j,m,h1,h2,h3,g⟩ (a i h0 (by omega))
end Go.Proofs.T1
namespace Go.Proofs.T1
open Go Go.Sx
def cr (a b:ay):Int:=a.1*b.2.1 - a.2.1*b.1
def Hp (l:List ay):Nat→Int
 | 0=>0
 | n+1=>Hp l n+cr (q l n) (q l (n+1))
def sh (l:List ay) (v:Int):Int:=Hp l v.toNat
def Hq (l:List ay):Int:=sh l (len l - 1)+cr (q l (len l - 1)) (q l 0)
def ju (l:List ay):Prop:=3≤len l∧len l≤8∧kh l∧gR l
theorem uV {l:List ay} (h:C6 l 0):ju l:=by
 unfold C6 at h;rcases h with h | h | h | h | h
 ·omega
 ·omega
 ·omega
 ·omega
 ·exact ⟨h.1,h.2.1,h.2.2.1,h.2.2.2.1⟩
theorem yp {l:List ay} (h:ju l):C6 l 0:=Or.inr (Or.inr (Or.inr (Or.inr ⟨h.1,h.2.1,h.2.2.1,h.2.2.2,rfl⟩)))
theorem lY {k:Nat} (hk:9≤k) {l:List ay} (h:ju l):aA k l=some 0:=by
 obtain ⟨e,h1,h2⟩:=uG hk l;rw [h1,qF h2 (yp h)]
open Classical in
theorem DH {k:Nat} (hk:9≤k) {l:List ay} (hv:ju l) (p:ay):bw k l p=some (decide (Wn p∧lj l p)):=by
 unfold bw bw.c1;rw [lY hk hv,bS,dR rfl,bF,rZ,bS,bS]
 by_cases hp:Wn p
 ·rw [decide_eq_true hp]
  show aM false _ _=_;rw [bF];have hs:∀ v,0≤v→v<len l→eI k (el cH l v) (el cH l (nx (len l) v)) p=some (cV (q l v) (q l (nx (len l) v)) p):=by
   intro v a b;have hn:=dK a b;exact yC k (hv.2.2.1 v a b) (hv.2.2.1 _ hn.1 hn.2) hp
  have h8:=hv.2.1;have H:=fM (fun n v=>bw.c2 k l p n v) 0 (len l) (fun v=>cV (q l v) (q l (nx (len l) v)) p<0) (fun _=>())
   (by
    intro n v a b c;have hn:=dK a b;show bw.c2 k l p (n+1) v=_
    rw [bw.c2,bA b,bT,rP (bu a b),rP (show nz (len l) by unfold nz; omega),gK a b (by omega),rP (bu hn.1 hn.2),hs v a b,bS,bA c,bT])
   (by
    intro n v a b c;have hn:=dK a b;show bw.c2 k l p (n+1) v=bw.c2 k l p n (v+1)
    rw [bw.c2,bA b,bT,rP (bu a b),rP (show nz (len l) by unfold nz; omega),gK a b (by omega),rP (bu hn.1 hn.2),hs v a b,bS,bZ (by omega),bF,aX (by omega) (by omega)])
   (by
    intro n v a b;show bw.c2 k l p (n+1) v=_
    rw [bw.c2,bZ b,bF])
   k 0 (by omega) (by omega)
  rcases H with ⟨i,a,b,c,_,e⟩ | ⟨a,e⟩
  ·have e:bw.c2 k l p k 0=some (.inl ()):=e
   rw [e,bS,eE,decide_eq_false];intro h;have:=h.2 i a b;omega
  ·have e:bw.c2 k l p k 0=some (.inr ()):=e (by omega)
   rw [e,bS,eW,decide_eq_true];refine ⟨hp,fun i x y=>?_⟩;have:=a i x y;omega
 ·rw [decide_eq_false hp]
  show aM true _ _=_;rw [bT,decide_eq_false (fun h=>hp h.1)]
open Classical in
theorem qK {k:Nat} (hk:9≤k) {l:List ay} (hv:ju l) (p:ay):aY k l p=some (decide (Wn p∧Ai l p)):=by
 unfold aY;rw [jO k p 65536000 (by decide) (by decide),bS];show aM (decide (Wn p)) _ _=_
 by_cases hp:Wn p
 ·rw [decide_eq_true hp,bT]
  have h8:=hv.2.1;have hc:∀ x:Int,hG (iz x 0) 0=decide (0≤x):=by
   intro x;rcases Int.lt_trichotomy x 0 with g | g | g
   ·rw [gO g,decide_eq_false (by omega)]; rfl
   ·rw [ia g,decide_eq_true (by omega)]; rfl
   ·rw [gN g,decide_eq_true (by omega)]; rfl
  have hc2:∀ v,2≤v→v<len l→aY.c2 k l p v=some (decide (0≤cV (q l 0) (q l (v - 1)) p∧0≤cV (q l (v - 1)) (q l v) p∧0≤cV (q l v) (q l 0) p)):=by
   intro v a b;have w0:=hv.2.2.1 0 (by omega) (by omega);have w1:=hv.2.2.1 (v - 1) (by omega) (by omega);have w2:=hv.2.2.1 v (by omega) (by omega);have l1:eJ k (el cH l 0) (el cH l (v - 1)) p=some (iz (cV (q l 0) (q l (v - 1)) p) 0):=j7 hk w0 w1 hp;have l2:eJ k (el cH l (v - 1)) (el cH l v) p=some (iz (cV (q l (v - 1)) (q l v) p) 0):=j7 hk w1 w2 hp;have l3:eJ k (el cH l v) (el cH l 0) p=some (iz (cV (q l v) (q l 0) p) 0):=j7 hk w2 w0 hp;unfold aY.c2;rw [cR (by omega) (by omega),rP (bu (by omega) (by omega)),rP (bu (by omega) (by omega)),l1,bS,hc,rP (bu (by omega) (by omega)),l2,bS,hc,l3,bS,hc]
   by_cases x:0≤cV (q l 0) (q l (v - 1)) p <;> by_cases y:0≤cV (q l (v - 1)) (q l v) p <;> simp [x,y,aM]
  have H:=fM (fun n v=>aY.c1 k l p n v) 2 (len l) (fun v=>0≤cV (q l 0) (q l (v - 1)) p∧0≤cV (q l (v - 1)) (q l v) p∧0≤cV (q l v) (q l 0) p) (fun _=>())
   (by
    intro n v a b c;show aY.c1 k l p (n+1) v=_
    rw [aY.c1,bA b,bT,hc2 v a b,bS,decide_eq_true c,bT])
   (by
    intro n v a b c;show aY.c1 k l p (n+1) v=aY.c1 k l p n (v+1)
    rw [aY.c1,bA b,bT,hc2 v a b,bS,decide_eq_false c,bF,aX (by omega) (by omega)])
   (by
    intro n v a b;show aY.c1 k l p (n+1) v=_
    rw [aY.c1,bZ b,bF])
   k 2 (by omega) (by omega)
  rcases H with ⟨i,a,b,c,_,e⟩ | ⟨a,e⟩
  ·have e:aY.c1 k l p k 2=some (.inl ()):=e
   rw [e,bS,eE,decide_eq_true];exact ⟨hp,i,a,b,c⟩
  ·have e:aY.c1 k l p k 2=some (.inr ()):=e (by omega)
   rw [e,bS,eW,decide_eq_false];intro ⟨_,i,x,y,z⟩;exact a i x y z
 ·rw [decide_eq_false hp,bF,decide_eq_false (fun h=>hp h.1)]
end Go.Proofs.T1
namespace Go.Proofs.T1
open Go Go.Sx
def dt (a b:ay):Int:=a.1*b.1+a.2.1*b.2.1
theorem lk {a d:ay} (ha:Wn a) (h3:jd d.1) (h4:jd d.2.1):-1208925819614629174706176000≤dt a d∧dt a d≤1208925819614629174706176000:=by
 unfold dt Wn jd at *
 have h1:=ek (x:=a.1) (y:=d.1) (M:=65536000) (N:=9223372036854775808) (by omega) (by omega) (by omega) (by omega);have h2:=ek (x:=a.2.1) (y:=d.2.1) (M:=65536000) (N:=9223372036854775808) (by omega) (by omega) (by omega) (by omega);omega
theorem CU (k:Nat) {a d:ay} (ha:Wn a) (h3:jd d.1) (h4:jd d.2.1):∃ c,fG k a d=some c∧nO c∧wv c=dt a d:=by
 have hr:=lk ha h3 h4;unfold Wn jd at *
 obtain ⟨x,e1,o1,v1⟩:=lu k (a:=a.1) (b:=d.1) (by omega) (by omega) h3.1 h3.2;obtain ⟨y,e2,o2,v2⟩:=lu k (a:=a.2.1) (b:=d.2.1) (by omega) (by omega) h4.1 h4.2;obtain ⟨c,e3,o3,v3⟩:=DF k o1 o2;refine ⟨c,?_,o3,?_⟩
 ·unfold fG
  rw [e1,bS,e2,bS,e3,bS]
 ·rw [v1,v2] at v3
  have:a.1*d.1+a.2.1*d.2.1=dt a d:=rfl;rw [this] at v3;unfold nO at o3;have hc:wv c=c.1*18446744073709551616+c.2.1:=rfl;omega
theorem Hk (k:Nat) {a b d:ay} (ha:Wn a) (hb:Wn b) (h3:jd d.1) (h4:jd d.2.1) {α:Type} (f:Int→Option α) :
  (bB (fG k a d) fun y8=>bB (fG k b d) fun y11=>bB (bt k y8 y11) f)=f (iz (dt a d) (dt b d)):=by
 obtain ⟨x,e1,o1,v1⟩:=CU k ha h3 h4;obtain ⟨y,e2,o2,v2⟩:=CU k hb h3 h4;rw [e1,bS,e2,bS,D4 k o1 o2,bS,v1,v2]
def xS (l:List ay) (d:ay) (b:Int):Prop:=0≤b∧b<len l∧∀ j,0≤j→j<len l→dt (q l j) d<dt (q l b) d∨(dt (q l j) d=dt (q l b) d∧b≤j)
theorem uF {l:List ay} {d:ay} {b c:Int} (hb:xS l d b) (hc:xS l d c):b=c:=by
 have h1:=hb.2.2 c hc.1 hc.2.1;have h2:=hc.2.2 b hb.1 hb.2.1;omega
theorem Be {k:Nat} (hk:9≤k) {l:List ay} (hv:ju l) {d:ay} (h3:jd d.1) (h4:jd d.2.1):∃ b,bm k l d=some b∧xS l d b:=by
 have h8:=hv.2.1;have hl3:=hv.1;have H:=gS (fun n s v=>bm.c1 k l d n s v) 0 (len l) (fun b v=>0≤b∧(b<v∨v=0∧b=0)∧∀ j,0≤j→j<v→dt (q l j) d<dt (q l b) d∨(dt (q l j) d=dt (q l b) d∧b≤j))
  (by
   intro n s v a b ⟨c,e,f⟩;have hd:=Hk k (a:=q l v) (b:=q l s) (d:=d) (hv.2.2.1 v a b) (hv.2.2.1 s c (by omega)) h3 h4 (fun y13=>aM (kZ y13 0) (bm.c1 k l d n v (ao .i64 v 1)) (bm.c1 k l d n s (ao .i64 v 1)));have hu:bm.c1 k l d (n+1) s v=aM (kZ (iz (dt (q l v) d) (dt (q l s) d)) 0) (bm.c1 k l d n v (ao .i64 v 1)) (bm.c1 k l d n s (ao .i64 v 1)):=by
    have hin:gi s l:=bu c (by omega);rw [bm.c1,bA b,bT,rP (bu a b)];simp only [rP hin];exact hd
   rw [aX (by omega) (by omega)] at hu
   by_cases g:dt (q l s) d<dt (q l v) d
   ·rw [gN g] at hu
    refine ⟨v,⟨a,Or.inl (by omega),?_⟩,hu⟩;intro j j0 j1
    by_cases hj:j=v
    ·subst hj; exact Or.inr ⟨rfl,by omega⟩
    ·have:=f j j0 (by omega)
     exact Or.inl (by omega)
   ·have h5:kZ (iz (dt (q l v) d) (dt (q l s) d)) 0=false:=by
     rcases Int.lt_trichotomy (dt (q l v) d) (dt (q l s) d) with x | x | x
     ·rw [gO x]; rfl
     ·rw [ia x]; rfl
     ·exact absurd x g
    rw [h5,bF] at hu;refine ⟨s,⟨c,Or.inl (by omega),?_⟩,hu⟩;intro j j0 j1
    by_cases hj:j=v
    ·subst hj
     rcases Int.lt_trichotomy (dt (q l j) d) (dt (q l s) d) with x | x | x
     ·exact Or.inl x
     ·exact Or.inr ⟨x,by omega⟩
     ·exact absurd x g
    ·exact f j j0 (by omega))
  (by
   intro n s v a b;show bm.c1 k l d (n+1) s v=some s
   rw [bm.c1,bZ b,bF])
  k 0 0 (by omega) (by omega) (by omega) ⟨by omega,Or.inr ⟨rfl,rfl⟩,fun j x y=>by omega⟩
 obtain ⟨s,⟨a,b,c⟩,e⟩:=H;have e:bm.c1 k l d k 0 0=some s:=e;refine ⟨s,?_,a,by omega,c⟩;unfold bm;rw [lY hk hv,bS,dR rfl,bF,e,bS]
theorem GU {k:Nat} (hk:9≤k) {a b d:ay} (ha:Wn a) (hb:Wn b) (h3:jd d.1) (h4:jd d.2.1) {α:Type} (f:Int→Option α) :
  (bB (fz k a d) fun y8=>bB (fz k b d) fun y11=>bB (bo k y8 y11) f)=f (iz (dt a d) (dt b d)):=by
 have r1:=lk ha h3 h4;have r2:=lk hb h3 h4;obtain ⟨x,e1,o1⟩:=wY hk (a:=a) (b:=d) (by unfold Wn jd at *; omega) (by unfold Wn jd at *; omega) h3 h4;obtain ⟨y,e2,o2⟩:=wY hk (a:=b) (b:=d) (by unfold Wn jd at *; omega) (by unfold Wn jd at *; omega) h3 h4;have s1:SR (a.1*d.1+a.2.1*d.2.1):=by unfold SR; unfold dt at r1; omega
 have s2:SR (b.1*d.1+b.2.1*d.2.1):=by unfold SR; unfold dt at r2; omega
 rw [e1,bS,e2,bS,wz hk o1 o2 s1 s2,bS];rfl
theorem A5 {k:Nat} (hk:9≤k) {l:List ay} (hl:len l≤8) (hw:kh l) {d:ay} (h3:jd d.1) (h4:jd d.2.1) {i:Int} (h0:0≤i) (h1:i<len l) :
  ∃ b:Bool,bQ.c2 k l d i k true 0=some b∧(b=true↔∀ j,0≤j→j<len l→dt (q l j) d<dt (q l i) d∨(dt (q l j) d=dt (q l i) d∧i≤j)):=by
 have H:=gS (fun n s v=>bQ.c2 k l d i n s v) 0 (len l) (fun (b:Bool) v=>b=true↔∀ j,0≤j→j<v→dt (q l j) d<dt (q l i) d∨(dt (q l j) d=dt (q l i) d∧i≤j))
  (by
   intro n s v a b hs
   have hu:=GU hk (a:=q l v) (b:=q l i) (d:=d) (hw v a b) (hw i h0 h1) h3 h4 (fun y12=>aM s
    (aM (eK y12 0)
    (bQ.c2 k l d i n true (ao .i64 v 1))
    (aM (gB y12 0)
     (bQ.c2 k l d i n (hG v i) (ao .i64 v 1))
     (bQ.c2 k l d i n false (ao .i64 v 1))))
    (bQ.c2 k l d i n false (ao .i64 v 1)))
   rw [aX (by omega) (by omega)] at hu
   have hu2:bQ.c2 k l d i (n+1) s v=_:=Eq.trans (by
    rw [bQ.c2,bA b,bT,rP (bu a b),aX (by omega) (by omega)]
    rfl) hu
   show ∃ s',_∧bQ.c2 k l d i (n+1) s v=bQ.c2 k l d i n s' (v+1);rw [hu2];have split:∀ t:Bool,(t=true↔(s=true∧(dt (q l v) d<dt (q l i) d∨(dt (q l v) d=dt (q l i) d∧i≤v))))→(t=true↔∀ j,0≤j→j<v+1→dt (q l j) d<dt (q l i) d∨(dt (q l j) d=dt (q l i) d∧i≤j)):=by
    intro t ht;rw [ht,hs];constructor
    ·intro ⟨x,y⟩ j j0 j1
     by_cases hj:j=v
     ·subst hj; exact y
     ·exact x j j0 (by omega)
    ·intro x
     exact ⟨fun j j0 j1=>x j j0 (by omega),x v a (by omega)⟩
   cases s with
   | false=>exact ⟨false,split false (by simp),rfl⟩
   | true =>
    rcases Int.lt_trichotomy (dt (q l v) d) (dt (q l i) d) with x | x | x
    ·rw [gO x]
     exact ⟨true,split true (by simp; omega),rfl⟩
    ·rw [ia x]
     exact ⟨hG v i,split _ (by unfold hG; simp; omega),rfl⟩
    ·rw [gN x]
     exact ⟨false,split false (by simp; omega),rfl⟩)
  (by
   intro n s v a b;show bQ.c2 k l d i (n+1) s v=some s
   rw [bQ.c2,bZ b,bF])
  k true 0 (by omega) (by omega) (by omega) (by simp; intro j x y; omega)
 obtain ⟨s,a,e⟩:=H;exact ⟨s,e,a⟩
theorem yr {k:Nat} (hk:9≤k) {l:List ay} (hl:len l≤8) (hw:kh l) {d:ay} (h3:jd d.1) (h4:jd d.2.1) {b:Int} (hb:xS l d b):bQ k l d=some b:=by
 have H:=fM (fun n v=>bQ.c1 k l d n v) 0 (len l) (fun i=>∀ j,0≤j→j<len l→dt (q l j) d<dt (q l i) d∨(dt (q l j) d=dt (q l i) d∧i≤j)) (fun i=>i)
  (by
   intro n v x y z;obtain ⟨t,e1,e2⟩:=A5 hk hl hw h3 h4 x y;show bQ.c1 k l d (n+1) v=_
   rw [bQ.c1,bA y,bT,rP (bu x y),e1,bS,e2.2 z,bT])
  (by
   intro n v x y z;obtain ⟨t,e1,e2⟩:=A5 hk hl hw h3 h4 x y;have ht:t=false:=by
    cases t
    ·rfl
    ·exact absurd (e2.1 rfl) z
   show bQ.c1 k l d (n+1) v=bQ.c1 k l d n (v+1)
   rw [bQ.c1,bA y,bT,rP (bu x y),e1,bS,ht,bF,aX (by omega) (by omega)])
  (by
   intro n v x y;show bQ.c1 k l d (n+1) v=_
   rw [bQ.c1,bZ y,bF])
  k 0 (by omega) (by omega)
 rcases H with ⟨i,x,y,z,_,e⟩ | ⟨x,_⟩
 ·have e:bQ.c1 k l d k 0=some (.inl i):=e
  unfold bQ;rw [e,bS,eE,uF hb ⟨x,y,z⟩]
 ·exact absurd hb.2.2 (x b hb.1 hb.2.1)
end Go.Proofs.T1
