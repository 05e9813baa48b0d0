import Derived.Test.YtipddonkkhjegaaGreatPlMid
import Derived.Test.YtipddonkkhjegaaGreatG3
import Derived.Test.YtipddonkkhjegaaGreatG13
namespace Go.Proofs.T1
open Go Go.Sx
def Rt (n r:Int):Prop:=0≤r∧r*r≤n∧n<(r+1)*(r+1)
theorem qa {a b:Int} (ha:0≤a) (hb:0≤b) (h:a*a<b*b):a<b:=by
 rcases Int.lt_or_le a b with c | c
 ·exact c
 ·have:=Int.mul_le_mul c c hb ha
  omega
theorem EK {a b:Int} (ha:0≤a) (h:a≤b):a*a≤b*b:=Int.mul_le_mul h h ha (by omega)
theorem Ec {n r s:Int} (h:Rt n r) (g:Rt n s):r=s:=by
 have a:=qa (a:=r) (b:=s+1) h.1 (by have:=g.1; omega) (by have:=h.2.1; have:=g.2.2; omega);have b:=qa (a:=s) (b:=r+1) g.1 (by have:=h.1; omega) (by have:=g.2.1; have:=h.2.2; omega);omega
theorem jV {x y:Int} (hx:0≤x) (hx':x≤9223372036854775807) (hy:0<y):fA .i64 x y=x / y:=by
 unfold fA;rw [Int.tdiv_eq_ediv_of_nonneg hx];have h1:0≤x / y:=Int.ediv_nonneg hx (by omega);have h2:x / y≤x:=by
  have:=Int.ediv_le_self (b:=y) hx;omega
 exact wrap_i64 (by omega) (by omega)
theorem DQ (k:Nat) {n:Int} (h0:0≤n):∀ (m f:Nat) (v1 v2:Int),m<f→0≤v1→v1<v2→v2≤2147483648→v1*v1≤n→n<v2*v2→v2 - v1≤2 ^ m →
  ∃ r,cN.c1 k n f v1 v2=some r∧Rt n r:=by
 intro m
 induction m with
 | zero =>
  intro f v1 v2 hf a b c d e g;obtain ⟨f,rfl⟩:∃ j,f=j+1:=⟨f - 1,by omega⟩;have:v2=v1+1:=by simp at g; omega
  subst this;rw [cN.c1,cR (by omega) (by omega),gG (by omega),bF];exact ⟨_,rfl,a,d,e⟩
 | succ m ih =>
  intro f v1 v2 hf a b c d e g;obtain ⟨f,rfl⟩:∃ j,f=j+1:=⟨f - 1,by omega⟩;rw [cN.c1,cR (by omega) (by omega)]
  by_cases h:v2 - v1 > 1
  ·rw [gM h,bT,aX (by omega) (by omega),jV (by omega) (by omega) (by decide)]
   have p:=ek (x:=(v1+v2) / 2) (y:=(v1+v2) / 2) (M:=2147483648) (N:=2147483648) (by omega) (by omega) (by omega) (by omega);rw [eB (by omega) (by omega)];have e2:(2:Int) ^ (m+1)=2*2 ^ m:=by rw [Int.pow_succ]; omega
   rw [e2] at g
   by_cases q:(v1+v2) / 2*((v1+v2) / 2)≤n
   ·rw [iJ q,bT]
    exact ih f _ _ (by omega) (by omega) (by omega) c q e (by omega)
   ·rw [iI (by omega),bF]
    exact ih f _ _ (by omega) a (by omega) (by omega) d (by omega) (by omega)
  ·have:v2=v1+1:=by omega
   subst this;rw [gG (by omega),bF];exact ⟨_,rfl,a,d,e⟩
theorem uR {k:Nat} (hk:40≤k) {n:Int} (h0:0≤n) (h1:n≤2305843009213693952):∃ r,cN k n=some r∧Rt n r:=by
 obtain ⟨r,e,h⟩:=DQ k h0 31 k 0 2147483648 (by omega) (by decide) (by decide) (by decide) (by omega) (by omega) (by decide);exact ⟨r,by unfold cN; rw [e,bS],h⟩
theorem Bg (k:Nat) {n:Int} (h0:0≤n):∀ (j f:Nat) (v:Int),j+1<f→j≤30→0≤v→v+2 ^ (j+1)≤2147483648→v*v≤n→n<(v+2 ^ (j+1))*(v+2 ^ (j+1)) →
  ∃ r,ct.c1 k n f v (2 ^ j)=some r∧Rt n r:=by
 intro j
 induction j with
 | zero =>
  intro f v hf hj a b c d;obtain ⟨f,rfl⟩:∃ i,f=i+2:=⟨f - 2,by omega⟩;simp only [Int.pow_succ,Int.pow_zero,Int.one_mul] at b d ⊢;rw [ct.c1,gM (by decide),bT];unfold ct.c2;have p:=ek (x:=v+1) (y:=v+1) (M:=2147483648) (N:=2147483648) (by omega) (by omega) (by omega) (by omega);rw [aX (by omega) (by omega),eB (by omega) (by omega)];have q:fA .i64 1 2=0:=by rw [jV (by decide) (by decide) (by decide)]; decide
  by_cases g:(v+1)*(v+1)≤n
  ·rw [iJ g,bT,bS,q,ct.c1,gG (by decide),bF]
   exact ⟨_,rfl,by omega,g,by rw [show v+1+1=v+2 by omega]; exact d⟩
  ·rw [iI (by omega),bF,bS,q,ct.c1,gG (by decide),bF]
   exact ⟨_,rfl,a,c,by omega⟩
 | succ j ih =>
  intro f v hf hj a b c d;obtain ⟨f,rfl⟩:∃ i,f=i+1:=⟨f - 1,by omega⟩;have e2:(2:Int) ^ (j+1+1)=2*2 ^ (j+1):=by rw [Int.pow_succ]; omega
  have e3:(2:Int) ^ (j+1)=2*2 ^ j:=by rw [Int.pow_succ]; omega
  have p0:(0:Int)<2 ^ j:=Int.pow_pos (by decide);rw [e2] at b d;rw [ct.c1,gM (by omega),bT];unfold ct.c2;have p:=ek (x:=v+2 ^ (j+1)) (y:=v+2 ^ (j+1)) (M:=2147483648) (N:=2147483648) (by omega) (by omega) (by omega) (by omega);have q:fA .i64 (2 ^ (j+1)) 2=2 ^ j:=by rw [jV (by omega) (by omega) (by decide)]; omega
  rw [aX (by omega) (by omega),eB (by omega) (by omega)]
  by_cases g:(v+2 ^ (j+1))*(v+2 ^ (j+1))≤n
  ·rw [iJ g,bT,bS,q]
   exact ih f _ (by omega) (by omega) (by omega) (by omega) g (by rw [show v+2 ^ (j+1)+2 ^ (j+1)=v+2*2 ^ (j+1) by omega]; exact d)
  ·rw [iI (by omega),bF,bS,q]
   exact ih f _ (by omega) (by omega) a (by omega) c (by omega)
theorem BW {k:Nat} (hk:40≤k) {n:Int} (h0:0≤n) (h1:n≤2305843009213693952):∃ r,ct k n=some r∧Rt n r:=by
 obtain ⟨r,e,h⟩:=Bg k h0 30 k 0 (by omega) (by decide) (by decide) (by decide) (by omega) (by simp; omega);refine ⟨r,?_,h⟩;unfold ct;have e':ct.c1 k n k 0 1073741824=some r:=e;rw [e',bS]
theorem DD (k:Nat) {hi lo N:Int} (hN:N=hi*18446744073709551616+lo) (h0:0≤hi) (l0:0≤lo) (l1:lo≤18446744073709551615):∀ (j f:Nat) (a:Int),j+1<f→j≤63→0≤a→a*2 ^ (j+1)+2 ^ (j+1)≤18446744073709551616 →
  (a*2 ^ (j+1))*(a*2 ^ (j+1))≤N→N<(a*2 ^ (j+1)+2 ^ (j+1))*(a*2 ^ (j+1)+2 ^ (j+1)) →
  ∃ r,bk.c1 k hi lo f (a*2 ^ (j+1)) (2 ^ j)=some r∧Rt N r∧r≤18446744073709551615:=by
 have cmp:∀ x:Int,0≤x→x≤18446744073709551615→dq k x x=some (x*x / 18446744073709551616,x*x % 18446744073709551616) ∧
   bk.c2 k hi lo (x*x / 18446744073709551616,x*x % 18446744073709551616)=some (decide (x*x≤N)):=by
  intro x x0 x1;refine ⟨lx k x0 x1 x0 x1,?_⟩;unfold bk.c2;dsimp only;generalize x*x=y
  by_cases c:y / 18446744073709551616<hi
  ·rw [bA c,bT,decide_eq_true (by omega)]
  ·rw [bZ (by omega),bF]
   by_cases d:y / 18446744073709551616=hi
   ·rw [fw d,bT]
    unfold jb;congr 1;rw [decide_eq_decide];omega
   ·rw [fl d,bF,decide_eq_false (by omega)]
 intro j
 induction j with
 | zero =>
  intro f a hf hj a0 b c d;obtain ⟨f,rfl⟩:∃ i,f=i+2:=⟨f - 2,by omega⟩;have o:bJ .or .u64 (a*2 ^ (0+1)) (2 ^ 0)=a*2 ^ (0+1)+2 ^ 0:=sO (by decide) a0 (by omega) (by decide) (by decide);simp only [Int.pow_succ,Int.pow_zero,Int.one_mul,Nat.zero_add] at b c d o ⊢;rw [bk.c1,gM (by decide),bT,o,(cmp _ (by omega) (by omega)).1,bS,(cmp _ (by omega) (by omega)).2,bS];unfold bk.c3;have q:cJ .u64 1 1=0:=by decide
  rw [q]
  by_cases g:(a*2+1)*(a*2+1)≤N
  ·rw [decide_eq_true g,bT,bS,o,bk.c1,gG (by decide),bF]
   exact ⟨_,rfl,⟨by omega,g,by rw [show a*2+1+1=a*2+2 by omega]; exact d⟩,by omega⟩
  ·rw [decide_eq_false g,bF,bS,bk.c1,gG (by decide),bF]
   exact ⟨_,rfl,⟨by omega,c,by omega⟩,by omega⟩
 | succ j ih =>
  intro f a hf hj a0 b c d;obtain ⟨f,rfl⟩:∃ i,f=i+1:=⟨f - 1,by omega⟩;have e2:(2:Int) ^ (j+1+1)=2*2 ^ (j+1):=by rw [Int.pow_succ]; omega
  have p0:(0:Int)<2 ^ (j+1):=Int.pow_pos (by decide);have an:0≤a*2 ^ (j+1+1):=Int.mul_nonneg a0 (Int.le_of_lt (Int.pow_pos (by decide)));have o:bJ .or .u64 (a*2 ^ (j+1+1)) (2 ^ (j+1))=a*2 ^ (j+1+1)+2 ^ (j+1):=sO (by omega) a0 (by omega) (by omega) (by omega);rw [bk.c1,gM (by omega),bT,o,(cmp _ (by omega) (by omega)).1,bS,(cmp _ (by omega) (by omega)).2,bS];unfold bk.c3;have q:cJ .u64 (2 ^ (j+1)) 1=2 ^ j:=by
   have:=js (2 ^ (j+1)) (n:=1) (by decide);rw [show ((1:Nat):Int)=1 from rfl] at this;rw [this,Int.pow_succ];omega
  rw [q];rw [e2] at b d
  by_cases g:(a*2 ^ (j+1+1)+2 ^ (j+1))*(a*2 ^ (j+1+1)+2 ^ (j+1))≤N
  ·rw [decide_eq_true g,bT,bS,o]
   have e3:a*2 ^ (j+1+1)+2 ^ (j+1)=(2*a+1)*2 ^ (j+1):=by rw [e2]; grind
   rw [e2] at c g e3;have e4:a*(2*2 ^ (j+1))+2*2 ^ (j+1)=(2*a+1)*2 ^ (j+1)+2 ^ (j+1):=by grind
   rw [e4] at b d;rw [e3] at g;rw [e2,e3];exact ih f (2*a+1) (by omega) (by omega) (by omega) b g d
  ·rw [decide_eq_false g,bF,bS]
   have e3:a*2 ^ (j+1+1)=(2*a)*2 ^ (j+1):=by rw [e2]; grind
   rw [e3] at c g ⊢;rw [e2] at e3;rw [e3] at b d;exact ih f (2*a) (by omega) (by omega) (by omega) (by omega) c (by omega)
theorem BT {k:Nat} (hk:70≤k) {hi lo:Int} (h0:0≤hi) (h1:hi≤18446744073709551615) (l0:0≤lo) (l1:lo≤18446744073709551615):∃ r,bk k hi lo=some r∧Rt (hi*18446744073709551616+lo) r∧r≤18446744073709551615:=by
 obtain ⟨r,e,h⟩:=DD k rfl h0 l0 l1 63 k 0 (by omega) (by decide) (by decide) (by decide) (by simp; omega) (by simp; omega);refine ⟨r,?_,h⟩;unfold bk;have e':bk.c1 k hi lo k 0 9223372036854775808=some r:=e;rw [e',bS]
theorem qt (x:Int):ga x*ga x=x*x:=by unfold ga; split <;> grind
theorem lV (k:Nat) {x:Int} (h0:-4611686018427387904≤x) (h1:x≤4611686018427387904):fS k x=some (ga x):=by
 have n1:fk .i64 x=-x:=by unfold fk; rw [wrap_i64 (by omega) (by omega)]; omega
 unfold fS;rw [n1,gW];unfold imax ga;congr 1;split <;> split <;> omega
theorem wL {k:Nat} (hk:70≤k) {x y:Int} (x0:-1099511627776≤x) (x1:x≤1099511627776) (y0:-1099511627776≤y) (y1:y≤1099511627776):∃ r,eL k x y=some r∧Rt (x*x+y*y) r:=by
 have mx:0≤ga x∧ga x≤1099511627776:=by unfold ga; split <;> omega
 have my:0≤ga y∧ga y≤1099511627776:=by unfold ga; split <;> omega
 have bx:=ek (x:=ga x) (y:=ga x) (M:=1099511627776) (N:=1099511627776) (by omega) (by omega) (by omega) (by omega);have by_:=ek (x:=ga y) (y:=ga y) (M:=1099511627776) (N:=1099511627776) (by omega) (by omega) (by omega) (by omega);have nx0:=Int.mul_nonneg mx.1 mx.1;have ny0:=Int.mul_nonneg my.1 my.1;unfold eL;rw [lV k (by omega) (by omega),bS,bS,lx k (by omega) (by omega) (by omega) (by omega),bS,lV k (by omega) (by omega),bS,bS,lx k (by omega) (by omega) (by omega) (by omega),bS];dsimp only;rw [qt] at bx nx0 ⊢;rw [qt] at by_ ny0 ⊢;generalize hX:x*x=X at *
 generalize hY:y*y=Y at *
 rw [uC k (by omega) (by omega),bS];dsimp only;unfold bits_Add64;rw [rP (by omega),rP (by omega),rP (by omega),rP (by omega),bS];dsimp only;obtain ⟨r,e,h,hr⟩:=BT hk (hi:=(X / 18446744073709551616+Y / 18446744073709551616+(X % 18446744073709551616+Y % 18446744073709551616) / 18446744073709551616) % 18446744073709551616) (lo:=(X % 18446744073709551616+Y % 18446744073709551616) % 18446744073709551616) (by omega) (by omega) (by omega) (by omega);rw [e,bS];have e1:(X / 18446744073709551616+Y / 18446744073709551616+(X % 18446744073709551616+Y % 18446744073709551616) / 18446744073709551616) % 18446744073709551616*18446744073709551616+(X % 18446744073709551616+Y % 18446744073709551616) % 18446744073709551616=X+Y:=by omega
 rw [e1] at h;have:r<2199023255553:=qa h.1 (by decide) (by have:=h.2.1; omega);rw [nJ (by have:=h.1; omega) (by omega)];exact ⟨r,rfl,h⟩
theorem qA (k:Nat) {x l:Int} (x0:-1099511627776≤x) (x1:x≤1099511627776) (l0:0<l) (l1:l≤4398046511104):bX k x l=some (iF (65536*x) l):=by
 have e:ao .i64 (a7 .i64 (a7 .i64 2 x) 65536) l=2*(65536*x)+l:=by
  rw [eB (x:=2) (by omega) (by omega),eB (by omega) (by omega),aX (by omega) (by omega)]; omega
 have e2:a7 .i64 2 l=2*l:=eB (by omega) (by omega);unfold bX bX.c1;rw [e,e2,rP (show nz (2*l) by unfold nz; omega)];generalize hn:2*(65536*x)+l=n;have r:iF (65536*x) l=n / (2*l):=by unfold iF; rw [hn]
 rw [r];have hm:=Int.mul_ediv_add_emod n (2*l);have em0:=Int.emod_nonneg n (show 2*l≠0 by omega);have em1:=Int.emod_lt_of_pos n (show 0<2*l by omega);have qb:-9000000000000000000≤n / (2*l)∧n / (2*l)≤9000000000000000000:=by
  constructor
  ·rw [Int.le_ediv_iff_mul_le (by omega)]; omega
  ·have:n / (2*l)<9000000000000000001:=by rw [Int.ediv_lt_iff_lt_mul (by omega)]; omega
   omega
 by_cases c:n<0
 ·rw [bA c,bT,rP (show nz (2*l) by unfold nz; omega)]
  have e3:en n (2*l)=-((-n) % (2*l)):=by
   unfold en;rw [← Int.tmod_eq_emod_of_nonneg (by omega),Int.neg_tmod]; omega
  have e4:fA .i64 n (2*l)=-((-n) / (2*l)):=by
   unfold fA;have:Int.tdiv n (2*l)=-((-n) / (2*l)):=by rw [← Int.tdiv_eq_ediv_of_nonneg (by omega),Int.neg_tdiv]; omega
   rw [this];have h1:0≤(-n) / (2*l):=Int.ediv_nonneg (by omega) (by omega);have h2:=Int.ediv_le_self (b:=2*l) (show 0≤-n by omega);exact wrap_i64 (by omega) (by omega)
  have hm2:=Int.mul_ediv_add_emod (-n) (2*l);have b0:=Int.emod_nonneg (-n) (show 2*l≠0 by omega);have b1:=Int.emod_lt_of_pos (-n) (show 0<2*l by omega);rw [e3,e4]
  by_cases d:(-n) % (2*l)=0
  ·rw [dR (by omega),bS,bF]
   congr 1;refine (Int.ediv_eq_of_eq_mul_right (show (2*l)≠0 by omega) ?_).symm;rw [d] at hm2;rw [Int.mul_neg]; omega
  ·rw [gn (by omega),bS,bT]
   have q2:n / (2*l)=-((-n) / (2*l)) - 1:=by
    have:n=(2*l - (-n) % (2*l))+(2*l)*(-((-n) / (2*l)) - 1):=by
     rw [Int.mul_sub,Int.mul_neg]; omega
    have h3:(2*l - (-n) % (2*l)+(2*l)*(-((-n) / (2*l)) - 1)) / (2*l)=-((-n) / (2*l)) - 1:=by
     rw [Int.add_mul_ediv_left _ _ (by omega),Int.ediv_eq_zero_of_lt (by omega) (by omega)]; omega
    rw [← this] at h3;exact h3
   rw [q2,cR (by omega) (by omega)]
 ·rw [bZ (by omega),bF,bS,bF,jV (by omega) (by omega) (by omega)]
theorem double (k:Nat):∀ (m f:Nat) (x y:Int),m<f→-1099511627776≤x→x≤1099511627776→-1099511627776≤y→y≤1099511627776→1073741824≤imax (ga x) (ga y)*2 ^ m →
  ∃ x' y' c,bN.c2 k f x y=some (x',y')∧x'=c*x∧y'=c*y∧0<c∧1073741824≤imax (ga x') (ga y')∧-1099511627776≤x'∧x'≤1099511627776∧-1099511627776≤y'∧y'≤1099511627776:=by
 intro m
 induction m with
 | zero =>
  intro f x y hf a b c d h;obtain ⟨f,rfl⟩:∃ j,f=j+1:=⟨f - 1,by omega⟩;rw [bN.c2,lV k (by omega) (by omega),bS,lV k (by omega) (by omega),bS,bZ (by simp at h; omega),bF];exact ⟨x,y,1,rfl,by omega,by omega,by decide,by simp at h; omega,a,b,c,d⟩
 | succ m ih =>
  intro f x y hf a b c d h;obtain ⟨f,rfl⟩:∃ j,f=j+1:=⟨f - 1,by omega⟩;rw [bN.c2,lV k (by omega) (by omega),bS,lV k (by omega) (by omega),bS]
  by_cases g:imax (ga x) (ga y)<1073741824
  ·have bx:-1073741824<x∧x<1073741824∧-1073741824<y∧y<1073741824:=by
    unfold imax ga at g;split at g <;> (try split at g) <;> (try split at g) <;> omega
   rw [bA g,bT,eB (by omega) (by omega),eB (by omega) (by omega)];have e:imax (ga (2*x)) (ga (2*y))=2*imax (ga x) (ga y):=by
    unfold imax ga;split <;> split <;> (try split) <;> (try split) <;> (try split) <;> omega
   obtain ⟨x',y',c',e1,e2,e3,r⟩:=ih f (2*x) (2*y) (by omega) (by omega) (by omega) (by omega) (by omega) (by
    rw [e];have:imax (ga x) (ga y)*2 ^ (m+1)=2*imax (ga x) (ga y)*2 ^ m:=by rw [Int.pow_succ]; grind
    omega)
   exact ⟨x',y',c'*2,e1,by rw [e2]; grind,by rw [e3]; grind,by omega,r.2⟩
  ·rw [bZ (by omega),bF]
   exact ⟨x,y,1,rfl,by omega,by omega,by decide,by omega,a,b,c,d⟩
theorem DI {k:Nat} (hk:70≤k) {v:ay} (h:-1099511627776≤v.1∧v.1≤1099511627776∧-1099511627776≤v.2.1∧v.2.1≤1099511627776) (hv:¬ (v.1=0∧v.2.1=0)) :
  ∃ x y l,bN k v=some (iF (65536*x) l,iF (65536*y) l,())∧Rt (x*x+y*y) l∧1073741824≤l:=by
 unfold bN;rw [fZ,bS,fZ,bS,iG h.1 h.2.1,iG h.2.2.1 h.2.2.2];have c1:bN.c1 k v.1 v.2.1=some false:=by
  unfold bN.c1
  by_cases a:v.1=0
  ·rw [fw a,bT,fl (fun b=>hv ⟨a,b⟩)]
  ·rw [fl a,bF]
 rw [c1,bS,bF];have hp:1≤imax (ga v.1) (ga v.2.1):=by
  unfold imax ga;split <;> (try split) <;> (try split) <;> omega
 obtain ⟨x,y,c,e1,e2,e3,c0,hm,b1,b2,b3,b4⟩:=double k 30 k v.1 v.2.1 (by omega) h.1 h.2.1 h.2.2.1 h.2.2.2 (by
  have:(2:Int) ^ 30=1073741824:=by decide
  rw [this];have:=Int.mul_le_mul_of_nonneg_right hp (show (0:Int)≤1073741824 by decide)
  omega)
 rw [e1,bS];dsimp only;obtain ⟨l,f1,f2⟩:=wL hk b1 b2 b3 b4;have sqn:∀ z:Int,0≤z*z:=fun z=>by rw [← qt]; exact Int.mul_nonneg (by unfold ga; split <;> omega) (by unfold ga; split <;> omega)
 have hl:1073741824≤l:=by
  have key:1073741824*1073741824≤x*x+y*y:=by
   have sx:=sqn x;have sy:=sqn y;unfold imax at hm;split at hm
   ·have:=EK (a:=1073741824) (by decide) hm
    rw [qt] at this; omega
   ·have:=EK (a:=1073741824) (by decide) hm
    rw [qt] at this; omega
  have:=qa (a:=1073741824) (b:=l+1) (by decide) (by have:=f2.1; omega) (by have:=f2.2.2; omega);omega
 have lb:l≤4398046511104:=by
  have p1:=ek (x:=x) (y:=x) (M:=1099511627776) (N:=1099511627776) b1 b2 b1 b2;have p2:=ek (x:=y) (y:=y) (M:=1099511627776) (N:=1099511627776) b3 b4 b3 b4;have:=qa (a:=l) (b:=4398046511104) f2.1 (by decide) (by have:=f2.2.1; omega);omega
 rw [f1,bS,qA k b1 b2 (by omega) lb,bS,qA k b3 b4 (by omega) lb,bS];exact ⟨x,y,l,rfl,f2,hl⟩
end Go.Proofs.T1
