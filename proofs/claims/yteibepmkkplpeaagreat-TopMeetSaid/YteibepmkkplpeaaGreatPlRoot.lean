import Derived.Test.YteibepmkkplpeaaGreatPlMid
import Derived.Test.YteibepmkkplpeaaGreatG4
namespace Go.Proofs.T1
open Go Go.Sx
def Rt (n r:Int):Prop:=0≤r∧r*r≤n∧n<(r+1)*(r+1)
theorem nk {a b:Int} (ha:0≤a) (hb:0≤b) (h:a*a<b*b):a<b:=by
 rcases Int.lt_or_le a b with c | c
 ·exact c
 ·have:=Int.mul_le_mul c c hb ha
  omega
theorem rE {a b:Int} (ha:0≤a) (h:a≤b):a*a≤b*b:=Int.mul_le_mul h h ha (by omega)
theorem Dl {n r s:Int} (h:Rt n r) (g:Rt n s):r=s:=by
 have a:=nk (a:=r) (b:=s+1) h.1 (by have:=g.1; omega) (by have:=h.2.1; have:=g.2.2; omega);have b:=nk (a:=s) (b:=r+1) g.1 (by have:=h.1; omega) (by have:=g.2.1; have:=h.2.2; omega);omega
theorem kf {x y:Int} (hx:0≤x) (hx':x≤9223372036854775807) (hy:0<y):eu .i64 x y=x / y:=by
 unfold eu;rw [Int.tdiv_eq_ediv_of_nonneg hx];have h1:0≤x / y:=Int.ediv_nonneg hx (by omega);have h2:x / y≤x:=by
  have:=Int.ediv_le_self (b:=y) hx;omega
 exact wrap_i64 (by omega) (by omega)
theorem DQ (k:Nat) {n:Int} (h0:0≤n):∀ (m f:Nat) (v1 v2:Int),m<f→0≤v1→v1<v2→v2≤2147483648→v1*v1≤n→n<v2*v2→v2 - v1≤2 ^ m →
  ∃ r,cN.c1 k n f v1 v2=some r∧Rt n r:=by
 intro m
 induction m with
 | zero =>
  intro f v1 v2 hf a b c d e g;obtain ⟨f,rfl⟩:∃ j,f=j+1:=⟨f - 1,by omega⟩;have:v2=v1+1:=by simp at g; omega
  subst this;rw [cN.c1,cR (by omega) (by omega),il (by omega),bF];exact ⟨_,rfl,a,d,e⟩
 | succ m ih =>
  intro f v1 v2 hf a b c d e g;obtain ⟨f,rfl⟩:∃ j,f=j+1:=⟨f - 1,by omega⟩;rw [cN.c1,cR (by omega) (by omega)]
  by_cases h:v2 - v1 > 1
  ·rw [iR h,bT,bH (by omega) (by omega),kf (by omega) (by omega) (by decide)]
   have p:=dB (x:=(v1+v2) / 2) (y:=(v1+v2) / 2) (M:=2147483648) (N:=2147483648) (by omega) (by omega) (by omega) (by omega);rw [dr (by omega) (by omega)];have e2:(2:Int) ^ (m+1)=2*2 ^ m:=by rw [Int.pow_succ]; omega
   rw [e2] at g
   by_cases q:(v1+v2) / 2*((v1+v2) / 2)≤n
   ·rw [kU q,bT]
    exact ih f _ _ (by omega) (by omega) (by omega) c q e (by omega)
   ·rw [mr (by omega),bF]
    exact ih f _ _ (by omega) a (by omega) (by omega) d (by omega) (by omega)
  ·have:v2=v1+1:=by omega
   subst this;rw [il (by omega),bF];exact ⟨_,rfl,a,d,e⟩
theorem uP {k:Nat} (hk:40≤k) {n:Int} (h0:0≤n) (h1:n≤2305843009213693952):∃ r,cN k n=some r∧Rt n r:=by
 obtain ⟨r,e,h⟩:=DQ k h0 31 k 0 2147483648 (by omega) (by decide) (by decide) (by decide) (by omega) (by omega) (by decide);exact ⟨r,by unfold cN; rw [e,bS],h⟩
theorem Df (k:Nat) {hi lo N:Int} (hN:N=hi*18446744073709551616+lo) (h0:0≤hi) (l0:0≤lo) (l1:lo≤18446744073709551615):∀ (j f:Nat) (a:Int),j+1<f→j≤63→0≤a→a*2 ^ (j+1)+2 ^ (j+1)≤18446744073709551616 →
  (a*2 ^ (j+1))*(a*2 ^ (j+1))≤N→N<(a*2 ^ (j+1)+2 ^ (j+1))*(a*2 ^ (j+1)+2 ^ (j+1)) →
  ∃ r,bm.c1 k hi lo f (a*2 ^ (j+1)) (2 ^ j)=some r∧Rt N r∧r≤18446744073709551615:=by
 have cmp:∀ x:Int,0≤x→x≤18446744073709551615→dx k x x=some (x*x / 18446744073709551616,x*x % 18446744073709551616) ∧
   bm.c2 k hi lo (x*x / 18446744073709551616,x*x % 18446744073709551616)=some (decide (x*x≤N)):=by
  intro x x0 x1;refine ⟨lI k x0 x1 x0 x1,?_⟩;unfold bm.c2;dsimp only;generalize x*x=y
  by_cases c:y / 18446744073709551616<hi
  ·rw [cB c,bT,decide_eq_true (by omega)]
  ·rw [cD (by omega),bF]
   by_cases d:y / 18446744073709551616=hi
   ·rw [fw d,bT]
    unfold jw;congr 1;rw [decide_eq_decide];omega
   ·rw [fu d,bF,decide_eq_false (by omega)]
 intro j
 induction j with
 | zero =>
  intro f a hf hj a0 b c d;obtain ⟨f,rfl⟩:∃ i,f=i+2:=⟨f - 2,by omega⟩;have o:cP .or .u64 (a*2 ^ (0+1)) (2 ^ 0)=a*2 ^ (0+1)+2 ^ 0:=wM (by decide) a0 (by omega) (by decide) (by decide);simp only [Int.pow_succ,Int.pow_zero,Int.one_mul,Nat.zero_add] at b c d o ⊢;rw [bm.c1,iR (by decide),bT,o,(cmp _ (by omega) (by omega)).1,bS,(cmp _ (by omega) (by omega)).2,bS];unfold bm.c3;have q:dz .u64 1 1=0:=by decide
  rw [q]
  by_cases g:(a*2+1)*(a*2+1)≤N
  ·rw [decide_eq_true g,bT,bS,o,bm.c1,il (by decide),bF]
   exact ⟨_,rfl,⟨by omega,g,by rw [show a*2+1+1=a*2+2 by omega]; exact d⟩,by omega⟩
  ·rw [decide_eq_false g,bF,bS,bm.c1,il (by decide),bF]
   exact ⟨_,rfl,⟨by omega,c,by omega⟩,by omega⟩
 | succ j ih =>
  intro f a hf hj a0 b c d;obtain ⟨f,rfl⟩:∃ i,f=i+1:=⟨f - 1,by omega⟩;have e2:(2:Int) ^ (j+1+1)=2*2 ^ (j+1):=by rw [Int.pow_succ]; omega
  have p0:(0:Int)<2 ^ (j+1):=Int.pow_pos (by decide);have an:0≤a*2 ^ (j+1+1):=Int.mul_nonneg a0 (Int.le_of_lt (Int.pow_pos (by decide)));have o:cP .or .u64 (a*2 ^ (j+1+1)) (2 ^ (j+1))=a*2 ^ (j+1+1)+2 ^ (j+1):=wM (by omega) a0 (by omega) (by omega) (by omega);rw [bm.c1,iR (by omega),bT,o,(cmp _ (by omega) (by omega)).1,bS,(cmp _ (by omega) (by omega)).2,bS];unfold bm.c3;have q:dz .u64 (2 ^ (j+1)) 1=2 ^ j:=by
   have:=kF (2 ^ (j+1)) (n:=1) (by decide);rw [show ((1:Nat):Int)=1 from rfl] at this;rw [this,Int.pow_succ];omega
  rw [q];rw [e2] at b d
  by_cases g:(a*2 ^ (j+1+1)+2 ^ (j+1))*(a*2 ^ (j+1+1)+2 ^ (j+1))≤N
  ·rw [decide_eq_true g,bT,bS,o]
   have e3:a*2 ^ (j+1+1)+2 ^ (j+1)=(2*a+1)*2 ^ (j+1):=by rw [e2]; grind
   rw [e2] at c g e3;have e4:a*(2*2 ^ (j+1))+2*2 ^ (j+1)=(2*a+1)*2 ^ (j+1)+2 ^ (j+1):=by grind
   rw [e4] at b d;rw [e3] at g;rw [e2,e3];exact ih f (2*a+1) (by omega) (by omega) (by omega) b g d
  ·rw [decide_eq_false g,bF,bS]
   have e3:a*2 ^ (j+1+1)=(2*a)*2 ^ (j+1):=by rw [e2]; grind
   rw [e3] at c g ⊢;rw [e2] at e3;rw [e3] at b d;exact ih f (2*a) (by omega) (by omega) (by omega) (by omega) c (by omega)
theorem CC {k:Nat} (hk:70≤k) {hi lo:Int} (h0:0≤hi) (h1:hi≤18446744073709551615) (l0:0≤lo) (l1:lo≤18446744073709551615):∃ r,bm k hi lo=some r∧Rt (hi*18446744073709551616+lo) r∧r≤18446744073709551615:=by
 obtain ⟨r,e,h⟩:=Df k rfl h0 l0 l1 63 k 0 (by omega) (by decide) (by decide) (by decide) (by simp; omega) (by simp; omega);refine ⟨r,?_,h⟩;unfold bm;have e':bm.c1 k hi lo k 0 9223372036854775808=some r:=e;rw [e',bS]
theorem mQ (x:Int):gp x*gp x=x*x:=by unfold gp; split <;> grind
theorem mw (k:Nat) {x:Int} (h0:-4611686018427387904≤x) (h1:x≤4611686018427387904):gb k x=some (gp x):=by
 have n1:c9 .i64 x=-x:=by unfold c9; rw [wrap_i64 (by omega) (by omega)]; omega
 unfold gb;rw [n1,jY];unfold imax gp;congr 1;split <;> split <;> omega
theorem xb {k:Nat} (hk:70≤k) {x y:Int} (x0:-1099511627776≤x) (x1:x≤1099511627776) (y0:-1099511627776≤y) (y1:y≤1099511627776):∃ r,eE k x y=some r∧Rt (x*x+y*y) r:=by
 have mx:0≤gp x∧gp x≤1099511627776:=by unfold gp; split <;> omega
 have my:0≤gp y∧gp y≤1099511627776:=by unfold gp; split <;> omega
 have bx:=dB (x:=gp x) (y:=gp x) (M:=1099511627776) (N:=1099511627776) (by omega) (by omega) (by omega) (by omega);have by_:=dB (x:=gp y) (y:=gp y) (M:=1099511627776) (N:=1099511627776) (by omega) (by omega) (by omega) (by omega);have nx0:=Int.mul_nonneg mx.1 mx.1;have ny0:=Int.mul_nonneg my.1 my.1;unfold eE;rw [mw k (by omega) (by omega),bS,bS,lI k (by omega) (by omega) (by omega) (by omega),bS,mw k (by omega) (by omega),bS,bS,lI k (by omega) (by omega) (by omega) (by omega),bS];dsimp only;rw [mQ] at bx nx0 ⊢;rw [mQ] at by_ ny0 ⊢;generalize hX:x*x=X at *
 generalize hY:y*y=Y at *
 rw [ua k (by omega) (by omega),bS];dsimp only;unfold bits_Add64;rw [rP (by omega),rP (by omega),rP (by omega),rP (by omega),bS];dsimp only;obtain ⟨r,e,h,hr⟩:=CC hk (hi:=(X / 18446744073709551616+Y / 18446744073709551616+(X % 18446744073709551616+Y % 18446744073709551616) / 18446744073709551616) % 18446744073709551616) (lo:=(X % 18446744073709551616+Y % 18446744073709551616) % 18446744073709551616) (by omega) (by omega) (by omega) (by omega);rw [e,bS];have e1:(X / 18446744073709551616+Y / 18446744073709551616+(X % 18446744073709551616+Y % 18446744073709551616) / 18446744073709551616) % 18446744073709551616*18446744073709551616+(X % 18446744073709551616+Y % 18446744073709551616) % 18446744073709551616=X+Y:=by omega
 rw [e1] at h;have:r<2199023255553:=nk h.1 (by decide) (by have:=h.2.1; omega);rw [n5 (by have:=h.1; omega) (by omega)];exact ⟨r,rfl,h⟩
theorem q9 (k:Nat) {x l:Int} (x0:-1099511627776≤x) (x1:x≤1099511627776) (l0:0<l) (l1:l≤4398046511104):bU k x l=some (jg (65536*x) l):=by
 have e:ag .i64 (aN .i64 (aN .i64 2 x) 65536) l=2*(65536*x)+l:=by
  rw [dr (x:=2) (by omega) (by omega),dr (by omega) (by omega),bH (by omega) (by omega)]; omega
 have e2:aN .i64 2 l=2*l:=dr (by omega) (by omega);unfold bU bU.c1;rw [e,e2,rP (show nz (2*l) by unfold nz; omega)];generalize hn:2*(65536*x)+l=n;have r:jg (65536*x) l=n / (2*l):=by unfold jg; rw [hn]
 rw [r];have hm:=Int.mul_ediv_add_emod n (2*l);have em0:=Int.emod_nonneg n (show 2*l≠0 by omega);have em1:=Int.emod_lt_of_pos n (show 0<2*l by omega);have qb:-9000000000000000000≤n / (2*l)∧n / (2*l)≤9000000000000000000:=by
  constructor
  ·rw [Int.le_ediv_iff_mul_le (by omega)]; omega
  ·have:n / (2*l)<9000000000000000001:=by rw [Int.ediv_lt_iff_lt_mul (by omega)]; omega
   omega
 by_cases c:n<0
 ·rw [cB c,bT,rP (show nz (2*l) by unfold nz; omega)]
  have e3:cC n (2*l)=-((-n) % (2*l)):=by
   unfold cC;rw [← Int.tmod_eq_emod_of_nonneg (by omega),Int.neg_tmod]; omega
  have e4:eu .i64 n (2*l)=-((-n) / (2*l)):=by
   unfold eu;have:Int.tdiv n (2*l)=-((-n) / (2*l)):=by rw [← Int.tdiv_eq_ediv_of_nonneg (by omega),Int.neg_tdiv]; omega
   rw [this];have h1:0≤(-n) / (2*l):=Int.ediv_nonneg (by omega) (by omega);have h2:=Int.ediv_le_self (b:=2*l) (show 0≤-n by omega);exact wrap_i64 (by omega) (by omega)
  have hm2:=Int.mul_ediv_add_emod (-n) (2*l);have b0:=Int.emod_nonneg (-n) (show 2*l≠0 by omega);have b1:=Int.emod_lt_of_pos (-n) (show 0<2*l by omega);rw [e3,e4]
  by_cases d:(-n) % (2*l)=0
  ·rw [ek (by omega),bS,bF]
   congr 1;refine (Int.ediv_eq_of_eq_mul_right (show (2*l)≠0 by omega) ?_).symm;rw [d] at hm2;rw [Int.mul_neg]; omega
  ·rw [jh (by omega),bS,bT]
   have q2:n / (2*l)=-((-n) / (2*l)) - 1:=by
    have:n=(2*l - (-n) % (2*l))+(2*l)*(-((-n) / (2*l)) - 1):=by
     rw [Int.mul_sub,Int.mul_neg]; omega
    have h3:(2*l - (-n) % (2*l)+(2*l)*(-((-n) / (2*l)) - 1)) / (2*l)=-((-n) / (2*l)) - 1:=by
     rw [Int.add_mul_ediv_left _ _ (by omega),Int.ediv_eq_zero_of_lt (by omega) (by omega)]; omega
    rw [← this] at h3;exact h3
   rw [q2,cR (by omega) (by omega)]
 ·rw [cD (by omega),bF,bS,bF,kf (by omega) (by omega) (by omega)]
theorem double (k:Nat):∀ (m f:Nat) (x y:Int),m<f→-1099511627776≤x→x≤1099511627776→-1099511627776≤y→y≤1099511627776→1073741824≤imax (gp x) (gp y)*2 ^ m →
  ∃ x' y' c,bM.c2 k f x y=some (x',y')∧x'=c*x∧y'=c*y∧0<c∧1073741824≤imax (gp x') (gp y')∧-1099511627776≤x'∧x'≤1099511627776∧-1099511627776≤y'∧y'≤1099511627776:=by
 intro m
 induction m with
 | zero =>
  intro f x y hf a b c d h;obtain ⟨f,rfl⟩:∃ j,f=j+1:=⟨f - 1,by omega⟩;rw [bM.c2,mw k (by omega) (by omega),bS,mw k (by omega) (by omega),bS,cD (by simp at h; omega),bF];exact ⟨x,y,1,rfl,by omega,by omega,by decide,by simp at h; omega,a,b,c,d⟩
 | succ m ih =>
  intro f x y hf a b c d h;obtain ⟨f,rfl⟩:∃ j,f=j+1:=⟨f - 1,by omega⟩;rw [bM.c2,mw k (by omega) (by omega),bS,mw k (by omega) (by omega),bS]
  by_cases g:imax (gp x) (gp y)<1073741824
  ·have bx:-1073741824<x∧x<1073741824∧-1073741824<y∧y<1073741824:=by
    unfold imax gp at g;split at g <;> (try split at g) <;> (try split at g) <;> omega
   rw [cB g,bT,dr (by omega) (by omega),dr (by omega) (by omega)];have e:imax (gp (2*x)) (gp (2*y))=2*imax (gp x) (gp y):=by
    unfold imax gp;split <;> split <;> (try split) <;> (try split) <;> (try split) <;> omega
   obtain ⟨x',y',c',e1,e2,e3,r⟩:=ih f (2*x) (2*y) (by omega) (by omega) (by omega) (by omega) (by omega) (by
    rw [e];have:imax (gp x) (gp y)*2 ^ (m+1)=2*imax (gp x) (gp y)*2 ^ m:=by rw [Int.pow_succ]; grind
    omega)
   exact ⟨x',y',c'*2,e1,by rw [e2]; grind,by rw [e3]; grind,by omega,r.2⟩
  ·rw [cD (by omega),bF]
   exact ⟨x,y,1,rfl,by omega,by omega,by decide,by omega,a,b,c,d⟩
theorem xX {k:Nat} (hk:70≤k) {v:aB} (h:-1099511627776≤v.1∧v.1≤1099511627776∧-1099511627776≤v.2.1∧v.2.1≤1099511627776) (hv:¬ (v.1=0∧v.2.1=0)) :
  ∃ x y l,bM k v=some (jg (65536*x) l,jg (65536*y) l,())∧Rt (x*x+y*y) l∧1073741824≤l:=by
 unfold bM;rw [gq,bS,gq,bS,ja h.1 h.2.1,ja h.2.2.1 h.2.2.2];have c1:bM.c1 k v.1 v.2.1=some false:=by
  unfold bM.c1
  by_cases a:v.1=0
  ·rw [fw a,bT,fu (fun b=>hv ⟨a,b⟩)]
  ·rw [fu a,bF]
 rw [c1,bS,bF];have hp:1≤imax (gp v.1) (gp v.2.1):=by
  unfold imax gp;split <;> (try split) <;> (try split) <;> omega
 obtain ⟨x,y,c,e1,e2,e3,c0,hm,b1,b2,b3,b4⟩:=double k 30 k v.1 v.2.1 (by omega) h.1 h.2.1 h.2.2.1 h.2.2.2 (by
  have:(2:Int) ^ 30=1073741824:=by decide
  rw [this];have:=Int.mul_le_mul_of_nonneg_right hp (show (0:Int)≤1073741824 by decide)
  omega)
 rw [e1,bS];dsimp only;obtain ⟨l,f1,f2⟩:=xb hk b1 b2 b3 b4;have sqn:∀ z:Int,0≤z*z:=fun z=>by rw [← mQ]; exact Int.mul_nonneg (by unfold gp; split <;> omega) (by unfold gp; split <;> omega)
 have hl:1073741824≤l:=by
  have key:1073741824*1073741824≤x*x+y*y:=by
   have sx:=sqn x;have sy:=sqn y;unfold imax at hm;split at hm
   ·have:=rE (a:=1073741824) (by decide) hm
    rw [mQ] at this; omega
   ·have:=rE (a:=1073741824) (by decide) hm
    rw [mQ] at this; omega
  have:=nk (a:=1073741824) (b:=l+1) (by decide) (by have:=f2.1; omega) (by have:=f2.2.2; omega);omega
 have lb:l≤4398046511104:=by
  have p1:=dB (x:=x) (y:=x) (M:=1099511627776) (N:=1099511627776) b1 b2 b1 b2;have p2:=dB (x:=y) (y:=y) (M:=1099511627776) (N:=1099511627776) b3 b4 b3 b4;have:=nk (a:=l) (b:=4398046511104) f2.1 (by decide) (by have:=f2.2.1; omega);omega
 rw [f1,bS,q9 k b1 b2 (by omega) lb,bS,q9 k b3 b4 (by omega) lb,bS];exact ⟨x,y,l,rfl,f2,hl⟩
end Go.Proofs.T1
