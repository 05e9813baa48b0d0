import Derived.Test.YthpbadopmihmpaaGreatPlMade
namespace Go.Proofs.T1
open Go Go.Sx
def rndM (ng:Bool) (X D:Int):Int:=if ng then -((2*X+D - 1) / (2*D)) else (2*X+D) / (2*D)
theorem div_lo {q r D c:Int} (hD:0<D) (h0:0≤c) (h1:c<2*D):(2*(D*q+r)+(c - 2*r)) / (2*D)=q:=by
 have e:2*(D*q+r)+(c - 2*r)=c+(2*D)*q:=by grind
 rw [e,Int.add_mul_ediv_left _ _ (by omega),Int.ediv_eq_zero_of_lt h0 h1]
 omega
theorem rnd_up {q r D:Int} (hr:0≤r) (hr':r<D):(2*(D*q+r)+D) / (2*D)=if D≤2*r then q+1 else q:=by
 split
 ·have h:=div_lo (q:=q+1) (r:=r - D) (c:=2*r - D) (D:=D) (by omega) (by omega) (by omega)
  rw [show 2*(D*q+r)+D=2*(D*(q+1)+(r - D))+(2*r - D - 2*(r - D)) by grind]
  exact h
 ·have h:=div_lo (q:=q) (r:=r) (c:=2*r+D) (D:=D) (by omega) (by omega) (by omega)
  rw [show 2*(D*q+r)+D=2*(D*q+r)+(2*r+D - 2*r) by omega]
  exact h
theorem rnd_dn {q r D:Int} (hr:0≤r) (hr':r<D):(2*(D*q+r)+D - 1) / (2*D)=if D+1≤2*r then q+1 else q:=by
 split
 ·have h:=div_lo (q:=q+1) (r:=r - D) (c:=2*r - D - 1) (D:=D) (by omega) (by omega) (by omega)
  rw [show 2*(D*q+r)+D - 1=2*(D*(q+1)+(r - D))+(2*r - D - 1 - 2*(r - D)) by grind]
  exact h
 ·have h:=div_lo (q:=q) (r:=r) (c:=2*r+D - 1) (D:=D) (by omega) (by omega) (by omega)
  rw [show 2*(D*q+r)+D - 1=2*(D*q+r)+(2*r+D - 1 - 2*r) by omega]
  exact h
def mag (x:Int):Int:=if x<0 then -x else x
def rnd (x n:Int):Int:=(2*x+n) / (2*n)
theorem rnd_pos {x n:Int} (hn:0<n):rndM (decide (x<0) != decide (n<0)) (mag x) (mag n)=rnd x n:=by
 have hnn:¬ n<0:=by omega
 unfold mag rndM rnd
 rw [if_neg hnn]
 by_cases hx:x<0
 ·simp only [hx,hnn,decide_true,decide_false,if_true]
  have e:(true != false)=true:=rfl
  rw [e,if_pos rfl]
  have hq:=Int.mul_ediv_add_emod (-x) n
  have hr0:=Int.emod_nonneg (-x) (show n≠0 by omega)
  have hr1:=Int.emod_lt_of_pos (-x) hn
  generalize (-x) / n=q at *
  generalize (-x) % n=r at *
  rw [← hq,rnd_dn hr0 hr1]
  have hx2:2*x+n=-2*(n*q+r)+n:=by omega
  rw [hx2]
  split
  ·have h:=div_lo (q:=-(q+1)) (r:=0) (c:=3*n - 2*r) (D:=n) hn (by omega) (by omega)
   rw [show -2*(n*q+r)+n=2*(n*-(q+1)+0)+(3*n - 2*r - 2*0) by grind]
   exact h.symm
  ·have h:=div_lo (q:=-q) (r:=0) (c:=n - 2*r) (D:=n) hn (by omega) (by omega)
   rw [show -2*(n*q+r)+n=2*(n*-q+0)+(n - 2*r - 2*0) by grind]
   exact h.symm
 ·simp only [hx,hnn,decide_false,if_false]
  rfl
theorem rnd_bd {x n c:Int} (hn:0<n) (h0:-(n*c)≤x) (h1:x≤n*c):-c≤rnd x n∧rnd x n≤c:=by
 unfold rnd
 constructor
 ·rw [Int.le_ediv_iff_mul_le (by omega)]
  have e:-c*(2*n)=2*-(n*c):=by grind
  omega
 ·have:(2*x+n) / (2*n)<c+1:=by
   rw [Int.ediv_lt_iff_lt_mul (by omega)]
   have e:(c+1)*(2*n)=2*(n*c)+2*n:=by grind
   omega
  omega
end Go.Proofs.T1
namespace Go.Proofs.T1
open Go Go.Sx
def CM (x:Int):Int:=if x < -1099511627776 then -1099511627776 else if 1099511627776<x then 1099511627776 else x
theorem Clamp_eq (k:Nat) (x:Int):fix_Clamp k x=some (CM x):=by
 unfold fix_Clamp CM imin imax
 congr 1
 split <;> split <;> omega
theorem CM_bd (x:Int):-1099511627776≤CM x∧CM x≤1099511627776:=by
 unfold CM
 split
 ·omega
 ·split <;> omega
theorem CM_in {x:Int} (h0:-1099511627776≤x) (h1:x≤1099511627776):CM x=x:=by
 unfold CM
 rw [if_neg (by omega),if_neg (by omega)]
theorem mag_eq (k:Nat) {x:Int} (h0:-1099511627776≤x) (h1:x≤1099511627776):fix_mag k x=some (mag x):=by
 unfold fix_mag mag
 by_cases h:x<0
 ·rw [ilt_pos h,bT,if_pos h]
  have:ineg .i64 x=-x:=by unfold ineg; rw [wrap_i64 (by omega) (by omega)]; omega
  rw [this,icv_u64]
  congr 1
  omega
 ·rw [ilt_neg (by omega),bF,if_neg h,icv_u64]
  congr 1
  omega
theorem rndM_zero {t:Bool} {c:Int} (hc:0<c):rndM t 0 c=0:=by
 unfold rndM
 cases t
 ·simp only [Bool.false_eq_true,if_false]
  exact Int.ediv_eq_zero_of_lt (by omega) (by omega)
 ·simp only [if_true]
  rw [Int.ediv_eq_zero_of_lt (by omega) (by omega)]
  decide
theorem rndM_sign {a b c:Int} (hc:0<c):rndM (decide (a<0) != decide (b<0)) (mag a*mag b) c=rnd (a*b) c:=by
 have h:=rnd_pos (x:=a*b) hc
 have hcc:mag c=c:=by unfold mag; rw [if_neg (by omega)]
 have hc0:decide (c<0)=false:=decide_eq_false (by omega)
 rw [hcc,hc0] at h
 have hm:mag (a*b)=mag a*mag b:=by
  unfold mag
  by_cases ha:a<0 <;> by_cases hb:b<0 <;> simp only [ha,hb,if_true,if_false]
  ·have h1:0<(-a)*(-b):=Int.mul_pos (by omega) (by omega)
   have e:(-a)*(-b)=a*b:=by grind
   rw [if_neg (by omega),e]
  ·have h1:0≤(-a)*b:=Int.mul_nonneg (by omega) (by omega)
   have e:(-a)*b=-(a*b):=by grind
   split <;> omega
  ·have h1:0≤a*(-b):=Int.mul_nonneg (by omega) (by omega)
   have e:a*(-b)=-(a*b):=by grind
   split <;> omega
  ·have h1:0≤a*b:=Int.mul_nonneg (by omega) (by omega)
   rw [if_neg (by omega)]
 rw [← h,hm]
 by_cases hz:a*b=0
 ·rw [← hm,hz]
  have:mag 0=0:=rfl
  rw [this,rndM_zero hc,rndM_zero hc]
 ·congr 1
  have ha0:a≠0:=fun h=>hz (by rw [h]; simp)
  have hb0:b≠0:=fun h=>hz (by rw [h]; simp)
  by_cases ha:a<0 <;> by_cases hb:b<0
  ·have h1:0<(-a)*(-b):=Int.mul_pos (by omega) (by omega)
   have e:(-a)*(-b)=a*b:=by grind
   have:¬ a*b<0:=by omega
   simp [ha,hb,this]
  ·have h1:0<(-a)*b:=Int.mul_pos (by omega) (by omega)
   have e:(-a)*b=-(a*b):=by grind
   have:a*b<0:=by omega
   simp [ha,hb,this]
  ·have h1:0<a*(-b):=Int.mul_pos (by omega) (by omega)
   have e:a*(-b)=-(a*b):=by grind
   have:a*b<0:=by omega
   simp [ha,hb,this]
  ·have h1:0<a*b:=Int.mul_pos (by omega) (by omega)
   have:¬ a*b<0:=by omega
   simp [ha,hb,this]
theorem MulDiv_pos {k:Nat} (hk:2≤k) {a b c:Int} (ha:-1099511627776≤a∧a≤1099511627776) (hb:-1099511627776≤b∧b≤1099511627776) (hc:0<c) (hc':c≤1099511627776) :
  fix_MulDiv k a b c=some (CM (rnd (a*b) c)):=by
 have ma:0≤mag a∧mag a≤1099511627776:=by unfold mag; split <;> omega
 have mb:0≤mag b∧mag b≤1099511627776:=by unfold mag; split <;> omega
 have hX:=mul_range ma.1 ma.2 mb.1 mb.2
 have hs:=rndM_sign (a:=a) (b:=b) hc
 have hng:∃ ng:Bool,fix_MulDiv.c1 k a b=some ng∧(decide (a<0) != decide (b<0))=ng:=by
  unfold fix_MulDiv.c1
  by_cases h:b<0
  ·rw [ilt_pos h,bT]
   exact ⟨_,rfl,by simp [h,ilt]⟩
  ·rw [ilt_neg (by omega),bF]
   exact ⟨_,rfl,by simp [h,ilt]⟩
 obtain ⟨ng,n1,n2⟩:=hng
 rw [n2] at hs
 have mc:mag c=c:=by unfold mag; rw [if_neg (by omega)]
 unfold fix_MulDiv
 rw [Clamp_eq,bS,CM_in ha.1 ha.2,Clamp_eq,bS,CM_in hb.1 hb.2,Clamp_eq,bS,CM_in (by omega) hc',ieq_neg (by omega),bF,n1,bS]
 have c2:fix_MulDiv.c2 k ng c=some ng:=by
  unfold fix_MulDiv.c2
  rw [ilt_neg (by omega),bF]
 rw [c2,bS,mag_eq k (by omega) hc',bS,mag_eq k ha.1 ha.2,bS,mag_eq k hb.1 hb.2,bS,Mul64_eq k ma.1 (by omega) mb.1 (by omega),bS,mc,← hs]
 dsimp only
 generalize mag a*mag b=X at *
 have hq:=Int.mul_ediv_add_emod X c
 have hr0:=Int.emod_nonneg X (show c≠0 by omega)
 have hr1:=Int.emod_lt_of_pos X hc
 have hq0:0≤X / c:=Int.ediv_nonneg hX.1 (by omega)
 have hR:rndM ng X c=if ng then -(if c+1≤2*(X % c) then X / c+1 else X / c) else (if c≤2*(X % c) then X / c+1 else X / c):=by
  unfold rndM
  conv=>lhs; rw [← hq]
  rw [rnd_up hr0 hr1,rnd_dn hr0 hr1]
 by_cases hbig:c≤X / 18446744073709551616
 ·rw [ige_pos hbig,bT]
  have hge:18446744073709551616≤X / c:=by
   rw [Int.le_ediv_iff_mul_le hc]
   omega
  rw [hR]
  cases ng with
  | true =>
   rw [bT]
   simp only [if_true]
   unfold CM
   rw [if_pos (by split <;> omega)]
  | false =>
   rw [bF]
   simp only [Bool.false_eq_true,if_false]
   unfold CM
   rw [if_neg (by split <;> omega),if_pos (by split <;> omega)]
 ·rw [ige_neg (by omega),bF,Div64_eq hk (by omega) (by omega) (by omega) (by omega) (by omega),bS]
  have hXX:X / 18446744073709551616*18446744073709551616+X % 18446744073709551616=X:=by omega
  rw [hXX]
  have hlt:X / c<18446744073709551616:=by
   rw [Int.ediv_lt_iff_lt_mul hc]
   have:X / 18446744073709551616*18446744073709551616≤(c - 1)*18446744073709551616:=Int.mul_le_mul_of_nonneg_right (by omega) (by decide)
   omega
  generalize X / c=q at *
  generalize X % c=r at *
  unfold fix_MulDiv.c3
  dsimp only
  by_cases h:1099511627776<q
  ·rw [igt_pos h,bT,bS]
   have e0:isub .u64 c 0=c:=by rw [isub_u64]; omega
   rw [hR]
   cases ng with
   | true =>
    rw [bT]
    unfold fix_MulDiv.c4
    dsimp only
    rw [e0,igt_neg (by omega),bF,bS,show icv .i64 1099511627777=1099511627777 from rfl,show ineg .i64 1099511627777=-1099511627777 from rfl,Clamp_eq,bS]
    simp only [if_true]
    congr 1
    unfold CM
    rw [if_pos (by omega),if_pos (by split <;> omega)]
   | false =>
    rw [bF]
    unfold fix_MulDiv.c5
    dsimp only
    rw [e0,ige_neg (by omega),bF,bS,show icv .i64 1099511627777=1099511627777 from rfl,Clamp_eq,bS]
    simp only [Bool.false_eq_true,if_false]
    congr 1
    unfold CM
    rw [if_neg (by omega),if_pos (by omega),if_neg (by split <;> omega),if_pos (by split <;> omega)]
  ·rw [igt_neg (by omega),bF,bS]
   have e0:isub .u64 c r=c - r:=by rw [isub_u64]; omega
   have e1:icv .i64 q=q:=icv_i64 (by omega) (by omega)
   have e2:iadd .i64 q 1=q+1:=iadd_i64 (by omega) (by omega)
   have e3:∀ z:Int,0≤z→z≤1099511627777→ineg .i64 z=-z:=by intro z a b; unfold ineg; rw [wrap_i64 (by omega) (by omega)]; omega
   rw [hR]
   cases ng with
   | true =>
    rw [bT]
    unfold fix_MulDiv.c4
    dsimp only
    rw [e0,e1,e2]
    simp only [if_true]
    by_cases h2:c+1≤2*r
    ·rw [igt_pos (by omega),bT,bS,e3 _ (by omega) (by omega),Clamp_eq,bS,if_pos h2]
    ·rw [igt_neg (by omega),bF,bS,e3 _ (by omega) (by omega),Clamp_eq,bS,if_neg h2]
   | false =>
    rw [bF]
    unfold fix_MulDiv.c5
    dsimp only
    rw [e0,e1,e2]
    simp only [Bool.false_eq_true,if_false]
    by_cases h2:c≤2*r
    ·rw [ige_pos (by omega),bT,bS,Clamp_eq,bS,if_pos h2]
    ·rw [ige_neg (by omega),bF,bS,Clamp_eq,bS,if_neg h2]
end Go.Proofs.T1
