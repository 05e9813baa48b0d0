import Derived.Test.YteibepmkkplpeaaGreatPlMade
namespace Go.Proofs.T1
open Go Go.Sx
def nj (ng:Bool) (X D:Int):Int:=if ng then -((2*X+D - 1) / (2*D)) else (2*X+D) / (2*D)
def fit (R:Int):Int × Int:=if -9223372036854775808≤R∧R≤9223372036854775807 then (R,0) else (0,2)
theorem nm {q r D c:Int} (hD:0<D) (h0:0≤c) (h1:c<2*D):(2*(D*q+r)+(c - 2*r)) / (2*D)=q:=by
 have e:2*(D*q+r)+(c - 2*r)=c+(2*D)*q:=by grind
 rw [e,Int.add_mul_ediv_left _ _ (by omega),Int.ediv_eq_zero_of_lt h0 h1];omega
theorem AN {q r D:Int} (hr:0≤r) (hr':r<D):(2*(D*q+r)+D) / (2*D)=if D≤2*r then q+1 else q:=by
 split
 ·have h:=nm (q:=q+1) (r:=r - D) (c:=2*r - D) (D:=D) (by omega) (by omega) (by omega)
  rw [show 2*(D*q+r)+D=2*(D*(q+1)+(r - D))+(2*r - D - 2*(r - D)) by grind];exact h
 ·have h:=nm (q:=q) (r:=r) (c:=2*r+D) (D:=D) (by omega) (by omega) (by omega)
  rw [show 2*(D*q+r)+D=2*(D*q+r)+(2*r+D - 2*r) by omega];exact h
theorem vQ {q r D:Int} (hr:0≤r) (hr':r<D):(2*(D*q+r)+D - 1) / (2*D)=if D+1≤2*r then q+1 else q:=by
 split
 ·have h:=nm (q:=q+1) (r:=r - D) (c:=2*r - D - 1) (D:=D) (by omega) (by omega) (by omega)
  rw [show 2*(D*q+r)+D - 1=2*(D*(q+1)+(r - D))+(2*r - D - 1 - 2*(r - D)) by grind];exact h
 ·have h:=nm (q:=q) (r:=r) (c:=2*r+D - 1) (D:=D) (by omega) (by omega) (by omega)
  rw [show 2*(D*q+r)+D - 1=2*(D*q+r)+(2*r+D - 1 - 2*r) by omega];exact h
theorem vf {k:Nat} (hk:2≤k) {m:gL} (hm:ov m) {X D:Int} {ng:Bool} (hX:X=m.1 % 18446744073709551616*18446744073709551616+m.2.1) (hD:0<D) (hD':D≤9223372036854775808) :
  (aX (iC (cR .u64 m.1) D) (some ((0:Int),(2:Int)))
  (bO (aB k (cR .u64 m.1) m.2.1 D) fun y11 =>
   bO (ae.c3 k (ng,D) y11) fun o15 =>
   bO (ae.c4 k o15 y11) fun o19 =>
   two o19 (fun _=>some ((0:Int),(2:Int))) (fun y23 =>
   bO (ae.c5 k (ng,D) y23) fun o26 =>
   aX o26 (some ((cR .i64 (dU .u64 y23)),0))
   (bO (ae.c6 k (ng,D) y23) fun o30=>aX o30 (some ((cR .i64 y23),0)) (some (0,2))))))=some (fit (nj ng X D)):=by
 have hm3:=hm.2.2.1;have hm4:=hm.2.2.2;have e1:cR .u64 m.1=m.1 % 18446744073709551616:=jr _;rw [e1];have hh0:0≤m.1 % 18446744073709551616:=Int.emod_nonneg _ (by decide);generalize m.1 % 18446744073709551616=hi at *
 have hq:=Int.mul_ediv_add_emod X D;have hr0:=Int.emod_nonneg X (show D≠0 by omega);have hr1:=Int.emod_lt_of_pos X hD;have hX0:0≤X:=by omega
 have hq0:0≤X / D:=Int.ediv_nonneg hX0 (by omega);have hR:nj ng X D=if ng then -(if D+1≤2*(X % D) then X / D+1 else X / D) else (if D≤2*(X % D) then X / D+1 else X / D):=by
  unfold nj
  conv=>lhs; rw [← hq]
  rw [AN hr0 hr1,vQ hr0 hr1]
 by_cases hc:D≤hi
 ·have c1:iC hi D=true:=il hc
  rw [c1,bT];have hge:18446744073709551616≤X / D:=by
   rw [Int.le_ediv_iff_mul_le hD];omega
  have:fit (nj ng X D)=(0,2):=by
   rw [hR];unfold fit;rw [if_neg];cases ng <;> simp only [Bool.false_eq_true,if_false,if_true] <;> split <;> omega
  rw [this]
 ·have c1:iC hi D=false:=gO (by omega)
  rw [c1,bF,tG hk hh0 (by omega) (by omega) hm3 hm4,← hX,bS];have hlt:X / D<18446744073709551616:=by
   rw [Int.ediv_lt_iff_lt_mul hD];have:hi*18446744073709551616≤(D - 1)*18446744073709551616:=Int.mul_le_mul_of_nonneg_right (by omega) (by decide);omega
  generalize X / D=q at *
  generalize X % D=r at *
  have e2:bQ .u64 D r=D - r:=by rw [jC]; omega
  have c3:ae.c3 k (ng,D) (q,r)=some (if ng then decide (D+1≤2*r) else decide (D≤2*r)):=by
   unfold ae.c3;dsimp only;rw [e2]
   by_cases h1:r > D - r
   ·rw [gH h1,bT]
    have a1:D+1≤2*r:=by omega
    have a2:D≤2*r:=by omega
    simp [a1,a2]
   ·rw [gd (by omega),bF]
    have a1:¬ D+1≤2*r:=by omega
    by_cases h2:r=D - r
    ·rw [fh h2,bT]
     have a2:D≤2*r:=by omega
     cases ng <;> simp [a1,a2]
    ·rw [eL h2,bF]
     have a2:¬ D≤2*r:=by omega
     simp [a1,a2]
  rw [c3,bS];have hu:∃ up:Bool,(if ng then decide (D+1≤2*r) else decide (D≤2*r))=up∧nj ng X D=if ng then -(if up then q+1 else q) else (if up then q+1 else q):=by
   refine ⟨_,rfl,?_⟩;rw [hR];cases ng <;> simp
  obtain ⟨up,u1,u2⟩:=hu;rw [u1,u2];unfold ae.c4
  have fin:∀ Q:Int,0≤Q→Q<18446744073709551616→(bO (ae.c5 k (ng,D) Q) fun o26 =>
   aX o26 (some ((cR .i64 (dU .u64 Q)),(0:Int)))
   (bO (ae.c6 k (ng,D) Q) fun o30=>aX o30 (some ((cR .i64 Q),0)) (some (0,2))))=some (fit (if ng then -Q else Q)):=by
   intro Q q0 q1;unfold ae.c5 ae.c6;cases ng with
   | true =>
    simp only [bT,bS,if_true]
    by_cases h:Q≤9223372036854775808
    ·rw [k8 h,bT]
     have:cR .i64 (dU .u64 Q)=-Q:=by
      rw [sN];unfold cR;rw [kL];split <;> omega
     rw [this];unfold fit;rw [if_pos (by omega)]
    ·rw [mB (by omega),bF,bF]
     unfold fit;rw [if_neg (by omega)]
   | false =>
    simp only [bF,bS,Bool.false_eq_true,if_false]
    by_cases h:Q<9223372036854775808
    ·rw [cg h,bT,mU (by omega) (by omega)]
     unfold fit;rw [if_pos (by omega)]
    ·rw [cp (by omega),bF]
     unfold fit;rw [if_neg (by omega)]
  cases up with
  | false =>
   rw [bF,bS,fN];exact fin q (by omega) hlt
  | true =>
   rw [bT,kF];dsimp only
   by_cases h:q=18446744073709551615
   ·subst h
    have:gI (((18446744073709551615:Int)+1) % 18446744073709551616) 0=true:=rfl;rw [this,bT,bS,gD];unfold fit;rw [if_neg];cases ng <;> simp <;> omega
   ·have e4:(q+1) % 18446744073709551616=q+1:=by omega
    rw [e4,eL (by omega),bF,bS,fN];exact fin (q+1) (by omega) (by omega)
def fO (x:Int):Int:=if x<0 then -x else x
theorem uh {k:Nat} (hk:2≤k) {w:gL} (hw:ov w) {n:Int} (hn:xf n) (h0:n≠0) :
  ae k w n=some (fit (nj (decide (wv w<0) != decide (n<0)) (fO (wv w)) (fO n))):=by
 have hwv:wv w=w.1*18446744073709551616+w.2.1:=rfl;unfold xf at hn;have c1:∃ m,ae.c1 k w=some m∧ov m∧fO (wv w)=m.1 % 18446744073709551616*18446744073709551616+m.2.1:=by
  unfold ae.c1;unfold ov at hw
  by_cases hneg:w.1<0
  ·have hlt:wv w<0:=by omega
   obtain ⟨m,h1,h2,h3⟩:=yM k (a:=((0:Int),(0:Int),())) (b:=w) ⟨by decide,by decide,by decide,by decide⟩ hw;refine ⟨m,?_,h2,?_⟩
   ·rw [cg hneg,bT,h1,bS]
   ·have e0:wv ((0:Int),(0:Int),())=0:=rfl
    rw [e0] at h3;unfold ov at h2;have h8:wv m=m.1*18446744073709551616+m.2.1:=rfl;unfold fO;rw [if_pos hlt];omega
  ·have hge:¬ wv w<0:=by omega
   refine ⟨w,by rw [cp (by omega),bF],hw,?_⟩;unfold fO;rw [if_neg hge];omega
 obtain ⟨m,e1,hm,hmv⟩:=c1;have hneg:fy w.1 0=decide (wv w<0):=by
  unfold fy;unfold ov at hw;rw [decide_eq_decide];omega
 unfold ae;rw [eL h0,bF,e1,bS];have c2:ae.c2 k w n=some ((decide (wv w<0) != decide (n<0)),fO n):=by
  unfold ae.c2 fO;rw [hneg]
  by_cases h:n<0
  ·rw [cg h,bT,if_pos h,jr,sN]
   congr 2
   ·simp [h]
   ·omega
  ·rw [cp (by omega),bF,if_neg h,jr]
   congr 2
   ·simp [h]
   ·omega
 rw [c2,bS];refine vf hk hm hmv ?_ ?_
 ·unfold fO
  split <;> omega
 ·unfold fO
  split <;> omega
def iH (x n:Int):Int:=(2*x+n) / (2*n)
theorem rz {x n:Int} (hn:0<n):nj (decide (x<0) != decide (n<0)) (fO x) (fO n)=iH x n:=by
 have hnn:¬ n<0:=by omega
 unfold fO nj iH;rw [if_neg hnn]
 by_cases hx:x<0
 ·simp only [hx,hnn,decide_true,decide_false,if_true]
  have e:(true != false)=true:=rfl;rw [e,if_pos rfl];have hq:=Int.mul_ediv_add_emod (-x) n;have hr0:=Int.emod_nonneg (-x) (show n≠0 by omega);have hr1:=Int.emod_lt_of_pos (-x) hn;generalize (-x) / n=q at *
  generalize (-x) % n=r at *
  rw [← hq,vQ hr0 hr1];have hx2:2*x+n=-2*(n*q+r)+n:=by omega
  rw [hx2];split
  ·have h:=nm (q:=-(q+1)) (r:=0) (c:=3*n - 2*r) (D:=n) hn (by omega) (by omega)
   rw [show -2*(n*q+r)+n=2*(n*-(q+1)+0)+(3*n - 2*r - 2*0) by grind];exact h.symm
  ·have h:=nm (q:=-q) (r:=0) (c:=n - 2*r) (D:=n) hn (by omega) (by omega)
   rw [show -2*(n*q+r)+n=2*(n*-q+0)+(n - 2*r - 2*0) by grind];exact h.symm
 ·simp only [hx,hnn,decide_false,if_false]
  rfl
theorem pt {k:Nat} (hk:2≤k) {w:gL} (hw:ov w) {n:Int} (hn:0<n) (hn':n≤9223372036854775807):ae k w n=some (fit (iH (wv w) n)):=by
 rw [uh hk hw ⟨by omega,hn'⟩ (by omega),rz hn]
theorem Cb {x n c:Int} (hn:0<n):iH (x+n*c) n=iH x n+c:=by
 unfold iH;have e:2*(x+n*c)+n=2*x+n+2*n*c:=by grind
 rw [e,Int.add_mul_ediv_left _ _ (by omega)]
theorem nH {x n c:Int} (hn:0<n) (h0:-(n*c)≤x) (h1:x≤n*c):-c≤iH x n∧iH x n≤c:=by
 unfold iH;constructor
 ·rw [Int.le_ediv_iff_mul_le (by omega)]
  have e:-c*(2*n)=2*-(n*c):=by grind
  omega
 ·have:(2*x+n) / (2*n)<c+1:=by
   rw [Int.ediv_lt_iff_lt_mul (by omega)];have e:(c+1)*(2*n)=2*(n*c)+2*n:=by grind
   omega
  omega
theorem r6 {R:Int} (h:-9223372036854775808≤R∧R≤9223372036854775807):fit R=(R,0):=if_pos h
end Go.Proofs.T1
namespace Go.Proofs.T1
open Go Go.Sx
def CM (x:Int):Int:=if x < -1099511627776 then -1099511627776 else if 1099511627776<x then 1099511627776 else x
theorem fR (k:Nat) (x:Int):cT k x=some (CM x):=by
 unfold cT CM fH imax;congr 1;split <;> split <;> omega
theorem n5 (x:Int):-1099511627776≤CM x∧CM x≤1099511627776:=by
 unfold CM;split
 ·omega
 ·split <;> omega
theorem iB {x:Int} (h0:-1099511627776≤x) (h1:x≤1099511627776):CM x=x:=by
 unfold CM;rw [if_neg (by omega),if_neg (by omega)]
theorem vL (k:Nat) {x:Int} (h0:-1099511627776≤x) (h1:x≤1099511627776):gm k x=some (fO x):=by
 unfold gm fO
 by_cases h:x<0
 ·rw [cg h,bT,if_pos h]
  have:dU .i64 x=-x:=by unfold dU; rw [wrap_i64 (by omega) (by omega)]; omega
  rw [this,jr];congr 1;omega
 ·rw [cp (by omega),bF,if_neg h,jr]
  congr 1;omega
theorem kY {t:Bool} {c:Int} (hc:0<c):nj t 0 c=0:=by
 unfold nj;cases t
 ·simp only [Bool.false_eq_true,if_false]
  exact Int.ediv_eq_zero_of_lt (by omega) (by omega)
 ·simp only [if_true]
  rw [Int.ediv_eq_zero_of_lt (by omega) (by omega)];decide
theorem xx {a b c:Int} (hc:0<c):nj (decide (a<0) != decide (b<0)) (fO a*fO b) c=iH (a*b) c:=by
 have h:=rz (x:=a*b) hc;have hcc:fO c=c:=by unfold fO; rw [if_neg (by omega)]
 have hc0:decide (c<0)=false:=decide_eq_false (by omega);rw [hcc,hc0] at h;have hm:fO (a*b)=fO a*fO b:=by
  unfold fO
  by_cases ha:a<0 <;> by_cases hb:b<0 <;> simp only [ha,hb,if_true,if_false]
  ·have h1:0<(-a)*(-b):=Int.mul_pos (by omega) (by omega)
   have e:(-a)*(-b)=a*b:=by grind
   rw [if_neg (by omega),e]
  ·have h1:0≤(-a)*b:=Int.mul_nonneg (by omega) (by omega)
   have e:(-a)*b=-(a*b):=by grind
   split <;> omega
  ·have h1:0≤a*(-b):=Int.mul_nonneg (by omega) (by omega)
   have e:a*(-b)=-(a*b):=by grind
   split <;> omega
  ·have h1:0≤a*b:=Int.mul_nonneg (by omega) (by omega)
   rw [if_neg (by omega)]
 rw [← h,hm]
 by_cases hz:a*b=0
 ·rw [← hm,hz]
  have:fO 0=0:=rfl;rw [this,kY hc,kY hc]
 ·congr 1
  have ha0:a≠0:=fun h=>hz (by rw [h]; simp);have hb0:b≠0:=fun h=>hz (by rw [h]; simp)
  by_cases ha:a<0 <;> by_cases hb:b<0
  ·have h1:0<(-a)*(-b):=Int.mul_pos (by omega) (by omega)
   have e:(-a)*(-b)=a*b:=by grind
   have:¬ a*b<0:=by omega
   simp [ha,hb,this]
  ·have h1:0<(-a)*b:=Int.mul_pos (by omega) (by omega)
   have e:(-a)*b=-(a*b):=by grind
   have:a*b<0:=by omega
   simp [ha,hb,this]
  ·have h1:0<a*(-b):=Int.mul_pos (by omega) (by omega)
   have e:a*(-b)=-(a*b):=by grind
   have:a*b<0:=by omega
   simp [ha,hb,this]
  ·have h1:0<a*b:=Int.mul_pos (by omega) (by omega)
   have:¬ a*b<0:=by omega
   simp [ha,hb,this]
theorem vI {k:Nat} (hk:2≤k) {a b c:Int} (ha:-1099511627776≤a∧a≤1099511627776) (hb:-1099511627776≤b∧b≤1099511627776) (hc:0<c) (hc':c≤1099511627776) :
  ax k a b c=some (CM (iH (a*b) c)):=by
 have ma:0≤fO a∧fO a≤1099511627776:=by unfold fO; split <;> omega
 have mb:0≤fO b∧fO b≤1099511627776:=by unfold fO; split <;> omega
 have hX:=iX ma.1 ma.2 mb.1 mb.2;have hs:=xx (a:=a) (b:=b) hc;have hng:∃ ng:Bool,ax.c1 k a b=some ng∧(decide (a<0) != decide (b<0))=ng:=by
  unfold ax.c1
  by_cases h:b<0
  ·rw [cg h,bT]
   exact ⟨_,rfl,by simp [h,fy]⟩
  ·rw [cp (by omega),bF]
   exact ⟨_,rfl,by simp [h,fy]⟩
 obtain ⟨ng,n1,n2⟩:=hng;rw [n2] at hs;have mc:fO c=c:=by unfold fO; rw [if_neg (by omega)]
 unfold ax;rw [fR,bS,iB ha.1 ha.2,fR,bS,iB hb.1 hb.2,fR,bS,iB (by omega) hc',eL (by omega),bF,n1,bS];have c2:ax.c2 k ng c=some ng:=by
  unfold ax.c2;rw [cp (by omega),bF]
 rw [c2,bS,vL k (by omega) hc',bS,vL k ha.1 ha.2,bS,vL k hb.1 hb.2,bS,kI k ma.1 (by omega) mb.1 (by omega),bS,mc,← hs];dsimp only;generalize fO a*fO b=X at *
 have hq:=Int.mul_ediv_add_emod X c;have hr0:=Int.emod_nonneg X (show c≠0 by omega);have hr1:=Int.emod_lt_of_pos X hc;have hq0:0≤X / c:=Int.ediv_nonneg hX.1 (by omega);have hR:nj ng X c=if ng then -(if c+1≤2*(X % c) then X / c+1 else X / c) else (if c≤2*(X % c) then X / c+1 else X / c):=by
  unfold nj
  conv=>lhs; rw [← hq]
  rw [AN hr0 hr1,vQ hr0 hr1]
 by_cases hbig:c≤X / 18446744073709551616
 ·rw [il hbig,bT]
  have hge:18446744073709551616≤X / c:=by
   rw [Int.le_ediv_iff_mul_le hc];omega
  rw [hR];cases ng with
  | true =>
   rw [bT];simp only [if_true];unfold CM;rw [if_pos (by split <;> omega)]
  | false =>
   rw [bF];simp only [Bool.false_eq_true,if_false];unfold CM;rw [if_neg (by split <;> omega),if_pos (by split <;> omega)]
 ·rw [gO (by omega),bF,tG hk (by omega) (by omega) (by omega) (by omega) (by omega),bS]
  have hXX:X / 18446744073709551616*18446744073709551616+X % 18446744073709551616=X:=by omega
  rw [hXX];have hlt:X / c<18446744073709551616:=by
   rw [Int.ediv_lt_iff_lt_mul hc];have:X / 18446744073709551616*18446744073709551616≤(c - 1)*18446744073709551616:=Int.mul_le_mul_of_nonneg_right (by omega) (by decide);omega
  generalize X / c=q at *
  generalize X % c=r at *
  unfold ax.c3;dsimp only
  by_cases h:1099511627776<q
  ·rw [gH h,bT,bS]
   have e0:bQ .u64 c 0=c:=by rw [jC]; omega
   rw [hR];cases ng with
   | true =>
    rw [bT];unfold ax.c4;dsimp only;rw [e0,gd (by omega),bF,bS,show cR .i64 1099511627777=1099511627777 from rfl,show dU .i64 1099511627777=-1099511627777 from rfl,fR,bS];simp only [if_true];congr 1;unfold CM;rw [if_pos (by omega),if_pos (by split <;> omega)]
   | false =>
    rw [bF];unfold ax.c5;dsimp only;rw [e0,gO (by omega),bF,bS,show cR .i64 1099511627777=1099511627777 from rfl,fR,bS];simp only [Bool.false_eq_true,if_false];congr 1;unfold CM;rw [if_neg (by omega),if_pos (by omega),if_neg (by split <;> omega),if_pos (by split <;> omega)]
  ·rw [gd (by omega),bF,bS]
   have e0:bQ .u64 c r=c - r:=by rw [jC]; omega
   have e1:cR .i64 q=q:=mU (by omega) (by omega);have e2:aG .i64 q 1=q+1:=bJ (by omega) (by omega);have e3:∀ z:Int,0≤z→z≤1099511627777→dU .i64 z=-z:=by intro z a b; unfold dU; rw [wrap_i64 (by omega) (by omega)]; omega
   rw [hR];cases ng with
   | true =>
    rw [bT];unfold ax.c4;dsimp only;rw [e0,e1,e2];simp only [if_true]
    by_cases h2:c+1≤2*r
    ·rw [gH (by omega),bT,bS,e3 _ (by omega) (by omega),fR,bS,if_pos h2]
    ·rw [gd (by omega),bF,bS,e3 _ (by omega) (by omega),fR,bS,if_neg h2]
   | false =>
    rw [bF];unfold ax.c5;dsimp only;rw [e0,e1,e2];simp only [Bool.false_eq_true,if_false]
    by_cases h2:c≤2*r
    ·rw [il (by omega),bT,bS,fR,bS,if_pos h2]
    ·rw [gO (by omega),bF,bS,fR,bS,if_neg h2]
end Go.Proofs.T1
