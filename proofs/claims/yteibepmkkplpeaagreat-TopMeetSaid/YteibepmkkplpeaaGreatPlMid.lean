import Derived.Test.YteibepmkkplpeaaGreatPlMade
namespace Go.Proofs.T1
open Go Go.Sx
def ov (ng:Bool) (X D:Int):Int:=if ng then -((2*X+D - 1) / (2*D)) else (2*X+D) / (2*D)
def fit (R:Int):Int × Int:=if -9223372036854775808≤R∧R≤9223372036854775807 then (R,0) else (0,2)
theorem oE {q r D c:Int} (hD:0<D) (h0:0≤c) (h1:c<2*D):(2*(D*q+r)+(c - 2*r)) / (2*D)=q:=by
 have e:2*(D*q+r)+(c - 2*r)=c+(2*D)*q:=by grind
 rw [e,Int.add_mul_ediv_left _ _ (by omega),Int.ediv_eq_zero_of_lt h0 h1];omega
theorem Cg {q r D:Int} (hr:0≤r) (hr':r<D):(2*(D*q+r)+D) / (2*D)=if D≤2*r then q+1 else q:=by
 split
 ·have h:=oE (q:=q+1) (r:=r - D) (c:=2*r - D) (D:=D) (by omega) (by omega) (by omega)
  rw [show 2*(D*q+r)+D=2*(D*(q+1)+(r - D))+(2*r - D - 2*(r - D)) by grind];exact h
 ·have h:=oE (q:=q) (r:=r) (c:=2*r+D) (D:=D) (by omega) (by omega) (by omega)
  rw [show 2*(D*q+r)+D=2*(D*q+r)+(2*r+D - 2*r) by omega];exact h
theorem wE {q r D:Int} (hr:0≤r) (hr':r<D):(2*(D*q+r)+D - 1) / (2*D)=if D+1≤2*r then q+1 else q:=by
 split
 ·have h:=oE (q:=q+1) (r:=r - D) (c:=2*r - D - 1) (D:=D) (by omega) (by omega) (by omega)
  rw [show 2*(D*q+r)+D - 1=2*(D*(q+1)+(r - D))+(2*r - D - 1 - 2*(r - D)) by grind];exact h
 ·have h:=oE (q:=q) (r:=r) (c:=2*r+D - 1) (D:=D) (by omega) (by omega) (by omega)
  rw [show 2*(D*q+r)+D - 1=2*(D*q+r)+(2*r+D - 1 - 2*r) by omega];exact h
theorem xk {k:Nat} (hk:2≤k) {m:gz} (hm:oX m) {X D:Int} {ng:Bool} (hX:X=m.1 % 18446744073709551616*18446744073709551616+m.2.1) (hD:0<D) (hD':D≤9223372036854775808) :
  (aR (jd (cU .u64 m.1) D) (some ((0:Int),(2:Int)))
  (bG (ay k (cU .u64 m.1) m.2.1 D) fun y11 =>
   bG (aa.c3 k (ng,D) y11) fun o15 =>
   bG (aa.c4 k o15 y11) fun o19 =>
   two o19 (fun _=>some ((0:Int),(2:Int))) (fun y23 =>
   bG (aa.c5 k (ng,D) y23) fun o26 =>
   aR o26 (some ((cU .i64 (c9 .u64 y23)),0))
   (bG (aa.c6 k (ng,D) y23) fun o30=>aR o30 (some ((cU .i64 y23),0)) (some (0,2))))))=some (fit (ov ng X D)):=by
 have hm3:=hm.2.2.1;have hm4:=hm.2.2.2;have e1:cU .u64 m.1=m.1 % 18446744073709551616:=jY _;rw [e1];have hh0:0≤m.1 % 18446744073709551616:=Int.emod_nonneg _ (by decide);generalize m.1 % 18446744073709551616=hi at *
 have hq:=Int.mul_ediv_add_emod X D;have hr0:=Int.emod_nonneg X (show D≠0 by omega);have hr1:=Int.emod_lt_of_pos X hD;have hX0:0≤X:=by omega
 have hq0:0≤X / D:=Int.ediv_nonneg hX0 (by omega);have hR:ov ng X D=if ng then -(if D+1≤2*(X % D) then X / D+1 else X / D) else (if D≤2*(X % D) then X / D+1 else X / D):=by
  unfold ov
  conv=>lhs; rw [← hq]
  rw [Cg hr0 hr1,wE hr0 hr1]
 by_cases hc:D≤hi
 ·have c1:jd hi D=true:=iV hc
  rw [c1,bT];have hge:18446744073709551616≤X / D:=by
   rw [Int.le_ediv_iff_mul_le hD];omega
  have:fit (ov ng X D)=(0,2):=by
   rw [hR];unfold fit;rw [if_neg];cases ng <;> simp only [Bool.false_eq_true,if_false,if_true] <;> split <;> omega
  rw [this]
 ·have c1:jd hi D=false:=jZ (by omega)
  rw [c1,bF,vV hk hh0 (by omega) (by omega) hm3 hm4,← hX,bS];have hlt:X / D<18446744073709551616:=by
   rw [Int.ediv_lt_iff_lt_mul hD];have:hi*18446744073709551616≤(D - 1)*18446744073709551616:=Int.mul_le_mul_of_nonneg_right (by omega) (by decide);omega
  generalize X / D=q at *
  generalize X % D=r at *
  have e2:aU .u64 D r=D - r:=by rw [kh]; omega
  have c3:aa.c3 k (ng,D) (q,r)=some (if ng then decide (D+1≤2*r) else decide (D≤2*r)):=by
   unfold aa.c3;dsimp only;rw [e2]
   by_cases h1:r > D - r
   ·rw [iR h1,bT]
    have a1:D+1≤2*r:=by omega
    have a2:D≤2*r:=by omega
    simp [a1,a2]
   ·rw [il (by omega),bF]
    have a1:¬ D+1≤2*r:=by omega
    by_cases h2:r=D - r
    ·rw [fw h2,bT]
     have a2:D≤2*r:=by omega
     cases ng <;> simp [a1,a2]
    ·rw [fu h2,bF]
     have a2:¬ D≤2*r:=by omega
     simp [a1,a2]
  rw [c3,bS];have hu:∃ up:Bool,(if ng then decide (D+1≤2*r) else decide (D≤2*r))=up∧ov ng X D=if ng then -(if up then q+1 else q) else (if up then q+1 else q):=by
   refine ⟨_,rfl,?_⟩;rw [hR];cases ng <;> simp
  obtain ⟨up,u1,u2⟩:=hu;rw [u1,u2];unfold aa.c4
  have fin:∀ Q:Int,0≤Q→Q<18446744073709551616→(bG (aa.c5 k (ng,D) Q) fun o26 =>
   aR o26 (some ((cU .i64 (c9 .u64 Q)),(0:Int)))
   (bG (aa.c6 k (ng,D) Q) fun o30=>aR o30 (some ((cU .i64 Q),0)) (some (0,2))))=some (fit (if ng then -Q else Q)):=by
   intro Q q0 q1;unfold aa.c5 aa.c6;cases ng with
   | true =>
    simp only [bT,bS,if_true]
    by_cases h:Q≤9223372036854775808
    ·rw [kU h,bT]
     have:cU .i64 (c9 .u64 Q)=-Q:=by
      rw [vY];unfold cU;rw [lR];split <;> omega
     rw [this];unfold fit;rw [if_pos (by omega)]
    ·rw [mr (by omega),bF,bF]
     unfold fit;rw [if_neg (by omega)]
   | false =>
    simp only [bF,bS,Bool.false_eq_true,if_false]
    by_cases h:Q<9223372036854775808
    ·rw [cB h,bT,n5 (by omega) (by omega)]
     unfold fit;rw [if_pos (by omega)]
    ·rw [cD (by omega),bF]
     unfold fit;rw [if_neg (by omega)]
  cases up with
  | false =>
   rw [bF,bS,ig];exact fin q (by omega) hlt
  | true =>
   rw [bT,lO];dsimp only
   by_cases h:q=18446744073709551615
   ·subst h
    have:gX (((18446744073709551615:Int)+1) % 18446744073709551616) 0=true:=rfl;rw [this,bT,bS,ir];unfold fit;rw [if_neg];cases ng <;> simp <;> omega
   ·have e4:(q+1) % 18446744073709551616=q+1:=by omega
    rw [e4,fu (by omega),bF,bS,ig];exact fin (q+1) (by omega) (by omega)
def gp (x:Int):Int:=if x<0 then -x else x
theorem vz {k:Nat} (hk:2≤k) {w:gz} (hw:oX w) {n:Int} (hn:lG n) (h0:n≠0) :
  aa k w n=some (fit (ov (decide (wv w<0) != decide (n<0)) (gp (wv w)) (gp n))):=by
 have hwv:wv w=w.1*18446744073709551616+w.2.1:=rfl;unfold lG at hn;have c1:∃ m,aa.c1 k w=some m∧oX m∧gp (wv w)=m.1 % 18446744073709551616*18446744073709551616+m.2.1:=by
  unfold aa.c1;unfold oX at hw
  by_cases hneg:w.1<0
  ·have hlt:wv w<0:=by omega
   obtain ⟨m,h1,h2,h3⟩:=Bf k (a:=((0:Int),(0:Int),())) (b:=w) ⟨by decide,by decide,by decide,by decide⟩ hw;refine ⟨m,?_,h2,?_⟩
   ·rw [cB hneg,bT,h1,bS]
   ·have e0:wv ((0:Int),(0:Int),())=0:=rfl
    rw [e0] at h3;unfold oX at h2;have h8:wv m=m.1*18446744073709551616+m.2.1:=rfl;unfold gp;rw [if_pos hlt];omega
  ·have hge:¬ wv w<0:=by omega
   refine ⟨w,by rw [cD (by omega),bF],hw,?_⟩;unfold gp;rw [if_neg hge];omega
 obtain ⟨m,e1,hm,hmv⟩:=c1;have hneg:fq w.1 0=decide (wv w<0):=by
  unfold fq;unfold oX at hw;rw [decide_eq_decide];omega
 unfold aa;rw [fu h0,bF,e1,bS];have c2:aa.c2 k w n=some ((decide (wv w<0) != decide (n<0)),gp n):=by
  unfold aa.c2 gp;rw [hneg]
  by_cases h:n<0
  ·rw [cB h,bT,if_pos h,jY,vY]
   congr 2
   ·simp [h]
   ·omega
  ·rw [cD (by omega),bF,if_neg h,jY]
   congr 2
   ·simp [h]
   ·omega
 rw [c2,bS];refine xk hk hm hmv ?_ ?_
 ·unfold gp
  split <;> omega
 ·unfold gp
  split <;> omega
def jg (x n:Int):Int:=(2*x+n) / (2*n)
theorem tL {x n:Int} (hn:0<n):ov (decide (x<0) != decide (n<0)) (gp x) (gp n)=jg x n:=by
 have hnn:¬ n<0:=by omega
 unfold gp ov jg;rw [if_neg hnn]
 by_cases hx:x<0
 ·simp only [hx,hnn,decide_true,decide_false,if_true]
  have e:(true != false)=true:=rfl;rw [e,if_pos rfl];have hq:=Int.mul_ediv_add_emod (-x) n;have hr0:=Int.emod_nonneg (-x) (show n≠0 by omega);have hr1:=Int.emod_lt_of_pos (-x) hn;generalize (-x) / n=q at *
  generalize (-x) % n=r at *
  rw [← hq,wE hr0 hr1];have hx2:2*x+n=-2*(n*q+r)+n:=by omega
  rw [hx2];split
  ·have h:=oE (q:=-(q+1)) (r:=0) (c:=3*n - 2*r) (D:=n) hn (by omega) (by omega)
   rw [show -2*(n*q+r)+n=2*(n*-(q+1)+0)+(3*n - 2*r - 2*0) by grind];exact h.symm
  ·have h:=oE (q:=-q) (r:=0) (c:=n - 2*r) (D:=n) hn (by omega) (by omega)
   rw [show -2*(n*q+r)+n=2*(n*-q+0)+(n - 2*r - 2*0) by grind];exact h.symm
 ·simp only [hx,hnn,decide_false,if_false]
  rfl
theorem qQ {k:Nat} (hk:2≤k) {w:gz} (hw:oX w) {n:Int} (hn:0<n) (hn':n≤9223372036854775807):aa k w n=some (fit (jg (wv w) n)):=by
 rw [vz hk hw ⟨by omega,hn'⟩ (by omega),tL hn]
theorem DU {x n c:Int} (hn:0<n):jg (x+n*c) n=jg x n+c:=by
 unfold jg;have e:2*(x+n*c)+n=2*x+n+2*n*c:=by grind
 rw [e,Int.add_mul_ediv_left _ _ (by omega)]
theorem mP {x n c:Int} (hn:0<n) (h0:-(n*c)≤x) (h1:x≤n*c):-c≤jg x n∧jg x n≤c:=by
 unfold jg;constructor
 ·rw [Int.le_ediv_iff_mul_le (by omega)]
  have e:-c*(2*n)=2*-(n*c):=by grind
  omega
 ·have:(2*x+n) / (2*n)<c+1:=by
   rw [Int.ediv_lt_iff_lt_mul (by omega)];have e:(c+1)*(2*n)=2*(n*c)+2*n:=by grind
   omega
  omega
theorem su {R:Int} (h:-9223372036854775808≤R∧R≤9223372036854775807):fit R=(R,0):=if_pos h
end Go.Proofs.T1
namespace Go.Proofs.T1
open Go Go.Sx
def CM (x:Int):Int:=if x < -1099511627776 then -1099511627776 else if 1099511627776<x then 1099511627776 else x
theorem gq (k:Nat) (x:Int):cX k x=some (CM x):=by
 unfold cX CM gA imax;congr 1;split <;> split <;> omega
theorem oY (x:Int):-1099511627776≤CM x∧CM x≤1099511627776:=by
 unfold CM;split
 ·omega
 ·split <;> omega
theorem ja {x:Int} (h0:-1099511627776≤x) (h1:x≤1099511627776):CM x=x:=by
 unfold CM;rw [if_neg (by omega),if_neg (by omega)]
theorem wW (k:Nat) {x:Int} (h0:-1099511627776≤x) (h1:x≤1099511627776):gL k x=some (gp x):=by
 unfold gL gp
 by_cases h:x<0
 ·rw [cB h,bT,if_pos h]
  have:c9 .i64 x=-x:=by unfold c9; rw [wrap_i64 (by omega) (by omega)]; omega
  rw [this,jY];congr 1;omega
 ·rw [cD (by omega),bF,if_neg h,jY]
  congr 1;omega
theorem mq {t:Bool} {c:Int} (hc:0<c):ov t 0 c=0:=by
 unfold ov;cases t
 ·simp only [Bool.false_eq_true,if_false]
  exact Int.ediv_eq_zero_of_lt (by omega) (by omega)
 ·simp only [if_true]
  rw [Int.ediv_eq_zero_of_lt (by omega) (by omega)];decide
theorem zO {a b c:Int} (hc:0<c):ov (decide (a<0) != decide (b<0)) (gp a*gp b) c=jg (a*b) c:=by
 have h:=tL (x:=a*b) hc;have hcc:gp c=c:=by unfold gp; rw [if_neg (by omega)]
 have hc0:decide (c<0)=false:=decide_eq_false (by omega);rw [hcc,hc0] at h;have hm:gp (a*b)=gp a*gp b:=by
  unfold gp
  by_cases ha:a<0 <;> by_cases hb:b<0 <;> simp only [ha,hb,if_true,if_false]
  ·have h1:0<(-a)*(-b):=Int.mul_pos (by omega) (by omega)
   have e:(-a)*(-b)=a*b:=by grind
   rw [if_neg (by omega),e]
  ·have h1:0≤(-a)*b:=Int.mul_nonneg (by omega) (by omega)
   have e:(-a)*b=-(a*b):=by grind
   split <;> omega
  ·have h1:0≤a*(-b):=Int.mul_nonneg (by omega) (by omega)
   have e:a*(-b)=-(a*b):=by grind
   split <;> omega
  ·have h1:0≤a*b:=Int.mul_nonneg (by omega) (by omega)
   rw [if_neg (by omega)]
 rw [← h,hm]
 by_cases hz:a*b=0
 ·rw [← hm,hz]
  have:gp 0=0:=rfl;rw [this,mq hc,mq hc]
 ·congr 1
  have ha0:a≠0:=fun h=>hz (by rw [h]; simp);have zU:b≠0:=fun h=>hz (by rw [h]; simp)
  by_cases ha:a<0 <;> by_cases hb:b<0
  ·have h1:0<(-a)*(-b):=Int.mul_pos (by omega) (by omega)
   have e:(-a)*(-b)=a*b:=by grind
   have:¬ a*b<0:=by omega
   simp [ha,hb,this]
  ·have h1:0<(-a)*b:=Int.mul_pos (by omega) (by omega)
   have e:(-a)*b=-(a*b):=by grind
   have:a*b<0:=by omega
   simp [ha,hb,this]
  ·have h1:0<a*(-b):=Int.mul_pos (by omega) (by omega)
   have e:a*(-b)=-(a*b):=by grind
   have:a*b<0:=by omega
   simp [ha,hb,this]
  ·have h1:0<a*b:=Int.mul_pos (by omega) (by omega)
   have:¬ a*b<0:=by omega
   simp [ha,hb,this]
theorem wo {k:Nat} (hk:2≤k) {a b c:Int} (ha:-1099511627776≤a∧a≤1099511627776) (hb:-1099511627776≤b∧b≤1099511627776) (hc:0<c) (hc':c≤1099511627776) :
  aq k a b c=some (CM (jg (a*b) c)):=by
 have ma:0≤gp a∧gp a≤1099511627776:=by unfold gp; split <;> omega
 have mb:0≤gp b∧gp b≤1099511627776:=by unfold gp; split <;> omega
 have hX:=jB ma.1 ma.2 mb.1 mb.2;have hs:=zO (a:=a) (b:=b) hc;have hng:∃ ng:Bool,aq.c1 k a b=some ng∧(decide (a<0) != decide (b<0))=ng:=by
  unfold aq.c1
  by_cases h:b<0
  ·rw [cB h,bT]
   exact ⟨_,rfl,by simp [h,fq]⟩
  ·rw [cD (by omega),bF]
   exact ⟨_,rfl,by simp [h,fq]⟩
 obtain ⟨ng,n1,n2⟩:=hng;rw [n2] at hs;have mc:gp c=c:=by unfold gp; rw [if_neg (by omega)]
 unfold aq;rw [gq,bS,ja ha.1 ha.2,gq,bS,ja hb.1 hb.2,gq,bS,ja (by omega) hc',fu (by omega),bF,n1,bS];have c2:aq.c2 k ng c=some ng:=by
  unfold aq.c2;rw [cD (by omega),bF]
 rw [c2,bS,wW k (by omega) hc',bS,wW k ha.1 ha.2,bS,wW k hb.1 hb.2,bS,lI k ma.1 (by omega) mb.1 (by omega),bS,mc,← hs];dsimp only;generalize gp a*gp b=X at *
 have hq:=Int.mul_ediv_add_emod X c;have hr0:=Int.emod_nonneg X (show c≠0 by omega);have hr1:=Int.emod_lt_of_pos X hc;have hq0:0≤X / c:=Int.ediv_nonneg hX.1 (by omega);have hR:ov ng X c=if ng then -(if c+1≤2*(X % c) then X / c+1 else X / c) else (if c≤2*(X % c) then X / c+1 else X / c):=by
  unfold ov
  conv=>lhs; rw [← hq]
  rw [Cg hr0 hr1,wE hr0 hr1]
 by_cases hbig:c≤X / 18446744073709551616
 ·rw [iV hbig,bT]
  have hge:18446744073709551616≤X / c:=by
   rw [Int.le_ediv_iff_mul_le hc];omega
  rw [hR];cases ng with
  | true =>
   rw [bT];simp only [if_true];unfold CM;rw [if_pos (by split <;> omega)]
  | false =>
   rw [bF];simp only [Bool.false_eq_true,if_false];unfold CM;rw [if_neg (by split <;> omega),if_pos (by split <;> omega)]
 ·rw [jZ (by omega),bF,vV hk (by omega) (by omega) (by omega) (by omega) (by omega),bS]
  have hXX:X / 18446744073709551616*18446744073709551616+X % 18446744073709551616=X:=by omega
  rw [hXX];have hlt:X / c<18446744073709551616:=by
   rw [Int.ediv_lt_iff_lt_mul hc];have:X / 18446744073709551616*18446744073709551616≤(c - 1)*18446744073709551616:=Int.mul_le_mul_of_nonneg_right (by omega) (by decide);omega
  generalize X / c=q at *
  generalize X % c=r at *
  unfold aq.c3;dsimp only
  by_cases h:1099511627776<q
  ·rw [iR h,bT,bS]
   have e0:aU .u64 c 0=c:=by rw [kh]; omega
   rw [hR];cases ng with
   | true =>
    rw [bT];unfold aq.c4;dsimp only;rw [e0,il (by omega),bF,bS,show cU .i64 1099511627777=1099511627777 from rfl,show c9 .i64 1099511627777=-1099511627777 from rfl,gq,bS];simp only [if_true];congr 1;unfold CM;rw [if_pos (by omega),if_pos (by split <;> omega)]
   | false =>
    rw [bF];unfold aq.c5;dsimp only;rw [e0,jZ (by omega),bF,bS,show cU .i64 1099511627777=1099511627777 from rfl,gq,bS];simp only [Bool.false_eq_true,if_false];congr 1;unfold CM;rw [if_neg (by omega),if_pos (by omega),if_neg (by split <;> omega),if_pos (by split <;> omega)]
  ·rw [il (by omega),bF,bS]
   have e0:aU .u64 c r=c - r:=by rw [kh]; omega
   have e1:cU .i64 q=q:=n5 (by omega) (by omega);have e2:ag .i64 q 1=q+1:=bH (by omega) (by omega);have e3:∀ z:Int,0≤z→z≤1099511627777→c9 .i64 z=-z:=by intro z a b; unfold c9; rw [wrap_i64 (by omega) (by omega)]; omega
   rw [hR];cases ng with
   | true =>
    rw [bT];unfold aq.c4;dsimp only;rw [e0,e1,e2];simp only [if_true]
    by_cases h2:c+1≤2*r
    ·rw [iR (by omega),bT,bS,e3 _ (by omega) (by omega),gq,bS,if_pos h2]
    ·rw [il (by omega),bF,bS,e3 _ (by omega) (by omega),gq,bS,if_neg h2]
   | false =>
    rw [bF];unfold aq.c5;dsimp only;rw [e0,e1,e2];simp only [Bool.false_eq_true,if_false]
    by_cases h2:c≤2*r
    ·rw [iV (by omega),bT,bS,gq,bS,if_pos h2]
    ·rw [jZ (by omega),bF,bS,gq,bS,if_neg h2]
end Go.Proofs.T1
