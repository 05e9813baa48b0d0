import Derived.Test.YtipddonkkhjegaaGreatPlMade
namespace Go.Proofs.T1
open Go Go.Sx
def ou (ng:Bool) (X D:Int):Int:=if ng then -((2*X+D - 1) / (2*D)) else (2*X+D) / (2*D)
def fit (R:Int):Int × Int:=if -9223372036854775808≤R∧R≤9223372036854775807 then (R,0) else (0,2)
theorem nP {q r D c:Int} (hD:0<D) (h0:0≤c) (h1:c<2*D):(2*(D*q+r)+(c - 2*r)) / (2*D)=q:=by
 have e:2*(D*q+r)+(c - 2*r)=c+(2*D)*q:=by grind
 rw [e,Int.add_mul_ediv_left _ _ (by omega),Int.ediv_eq_zero_of_lt h0 h1];omega
theorem CH {q r D:Int} (hr:0≤r) (hr':r<D):(2*(D*q+r)+D) / (2*D)=if D≤2*r then q+1 else q:=by
 split
 ·have h:=nP (q:=q+1) (r:=r - D) (c:=2*r - D) (D:=D) (by omega) (by omega) (by omega)
  rw [show 2*(D*q+r)+D=2*(D*(q+1)+(r - D))+(2*r - D - 2*(r - D)) by grind];exact h
 ·have h:=nP (q:=q) (r:=r) (c:=2*r+D) (D:=D) (by omega) (by omega) (by omega)
  rw [show 2*(D*q+r)+D=2*(D*q+r)+(2*r+D - 2*r) by omega];exact h
theorem xE {q r D:Int} (hr:0≤r) (hr':r<D):(2*(D*q+r)+D - 1) / (2*D)=if D+1≤2*r then q+1 else q:=by
 split
 ·have h:=nP (q:=q+1) (r:=r - D) (c:=2*r - D - 1) (D:=D) (by omega) (by omega) (by omega)
  rw [show 2*(D*q+r)+D - 1=2*(D*(q+1)+(r - D))+(2*r - D - 1 - 2*(r - D)) by grind];exact h
 ·have h:=nP (q:=q) (r:=r) (c:=2*r+D - 1) (D:=D) (by omega) (by omega) (by omega)
  rw [show 2*(D*q+r)+D - 1=2*(D*q+r)+(2*r+D - 1 - 2*r) by omega];exact h
theorem xH {k:Nat} (hk:2≤k) {m:gV} (hm:nO m) {X D:Int} {ng:Bool} (hX:X=m.1 % 18446744073709551616*18446744073709551616+m.2.1) (hD:0<D) (hD':D≤9223372036854775808) :
  (aM (hG (cF .u64 m.1) D) (some ((0:Int),(2:Int)))
  (bB (ax k (cF .u64 m.1) m.2.1 D) fun y11 =>
   bB (aa.c3 k (ng,D) y11) fun o15 =>
   bB (aa.c4 k o15 y11) fun o19 =>
   two o19 (fun _=>some ((0:Int),(2:Int))) (fun y23 =>
   bB (aa.c5 k (ng,D) y23) fun o26 =>
   aM o26 (some ((cF .i64 (fk .u64 y23)),0))
   (bB (aa.c6 k (ng,D) y23) fun o30=>aM o30 (some ((cF .i64 y23),0)) (some (0,2))))))=some (fit (ou ng X D)):=by
 have hm3:=hm.2.2.1;have hm4:=hm.2.2.2;have e1:cF .u64 m.1=m.1 % 18446744073709551616:=gW _;rw [e1];have hh0:0≤m.1 % 18446744073709551616:=Int.emod_nonneg _ (by decide);generalize m.1 % 18446744073709551616=hi at *
 have hq:=Int.mul_ediv_add_emod X D;have hr0:=Int.emod_nonneg X (show D≠0 by omega);have hr1:=Int.emod_lt_of_pos X hD;have hX0:0≤X:=by omega
 have hq0:0≤X / D:=Int.ediv_nonneg hX0 (by omega);have hR:ou ng X D=if ng then -(if D+1≤2*(X % D) then X / D+1 else X / D) else (if D≤2*(X % D) then X / D+1 else X / D):=by
  unfold ou
  conv=>lhs; rw [← hq]
  rw [CH hr0 hr1,xE hr0 hr1]
 by_cases hc:D≤hi
 ·have c1:hG hi D=true:=j3 hc
  rw [c1,bT];have hge:18446744073709551616≤X / D:=by
   rw [Int.le_ediv_iff_mul_le hD];omega
  have:fit (ou ng X D)=(0,2):=by
   rw [hR];unfold fit;rw [if_neg];cases ng <;> simp only [Bool.false_eq_true,if_false,if_true] <;> split <;> omega
  rw [this]
 ·have c1:hG hi D=false:=iV (by omega)
  rw [c1,bF,vM hk hh0 (by omega) (by omega) hm3 hm4,← hX,bS];have hlt:X / D<18446744073709551616:=by
   rw [Int.ediv_lt_iff_lt_mul hD];have:hi*18446744073709551616≤(D - 1)*18446744073709551616:=Int.mul_le_mul_of_nonneg_right (by omega) (by decide);omega
  generalize X / D=q at *
  generalize X % D=r at *
  have e2:bY .u64 D r=D - r:=by rw [jK]; omega
  have c3:aa.c3 k (ng,D) (q,r)=some (if ng then decide (D+1≤2*r) else decide (D≤2*r)):=by
   unfold aa.c3;dsimp only;rw [e2]
   by_cases h1:r > D - r
   ·rw [gM h1,bT]
    have a1:D+1≤2*r:=by omega
    have a2:D≤2*r:=by omega
    simp [a1,a2]
   ·rw [gG (by omega),bF]
    have a1:¬ D+1≤2*r:=by omega
    by_cases h2:r=D - r
    ·rw [fw h2,bT]
     have a2:D≤2*r:=by omega
     cases ng <;> simp [a1,a2]
    ·rw [fl h2,bF]
     have a2:¬ D≤2*r:=by omega
     simp [a1,a2]
  rw [c3,bS];have hu:∃ up:Bool,(if ng then decide (D+1≤2*r) else decide (D≤2*r))=up∧ou ng X D=if ng then -(if up then q+1 else q) else (if up then q+1 else q):=by
   refine ⟨_,rfl,?_⟩;rw [hR];cases ng <;> simp
  obtain ⟨up,u1,u2⟩:=hu;rw [u1,u2];unfold aa.c4
  have fin:∀ Q:Int,0≤Q→Q<18446744073709551616→(bB (aa.c5 k (ng,D) Q) fun o26 =>
   aM o26 (some ((cF .i64 (fk .u64 Q)),(0:Int)))
   (bB (aa.c6 k (ng,D) Q) fun o30=>aM o30 (some ((cF .i64 Q),0)) (some (0,2))))=some (fit (if ng then -Q else Q)):=by
   intro Q q0 q1;unfold aa.c5 aa.c6;cases ng with
   | true =>
    simp only [bT,bS,if_true]
    by_cases h:Q≤9223372036854775808
    ·rw [iJ h,bT]
     have:cF .i64 (fk .u64 Q)=-Q:=by
      rw [uh];unfold cF;rw [j5];split <;> omega
     rw [this];unfold fit;rw [if_pos (by omega)]
    ·rw [iI (by omega),bF,bF]
     unfold fit;rw [if_neg (by omega)]
   | false =>
    simp only [bF,bS,Bool.false_eq_true,if_false]
    by_cases h:Q<9223372036854775808
    ·rw [bA h,bT,nJ (by omega) (by omega)]
     unfold fit;rw [if_pos (by omega)]
    ·rw [bZ (by omega),bF]
     unfold fit;rw [if_neg (by omega)]
  cases up with
  | false =>
   rw [bF,bS,eW];exact fin q (by omega) hlt
  | true =>
   rw [bT,jR];dsimp only
   by_cases h:q=18446744073709551615
   ·subst h
    have:gB (((18446744073709551615:Int)+1) % 18446744073709551616) 0=true:=rfl;rw [this,bT,bS,eE];unfold fit;rw [if_neg];cases ng <;> simp <;> omega
   ·have e4:(q+1) % 18446744073709551616=q+1:=by omega
    rw [e4,fl (by omega),bF,bS,eW];exact fin (q+1) (by omega) (by omega)
def ga (x:Int):Int:=if x<0 then -x else x
theorem vu {k:Nat} (hk:2≤k) {w:gV} (hw:nO w) {n:Int} (hn:jd n) (h0:n≠0) :
  aa k w n=some (fit (ou (decide (wv w<0) != decide (n<0)) (ga (wv w)) (ga n))):=by
 have hwv:wv w=w.1*18446744073709551616+w.2.1:=rfl;unfold jd at hn;have c1:∃ m,aa.c1 k w=some m∧nO m∧ga (wv w)=m.1 % 18446744073709551616*18446744073709551616+m.2.1:=by
  unfold aa.c1;unfold nO at hw
  by_cases hneg:w.1<0
  ·have hlt:wv w<0:=by omega
   obtain ⟨m,h1,h2,h3⟩:=A8 k (a:=((0:Int),(0:Int),())) (b:=w) ⟨by decide,by decide,by decide,by decide⟩ hw;refine ⟨m,?_,h2,?_⟩
   ·rw [bA hneg,bT,h1,bS]
   ·have e0:wv ((0:Int),(0:Int),())=0:=rfl
    rw [e0] at h3;unfold nO at h2;have h8:wv m=m.1*18446744073709551616+m.2.1:=rfl;unfold ga;rw [if_pos hlt];omega
  ·have hge:¬ wv w<0:=by omega
   refine ⟨w,by rw [bZ (by omega),bF],hw,?_⟩;unfold ga;rw [if_neg hge];omega
 obtain ⟨m,e1,hm,hmv⟩:=c1;have hneg:eK w.1 0=decide (wv w<0):=by
  unfold eK;unfold nO at hw;rw [decide_eq_decide];omega
 unfold aa;rw [fl h0,bF,e1,bS];have c2:aa.c2 k w n=some ((decide (wv w<0) != decide (n<0)),ga n):=by
  unfold aa.c2 ga;rw [hneg]
  by_cases h:n<0
  ·rw [bA h,bT,if_pos h,gW,uh]
   congr 2
   ·simp [h]
   ·omega
  ·rw [bZ (by omega),bF,if_neg h,gW]
   congr 2
   ·simp [h]
   ·omega
 rw [c2,bS];refine xH hk hm hmv ?_ ?_
 ·unfold ga
  split <;> omega
 ·unfold ga
  split <;> omega
def iF (x n:Int):Int:=(2*x+n) / (2*n)
theorem sJ {x n:Int} (hn:0<n):ou (decide (x<0) != decide (n<0)) (ga x) (ga n)=iF x n:=by
 have hnn:¬ n<0:=by omega
 unfold ga ou iF;rw [if_neg hnn]
 by_cases hx:x<0
 ·simp only [hx,hnn,decide_true,decide_false,if_true]
  have e:(true != false)=true:=rfl;rw [e,if_pos rfl];have hq:=Int.mul_ediv_add_emod (-x) n;have hr0:=Int.emod_nonneg (-x) (show n≠0 by omega);have hr1:=Int.emod_lt_of_pos (-x) hn;generalize (-x) / n=q at *
  generalize (-x) % n=r at *
  rw [← hq,xE hr0 hr1];have hx2:2*x+n=-2*(n*q+r)+n:=by omega
  rw [hx2];split
  ·have h:=nP (q:=-(q+1)) (r:=0) (c:=3*n - 2*r) (D:=n) hn (by omega) (by omega)
   rw [show -2*(n*q+r)+n=2*(n*-(q+1)+0)+(3*n - 2*r - 2*0) by grind];exact h.symm
  ·have h:=nP (q:=-q) (r:=0) (c:=n - 2*r) (D:=n) hn (by omega) (by omega)
   rw [show -2*(n*q+r)+n=2*(n*-q+0)+(n - 2*r - 2*0) by grind];exact h.symm
 ·simp only [hx,hnn,decide_false,if_false]
  rfl
theorem qM {k:Nat} (hk:2≤k) {w:gV} (hw:nO w) {n:Int} (hn:0<n) (hn':n≤9223372036854775807):aa k w n=some (fit (iF (wv w) n)):=by
 rw [vu hk hw ⟨by omega,hn'⟩ (by omega),sJ hn]
theorem Dl {x n c:Int} (hn:0<n):iF (x+n*c) n=iF x n+c:=by
 unfold iF;have e:2*(x+n*c)+n=2*x+n+2*n*c:=by grind
 rw [e,Int.add_mul_ediv_left _ _ (by omega)]
theorem xk {x n c:Int} (hn:0<n) (h0:-(n*c)≤x) (h1:x≤n*c):-c≤iF x n∧iF x n≤c:=by
 unfold iF;constructor
 ·rw [Int.le_ediv_iff_mul_le (by omega)]
  have e:-c*(2*n)=2*-(n*c):=by grind
  omega
 ·have:(2*x+n) / (2*n)<c+1:=by
   rw [Int.ediv_lt_iff_lt_mul (by omega)];have e:(c+1)*(2*n)=2*(n*c)+2*n:=by grind
   omega
  omega
theorem mL {R:Int} (h:-9223372036854775808≤R∧R≤9223372036854775807):fit R=(R,0):=if_pos h
end Go.Proofs.T1
namespace Go.Proofs.T1
open Go Go.Sx
def CM (x:Int):Int:=if x < -1099511627776 then -1099511627776 else if 1099511627776<x then 1099511627776 else x
theorem fZ (k:Nat) (x:Int):cY k x=some (CM x):=by
 unfold cY CM gd imax;congr 1;split <;> split <;> omega
theorem pg (x:Int):-1099511627776≤CM x∧CM x≤1099511627776:=by
 unfold CM;split
 ·omega
 ·split <;> omega
theorem iG {x:Int} (h0:-1099511627776≤x) (h1:x≤1099511627776):CM x=x:=by
 unfold CM;rw [if_neg (by omega),if_neg (by omega)]
theorem wK (k:Nat) {x:Int} (h0:-1099511627776≤x) (h1:x≤1099511627776):gA k x=some (ga x):=by
 unfold gA ga
 by_cases h:x<0
 ·rw [bA h,bT,if_pos h]
  have:fk .i64 x=-x:=by unfold fk; rw [wrap_i64 (by omega) (by omega)]; omega
  rw [this,gW];congr 1;omega
 ·rw [bZ (by omega),bF,if_neg h,gW]
  congr 1;omega
theorem me {t:Bool} {c:Int} (hc:0<c):ou t 0 c=0:=by
 unfold ou;cases t
 ·simp only [Bool.false_eq_true,if_false]
  exact Int.ediv_eq_zero_of_lt (by omega) (by omega)
 ·simp only [if_true]
  rw [Int.ediv_eq_zero_of_lt (by omega) (by omega)];decide
theorem Aa {a b c:Int} (hc:0<c):ou (decide (a<0) != decide (b<0)) (ga a*ga b) c=iF (a*b) c:=by
 have h:=sJ (x:=a*b) hc;have hcc:ga c=c:=by unfold ga; rw [if_neg (by omega)]
 have hc0:decide (c<0)=false:=decide_eq_false (by omega);rw [hcc,hc0] at h;have hm:ga (a*b)=ga a*ga b:=by
  unfold ga
  by_cases ha:a<0 <;> by_cases hb:b<0 <;> simp only [ha,hb,if_true,if_false]
  ·have h1:0<(-a)*(-b):=Int.mul_pos (by omega) (by omega)
   have e:(-a)*(-b)=a*b:=by grind
   rw [if_neg (by omega),e]
  ·have h1:0≤(-a)*b:=Int.mul_nonneg (by omega) (by omega)
   have e:(-a)*b=-(a*b):=by grind
   split <;> omega
  ·have h1:0≤a*(-b):=Int.mul_nonneg (by omega) (by omega)
   have e:a*(-b)=-(a*b):=by grind
   split <;> omega
  ·have h1:0≤a*b:=Int.mul_nonneg (by omega) (by omega)
   rw [if_neg (by omega)]
 rw [← h,hm]
 by_cases hz:a*b=0
 ·rw [← hm,hz]
  have:ga 0=0:=rfl;rw [this,me hc,me hc]
 ·congr 1
  have ha0:a≠0:=fun h=>hz (by rw [h]; simp);have hb0:b≠0:=fun h=>hz (by rw [h]; simp)
  by_cases ha:a<0 <;> by_cases hb:b<0
  ·have h1:0<(-a)*(-b):=Int.mul_pos (by omega) (by omega)
   have e:(-a)*(-b)=a*b:=by grind
   have:¬ a*b<0:=by omega
   simp [ha,hb,this]
  ·have h1:0<(-a)*b:=Int.mul_pos (by omega) (by omega)
   have e:(-a)*b=-(a*b):=by grind
   have:a*b<0:=by omega
   simp [ha,hb,this]
  ·have h1:0<a*(-b):=Int.mul_pos (by omega) (by omega)
   have e:a*(-b)=-(a*b):=by grind
   have:a*b<0:=by omega
   simp [ha,hb,this]
  ·have h1:0<a*b:=Int.mul_pos (by omega) (by omega)
   have:¬ a*b<0:=by omega
   simp [ha,hb,this]
theorem wE {k:Nat} (hk:2≤k) {a b c:Int} (ha:-1099511627776≤a∧a≤1099511627776) (hb:-1099511627776≤b∧b≤1099511627776) (hc:0<c) (hc':c≤1099511627776) :
  aq k a b c=some (CM (iF (a*b) c)):=by
 have ma:0≤ga a∧ga a≤1099511627776:=by unfold ga; split <;> omega
 have mb:0≤ga b∧ga b≤1099511627776:=by unfold ga; split <;> omega
 have hX:=iP ma.1 ma.2 mb.1 mb.2;have hs:=Aa (a:=a) (b:=b) hc;have hng:∃ ng:Bool,aq.c1 k a b=some ng∧(decide (a<0) != decide (b<0))=ng:=by
  unfold aq.c1
  by_cases h:b<0
  ·rw [bA h,bT]
   exact ⟨_,rfl,by simp [h,eK]⟩
  ·rw [bZ (by omega),bF]
   exact ⟨_,rfl,by simp [h,eK]⟩
 obtain ⟨ng,n1,n2⟩:=hng;rw [n2] at hs;have mc:ga c=c:=by unfold ga; rw [if_neg (by omega)]
 unfold aq;rw [fZ,bS,iG ha.1 ha.2,fZ,bS,iG hb.1 hb.2,fZ,bS,iG (by omega) hc',fl (by omega),bF,n1,bS];have c2:aq.c2 k ng c=some ng:=by
  unfold aq.c2;rw [bZ (by omega),bF]
 rw [c2,bS,wK k (by omega) hc',bS,wK k ha.1 ha.2,bS,wK k hb.1 hb.2,bS,lx k ma.1 (by omega) mb.1 (by omega),bS,mc,← hs];dsimp only;generalize ga a*ga b=X at *
 have hq:=Int.mul_ediv_add_emod X c;have hr0:=Int.emod_nonneg X (show c≠0 by omega);have hr1:=Int.emod_lt_of_pos X hc;have hq0:0≤X / c:=Int.ediv_nonneg hX.1 (by omega);have hR:ou ng X c=if ng then -(if c+1≤2*(X % c) then X / c+1 else X / c) else (if c≤2*(X % c) then X / c+1 else X / c):=by
  unfold ou
  conv=>lhs; rw [← hq]
  rw [CH hr0 hr1,xE hr0 hr1]
 by_cases hbig:c≤X / 18446744073709551616
 ·rw [j3 hbig,bT]
  have hge:18446744073709551616≤X / c:=by
   rw [Int.le_ediv_iff_mul_le hc];omega
  rw [hR];cases ng with
  | true =>
   rw [bT];simp only [if_true];unfold CM;rw [if_pos (by split <;> omega)]
  | false =>
   rw [bF];simp only [Bool.false_eq_true,if_false];unfold CM;rw [if_neg (by split <;> omega),if_pos (by split <;> omega)]
 ·rw [iV (by omega),bF,vM hk (by omega) (by omega) (by omega) (by omega) (by omega),bS]
  have hXX:X / 18446744073709551616*18446744073709551616+X % 18446744073709551616=X:=by omega
  rw [hXX];have hlt:X / c<18446744073709551616:=by
   rw [Int.ediv_lt_iff_lt_mul hc];have:X / 18446744073709551616*18446744073709551616≤(c - 1)*18446744073709551616:=Int.mul_le_mul_of_nonneg_right (by omega) (by decide);omega
  generalize X / c=q at *
  generalize X % c=r at *
  unfold aq.c3;dsimp only
  by_cases h:1099511627776<q
  ·rw [gM h,bT,bS]
   have e0:bY .u64 c 0=c:=by rw [jK]; omega
   rw [hR];cases ng with
   | true =>
    rw [bT];unfold aq.c4;dsimp only;rw [e0,gG (by omega),bF,bS,show cF .i64 1099511627777=1099511627777 from rfl,show fk .i64 1099511627777=-1099511627777 from rfl,fZ,bS];simp only [if_true];congr 1;unfold CM;rw [if_pos (by omega),if_pos (by split <;> omega)]
   | false =>
    rw [bF];unfold aq.c5;dsimp only;rw [e0,iV (by omega),bF,bS,show cF .i64 1099511627777=1099511627777 from rfl,fZ,bS];simp only [Bool.false_eq_true,if_false];congr 1;unfold CM;rw [if_neg (by omega),if_pos (by omega),if_neg (by split <;> omega),if_pos (by split <;> omega)]
  ·rw [gG (by omega),bF,bS]
   have e0:bY .u64 c r=c - r:=by rw [jK]; omega
   have e1:cF .i64 q=q:=nJ (by omega) (by omega);have e2:ao .i64 q 1=q+1:=aX (by omega) (by omega);have e3:∀ z:Int,0≤z→z≤1099511627777→fk .i64 z=-z:=by intro z a b; unfold fk; rw [wrap_i64 (by omega) (by omega)]; omega
   rw [hR];cases ng with
   | true =>
    rw [bT];unfold aq.c4;dsimp only;rw [e0,e1,e2];simp only [if_true]
    by_cases h2:c+1≤2*r
    ·rw [gM (by omega),bT,bS,e3 _ (by omega) (by omega),fZ,bS,if_pos h2]
    ·rw [gG (by omega),bF,bS,e3 _ (by omega) (by omega),fZ,bS,if_neg h2]
   | false =>
    rw [bF];unfold aq.c5;dsimp only;rw [e0,e1,e2];simp only [Bool.false_eq_true,if_false]
    by_cases h2:c≤2*r
    ·rw [j3 (by omega),bT,bS,fZ,bS,if_pos h2]
    ·rw [iV (by omega),bF,bS,fZ,bS,if_neg h2]
end Go.Proofs.T1
