import Derived.Test.YtipddonkkhjegaaGreatPlTail
import Derived.Test.YtipddonkkhjegaaGreatG6
import Derived.Test.YtipddonkkhjegaaGreatG14
namespace Go.Proofs.T1
open Go Go.Sx
theorem yA (x:Int):ga (-x)=ga x:=by unfold ga; split <;> split <;> omega
theorem CP {k:Nat} (hk:2≤k) {w:gV} (hw:nO w) {n:Int} (hn:n<0) (hn':-9223372036854775807≤n):aa k w n=some (fit (iF (-(wv w)) (-n))):=by
 rw [vu hk hw ⟨by omega,by omega⟩ (by omega),← sJ (x:=-(wv w)) (n:=-n) (by omega),yA,yA]
 by_cases h:wv w=0
 ·rw [h]
  have e:ga 0=0:=rfl;rw [e,me (by unfold ga; split <;> omega),me (by unfold ga; split <;> omega)]
 ·have e:(decide (wv w<0) != decide (n<0))=(decide (-wv w<0) != decide (-n<0)):=by
   rw [decide_eq_true hn,decide_eq_false (show ¬ -n<0 by omega)]
   by_cases c:wv w<0
   ·rw [decide_eq_true c,decide_eq_false (show ¬ -wv w<0 by omega)]; rfl
   ·rw [decide_eq_false c,decide_eq_true (show -wv w<0 by omega)]; rfl
  rw [e]
theorem kR {x:Int} (h:-4611686018427387904≤x) (g:x≤4611686018427387904):fk .i64 x=-x:=by
 show IntKind.i64.wrap (0 - x)=-x;rw [wrap_i64 (by omega) (by omega)];omega
theorem Af {k:Nat} (hk:200≤k) {a:List Int} {x n:Int} (ha:BR a x) (h0:-42535295865117307932921825928971026432≤x) (h1:x≤42535295865117307932921825928971026432) (hn:n<0) (hn':-2305843009213693952≤n) :
  bC k a n=some (fit (iF (-x) (-n))):=by
 obtain ⟨c,ec,rc⟩:=FA (k:=k) (by omega) ha;have P:=oz hk rc (n:=-n) (by omega) (by omega) (by omega) (by omega);unfold bC bC.c1 at P ⊢;rw [fl (by omega),bF,bZ (by omega),bF,bS] at P;rw [fl (by omega),bF,bA hn,bT,ec,bS,kR (by omega) (by omega),bS];exact P
def qv (x n:Int):Int:=if 0<n then iF x n else iF (-x) (-n)
theorem EL {n:Int} (hn:0<n):iF 0 n=0:=by
 unfold iF;exact Int.ediv_eq_zero_of_lt (by omega) (by omega)
theorem um {e A N:Int} (hN:0<N) (a0:0≤A) (a1:A≤N):(0≤e→0≤iF (e*A) N∧iF (e*A) N≤e)∧(e≤0→e≤iF (e*A) N∧iF (e*A) N≤0):=by
 have full:iF (N*e) N=e:=by
  have:=Dl (x:=0) (n:=N) (c:=e) hN;rw [Int.zero_add,EL hN,Int.zero_add] at this;exact this
 constructor
 ·intro h
  have g:=Int.mul_le_mul_of_nonneg_left a1 h;rw [Int.mul_comm e N] at g;exact ⟨wU hN (Int.mul_nonneg h a0),by have:=nG hN g; omega⟩
 ·intro h
  have g:N*e≤e*A:=by
   have:=Int.mul_le_mul_of_nonneg_left a1 (show 0≤-e by omega);rw [Int.neg_mul,Int.neg_mul] at this;have:=Int.mul_comm N e;omega
  have z:e*A≤0:=Int.mul_nonpos_of_nonpos_of_nonneg h a0;have m1:=nG hN g;have m2:=nG hN z;rw [EL hN] at m2;omega
theorem uZ {e a b:Int} (h:(a<0∧0≤b)∨(b<0∧0≤a)):(0≤e→0≤qv (e*a) (a - b)∧qv (e*a) (a - b)≤e)∧(e≤0→e≤qv (e*a) (a - b)∧qv (e*a) (a - b)≤0):=by
 unfold qv;rcases h with ⟨h1,h2⟩ | ⟨h1,h2⟩
 ·rw [if_neg (by omega),show -(e*a)=e*-a from (Int.mul_neg e a).symm]
  exact um (by omega) (by omega) (by omega)
 ·rw [if_pos (by omega)]
  exact um (by omega) (by omega) (by omega)
def F9 (p r:ay) (a b:Int):ay:=(p.1+qv ((r.1 - p.1)*a) (a - b),p.2.1+qv ((r.2.1 - p.2.1)*a) (a - b),())
theorem Eu {p r:ay} (hp:Wn p) (hr:Wn r) {a b:Int} (h:(a<0∧0≤b)∨(b<0∧0≤a)):Wn (F9 p r a b):=by
 have x:=uZ (e:=r.1 - p.1) h;have y:=uZ (e:=r.2.1 - p.2.1) h;unfold Wn at *
 unfold F9;dsimp only;rcases Int.le_total 0 (r.1 - p.1) with c | c <;> rcases Int.le_total 0 (r.2.1 - p.2.1) with d | d
 ·have:=x.1 c; have:=y.1 d; omega
 ·have:=x.1 c; have:=y.2 d; omega
 ·have:=x.2 c; have:=y.1 d; omega
 ·have:=x.2 c; have:=y.2 d; omega
theorem nA {p r:Int} (hp:-65536000≤p∧p≤65536000) (hr:-65536000≤r∧r≤65536000) {a b:Int} (h:(a<0∧0≤b)∨(b<0∧0≤a)):-131072000≤qv ((r - p)*a) (a - b)∧qv ((r - p)*a) (a - b)≤131072000:=by
 have x:=uZ (e:=r - p) h;rcases Int.le_total 0 (r - p) with c | c
 ·have:=x.1 c; omega
 ·have:=x.2 c; omega
theorem xW {k:Nat} (hk:2≤k) {e a b:Int} (he:-131072000≤e∧e≤131072000) (ha:-1000000000000000000≤a∧a≤1000000000000000000) (hb:-1000000000000000000≤b∧b≤1000000000000000000) (h:(a<0∧0≤b)∨(b<0∧0≤a)) :
  ∃ w,bb k e a=some w∧aa k w (a - b)=some (qv (e*a) (a - b),0):=by
 obtain ⟨w,e1,o1,v1⟩:=lu k (a:=e) (b:=a) (by omega) (by omega) (by omega) (by omega);have q:=uZ (e:=e) h;have qb:-131072000≤qv (e*a) (a - b)∧qv (e*a) (a - b)≤131072000:=by
  rcases Int.le_total 0 e with c | c
  ·have:=q.1 c; omega
  ·have:=q.2 c; omega
 refine ⟨w,e1,?_⟩;unfold qv at qb ⊢
 by_cases c:0<a - b
 ·rw [if_pos c] at qb ⊢
  rw [qM hk o1 c (by omega),v1,mL (by omega)]
 ·rw [if_neg c] at qb ⊢
  rw [CP hk o1 (by omega) (by omega),v1,mL (by omega)]
theorem xX {k:Nat} (hk:200≤k) {c:List Int} {e a b:Int} (hc:BR c a) (he:-131072000≤e∧e≤131072000) (ha:-1000000000000000000≤a∧a≤1000000000000000000) (hb:-1000000000000000000≤b∧b≤1000000000000000000) (h:(a<0∧0≤b)∨(b<0∧0≤a)) :
  ∃ o m,cS k e=some o∧aV k o c=some m∧bC k m (a - b)=some (qv (e*a) (a - b),0):=by
 obtain ⟨o,e1,r1⟩:=wh (k:=k) (by omega) (n:=e) (by omega) (by omega);obtain ⟨m,e2,r2⟩:=BI (k:=k) (by omega) r1 hc;have q:=uZ (e:=e) h;have qb:-131072000≤qv (e*a) (a - b)∧qv (e*a) (a - b)≤131072000:=by
  rcases Int.le_total 0 e with c | c
  ·have:=q.1 c; omega
  ·have:=q.2 c; omega
 have mb:=ek (x:=e) (y:=a) (M:=131072000) (N:=1000000000000000000) (by omega) (by omega) (by omega) (by omega);refine ⟨o,m,e1,e2,?_⟩;unfold qv at qb ⊢
 by_cases c:0<a - b
 ·rw [if_pos c] at qb ⊢
  rw [oz hk r2 (by omega) (by omega) c (by omega),mL (by omega)]
 ·rw [if_neg c] at qb ⊢
  rw [Af hk r2 (by omega) (by omega) (by omega) (by omega),mL (by omega)]
theorem rJ {k:Nat} (hk:2≤k) {p r:ay} (hp:Wn p) (hr:Wn r) {a b:Int} (ha:-1000000000000000000≤a∧a≤1000000000000000000) (hb:-1000000000000000000≤b∧b≤1000000000000000000) (h:(a<0∧0≤b)∨(b<0∧0≤a)) :
  cW k p r a b=some (F9 p r a b):=by
 unfold Wn at hp hr;obtain ⟨x,e1,e2⟩:=xW hk (e:=r.1 - p.1) (by omega) ha hb h;obtain ⟨y,e3,e4⟩:=xW hk (e:=r.2.1 - p.2.1) (by omega) ha hb h;have q1:=nA (p:=p.1) (r:=r.1) (by omega) (by omega) h;have q2:=nA (p:=p.2.1) (r:=r.2.1) (by omega) (by omega) h;unfold cW;rw [cR (x:=r.1) (by omega) (by omega),cR (x:=r.2.1) (by omega) (by omega),cR (x:=a) (by omega) (by omega),e1,bS,e2,bS,e3,bS,e4,bS];dsimp only;rw [aX (by omega) (by omega),aX (by omega) (by omega)];rfl
def dw (p at_ w:ay):Int:=(p.1 - at_.1)*w.1+(p.2.1 - at_.2.1)*w.2.1
def xj (p r at_ w:ay):ay × (ay × Bool) :=
 if dw p at_ w<0∧dw r at_ w<0 then (p,r,false) else if dw p at_ w<0 then (F9 p r (dw p at_ w) (dw r at_ w),r,true) else if dw r at_ w<0 then (p,F9 p r (dw p at_ w) (dw r at_ w),true) else (p,r,true)
def Ww (w:ay):Prop:=-131072000≤w.1∧w.1≤131072000∧-131072000≤w.2.1∧w.2.1≤131072000
theorem EY {p r at_ w:ay} (hp:Wn p) (hr:Wn r):Wn (xj p r at_ w).1∧Wn (xj p r at_ w).2.1:=by
 unfold xj
 by_cases a:dw p at_ w<0
 ·by_cases b:dw r at_ w<0
  ·rw [if_pos ⟨a,b⟩]; exact ⟨hp,hr⟩
  ·rw [if_neg (fun h=>b h.2),if_pos a]; exact ⟨Eu hp hr (Or.inl ⟨a,by omega⟩),hr⟩
 ·by_cases b:dw r at_ w<0
  ·rw [if_neg (fun h=>a h.1),if_neg a,if_pos b]; exact ⟨hp,Eu hp hr (Or.inr ⟨b,by omega⟩)⟩
  ·rw [if_neg (fun h=>a h.1),if_neg a,if_neg b]; exact ⟨hp,hr⟩
theorem yZ {p at_ w:ay} (hp:Wn p) (ha:Wn at_) (hw:Ww w):-34359738368000000≤dw p at_ w∧dw p at_ w≤34359738368000000:=by
 unfold Wn at hp ha;unfold Ww at hw;have h1:=ek (x:=p.1 - at_.1) (y:=w.1) (M:=131072000) (N:=131072000) (by omega) (by omega) (by omega) (by omega);have h2:=ek (x:=p.2.1 - at_.2.1) (y:=w.2.1) (M:=131072000) (N:=131072000) (by omega) (by omega) (by omega) (by omega);unfold dw;omega
theorem km (k:Nat) {a b:ay} (ha:Wn a) (hb:Wn b):cI k a b=some (sb a b):=by
 unfold Wn at ha hb;unfold cI;rw [cR (by omega) (by omega),cR (by omega) (by omega)];rfl
theorem sI (k:Nat) {a b:ay} (ha:Wn a) (hb:Wn b):dJ k a b=some (sb a b):=by
 unfold Wn at ha hb;unfold dJ;rw [cR (by omega) (by omega),cR (by omega) (by omega)];rfl
theorem sY {a b:ay} (ha:Wn a) (hb:Wn b):Ww (sb a b):=by
 unfold Wn at ha hb;unfold Ww sb;dsimp only;omega
theorem mg (k:Nat) {a b:ay} (ha:Ww a) (hb:Ww b):cM k a b=some (a.1*b.1+a.2.1*b.2.1):=by
 unfold Ww at ha hb;have h1:=ek (x:=a.1) (y:=b.1) (M:=131072000) (N:=131072000) (by omega) (by omega) (by omega) (by omega);have h2:=ek (x:=a.2.1) (y:=b.2.1) (M:=131072000) (N:=131072000) (by omega) (by omega) (by omega) (by omega);unfold cM;rw [eB (by omega) (by omega),eB (by omega) (by omega),aX (by omega) (by omega)]
theorem Hh {a:ay} (h:Wn a):Ww a:=by unfold Wn at h; unfold Ww; omega
theorem C0 {k:Nat} (hk:2≤k) {p r at_ w:ay} (hp:Wn p) (hr:Wn r) (ha:Wn at_) (hw:Ww w):aQ k p r at_ w=some (xj p r at_ w):=by
 have b1:=yZ hp ha hw;have b2:=yZ hr ha hw;have d1:cM k (sb p at_) w=some (dw p at_ w):=mg k (sY hp ha) hw;have d2:cM k (sb r at_) w=some (dw r at_ w):=mg k (sY hr ha) hw;unfold aQ;rw [km k hp ha,bS,d1,bS,km k hr ha,bS,d2,bS];unfold aQ.c1 aQ.c2 xj
 by_cases a:dw p at_ w<0
 ·by_cases b:dw r at_ w<0
  ·rw [bA a,bT,bA b,bS,bT,if_pos ⟨a,b⟩]
  ·rw [bA a,bT,bZ (by omega),bS,bF,bT,rJ hk hp hr (by omega) (by omega) (Or.inl ⟨a,by omega⟩),bS,bS,if_neg (fun h=>b h.2),if_pos a]
 ·by_cases b:dw r at_ w<0
  ·rw [bZ (by omega),bF,bS,bF,bF,bA b,bT,rJ hk hp hr (by omega) (by omega) (Or.inr ⟨b,by omega⟩),bS,bS,if_neg (fun h=>a h.1),if_neg a,if_pos b]
  ·rw [bZ (by omega),bF,bS,bF,bF,bZ (by omega),bF,bS,if_neg (fun h=>a h.1),if_neg a,if_neg b]
theorem Ci {x:Int} (h0:-9223372036854775808≤x) (h1:x≤9223372036854775807):cF .i64 (x % 18446744073709551616)=x:=by
 show IntKind.i64.wrap (x % 18446744073709551616)=x;rw [j5];split <;> omega
theorem yQ {k:Nat} (hk:200≤k) {p r at_ w:ay} (hp:Wn p) (hr:Wn r) (ha:Wn at_) (hw:Ww w):bO k [p,r] at_ w=some ([(xj p r at_ w).1,(xj p r at_ w).2.1],(xj p r at_ w).2.2):=by
 have hk9:9≤k:=by omega
 have b1:=yZ hp ha hw;have b2:=yZ hr ha hw;have i64:∀ {v:ay},Ww v→jd v.1∧jd v.2.1:=fun h=>by unfold Ww at h; unfold jd; omega
 obtain ⟨x,ex,rx⟩:=wY hk9 (a:=sb p at_) (b:=w) (i64 (sY hp ha)).1 (i64 (sY hp ha)).2 (i64 hw).1 (i64 hw).2;obtain ⟨y,ey,ry⟩:=wY hk9 (a:=sb r at_) (b:=w) (i64 (sY hr ha)).1 (i64 (sY hr ha)).2 (i64 hw).1 (i64 hw).2;have rx:BR x (dw p at_ w):=rx;have ry:BR y (dw r at_ w):=ry;have bx:=qZ k rx (by unfold SR; omega);have by_:=qZ k ry (by unfold SR; omega);obtain ⟨z,ez,rz⟩:=DT hk9 rx ry;obtain ⟨wd,ew,_,_,lw⟩:=ER hk9 rz;have hn:cF .i64 wd.2.1=dw p at_ w - dw r at_ w:=by rw [lw]; exact Ci (by omega) (by omega)
 have e1:bY .i64 (el cH [p,r] 1).1 (el cH [p,r] 0).1=r.1 - p.1:=by
  show bY .i64 r.1 p.1=_;unfold Wn at hp hr;exact cR (by omega) (by omega)
 have e2:bY .i64 (el cH [p,r] 1).2.1 (el cH [p,r] 0).2.1=r.2.1 - p.2.1:=by
  show bY .i64 r.2.1 p.2.1=_;unfold Wn at hp hr;exact cR (by omega) (by omega)
 have hl:len [x,y]=2:=rfl;have new:((dw p at_ w<0∧0≤dw r at_ w)∨(dw r at_ w<0∧0≤dw p at_ w))→∃ o1 m1 o2 m2,cS k (r.1 - p.1)=some o1∧aV k o1 x=some m1∧bC k m1 (dw p at_ w - dw r at_ w)=some (qv ((r.1 - p.1)*dw p at_ w) (dw p at_ w - dw r at_ w),0) ∧
   cS k (r.2.1 - p.2.1)=some o2∧aV k o2 x=some m2∧bC k m2 (dw p at_ w - dw r at_ w)=some (qv ((r.2.1 - p.2.1)*dw p at_ w) (dw p at_ w - dw r at_ w),0) ∧
   ((ao .i64 (el cH [p,r] 0).1 (qv ((r.1 - p.1)*dw p at_ w) (dw p at_ w - dw r at_ w)),ao .i64 (el cH [p,r] 0).2.1 (qv ((r.2.1 - p.2.1)*dw p at_ w) (dw p at_ w - dw r at_ w)),()):ay)=F9 p r (dw p at_ w) (dw r at_ w):=by
  intro h;unfold Wn at hp hr;obtain ⟨o1,m1,f1,f2,f3⟩:=xX hk rx (e:=r.1 - p.1) (b:=dw r at_ w) (by omega) (by omega) (by omega) h;obtain ⟨o2,m2,f4,f5,f6⟩:=xX hk rx (e:=r.2.1 - p.2.1) (b:=dw r at_ w) (by omega) (by omega) (by omega) h;have q1:=nA (p:=p.1) (r:=r.1) (by omega) (by omega) h;have q2:=nA (p:=p.2.1) (r:=r.2.1) (by omega) (by omega) h;refine ⟨o1,m1,o2,m2,f1,f2,f3,f4,f5,f6,?_⟩;show (ao .i64 p.1 _,ao .i64 p.2.1 _,())=_;rw [aX (by omega) (by omega),aX (by omega) (by omega)];rfl
 have run:∀ f:Nat,bO.c1 k [p,r] x y (f+3) 0 [p,r]=some (if dw p at_ w<0∧dw r at_ w<0 then .inl () else .inr [(xj p r at_ w).1,(xj p r at_ w).2.1]):=by
  intro f;have g0:el (List.replicate 8 0) [x,y] 0=x:=rfl;have g1:el (List.replicate 8 0) [x,y] 1=y:=rfl;have last:∀ l,bO.c1 k [p,r] x y (f+1) 2 l=some (.inr l):=by
   intro l;rw [bO.c1,hl,bZ (by decide),bF]
  rw [bO.c1,hl,bA (by decide),bT,rP (bu (by decide) (by rw [hl]; decide)),g0,bx,bS,aX (by decide) (by decide)]
  have s1:∀ l,bO.c1 k [p,r] x y (f+2) (0+1) l=aM (decide (dw r at_ w<0)) (bB (bO.c2 k x y) fun o21=>aM o21 (some (.inl ())) (bB (dE k x y) fun y24 =>
   bB (bW k y24) fun y26 =>
   bB (cS k (bY .i64 (el cH [p,r] 1).1 (el cH [p,r] 0).1)) fun y28 =>
   bB (aV k y28 x) fun y30 =>
   bB (bC k y30 (cF .i64 y26.2.1)) fun y32 =>
   bB (cS k (bY .i64 (el cH [p,r] 1).2.1 (el cH [p,r] 0).2.1)) fun y34 =>
   bB (aV k y34 x) fun y36 =>
   bB (bC k y36 (cF .i64 y26.2.1)) fun y38 =>
   dU (fR 1 2) <|
   bO.c1 k [p,r] x y (f+1) 2 (st l 1 ((ao .i64 (el cH [p,r] 0).1 y32.1),(ao .i64 (el cH [p,r] 0).2.1 y38.1),())))) (bO.c1 k [p,r] x y (f+1) 2 l):=by
   intro l;show bO.c1 k [p,r] x y (f+2) 1 l=_;rw [bO.c1,hl,bA (by decide),bT,rP (bu (by decide) (by rw [hl]; decide)),g1,by_,bS,aX (by decide) (by decide)];rfl
  have c2:bO.c2 k x y=some (decide (dw p at_ w<0∧dw r at_ w<0)):=by
   unfold bO.c2;rw [bx,bS]
   by_cases a:dw p at_ w<0
   ·rw [decide_eq_true a,bT,by_,bS]
    congr 1;exact decide_eq_decide.2 ⟨fun h=>⟨a,h⟩,fun h=>h.2⟩
   ·rw [decide_eq_false a,bF,decide_eq_false (fun h=>a h.1)]
  unfold xj
  by_cases a:dw p at_ w<0
  ·rw [decide_eq_true a,bT,c2,bS]
   by_cases b:dw r at_ w<0
   ·rw [decide_eq_true ⟨a,b⟩,bT,if_pos ⟨a,b⟩]
   ·obtain ⟨o1,m1,o2,m2,f1,f2,f3,f4,f5,f6,f7⟩:=new (Or.inl ⟨a,by omega⟩)
    rw [decide_eq_false (fun h=>b h.2),bF,ez,bS,ew,bS,e1,e2,hn,f1,bS,f2,bS,f3,bS,f4,bS,f5,bS,f6,bS,rP (show fR 0 2 from ⟨by decide,by decide⟩)];dsimp only;rw [f7,s1,decide_eq_false b,bF,last,if_neg (fun h=>b h.2),if_neg (fun h=>b h.2),if_pos a];rfl
  ·rw [decide_eq_false a,bF,s1,if_neg (fun h=>a h.1),if_neg (fun h=>a h.1),if_neg a]
   by_cases b:dw r at_ w<0
   ·obtain ⟨o1,m1,o2,m2,f1,f2,f3,f4,f5,f6,f7⟩:=new (Or.inr ⟨b,by omega⟩)
    rw [decide_eq_true b,bT,c2,bS,decide_eq_false (fun h=>a h.1),bF,ez,bS,ew,bS,e1,e2,hn,f1,bS,f2,bS,f3,bS,f4,bS,f5,bS,f6,bS,rP (show fR 1 2 from ⟨by decide,by decide⟩)];dsimp only;rw [f7,last,if_pos b];rfl
   ·rw [decide_eq_false b,bF,last,if_neg b]
 have R:=run (k - 3);rw [show k - 3+3=k by omega] at R;have s1:dJ k (el cH [p,r] 0) at_=some (sb p at_):=sI k hp ha;have s2:dJ k (el cH [p,r] 1) at_=some (sb r at_):=sI k hr ha;unfold bO;rw [s1,bS,ex,bS,s2,bS,ey,bS,R,bS]
 by_cases h:dw p at_ w<0∧dw r at_ w<0
 ·rw [if_pos h,eE]
  unfold xj;rw [if_pos h]
 ·rw [if_neg h,eW]
  have:(xj p r at_ w).2.2=true:=by
   unfold xj;rw [if_neg h];split
   ·rfl
   ·split <;> rfl
  rw [this]
end Go.Proofs.T1
namespace Go.Proofs.T1
open Go Go.Sx
theorem DV (a b:Int):eK (iz a b) 0=decide (a<b):=by
 unfold eK iz;refine decide_eq_decide.2 ?_
 split
 ·exact ⟨fun _=>by assumption,fun _=>by decide⟩
 ·split
  ·exact ⟨fun h=>absurd h (by decide),fun h=>by omega⟩
  ·exact ⟨fun h=>absurd h (by decide),fun h=>by omega⟩
theorem EG (a n:ay):dt a (ng n)=- dt a n:=by unfold dt ng; grind
theorem yN {n i:Int} (i0:0≤i) (i1:i<n) (h:n≤1000):en (bY .i64 (ao .i64 i n) 1) n=pv n i:=by
 rw [aX (by omega) (by omega),cR (by omega) (by omega)];unfold en pv;rw [Int.tmod_eq_emod_of_nonneg (by omega)];split
 ·rename_i c
  rw [c];exact (Int.emod_eq_of_lt (by omega) (by omega)).trans (by omega)
 ·have e:i+n - 1=(i - 1)+n*1:=by omega
  rw [e,Int.add_mul_emod_self_left];exact Int.emod_eq_of_lt (by omega) (by omega)
def ua (l:List ay) (n:ay) (i:Int):Int:=if dt (q l (pv (len l) i)) n<dt (q l (nx (len l) i)) n then pv (len l) i else i
theorem wX {l:List ay} {n:ay} {i:Int} (i0:0≤i) (i1:i<len l):0≤ua l n i∧ua l n i<len l:=by
 have:=qB i0 i1;unfold ua;split <;> omega
theorem zx {k:Nat} (hk:10≤k) {l:List ay} (l3:3≤len l) (l8:len l≤8) (hw:kh l) {n:ay} (hn:Ww n):∃ s,aS.c1 k l n k 0 0=some s∧xS l (ng n) s:=by
 have dd:∀ i,0≤i→i<len l→cM k (el cH l i) n=some (dt (q l i) n):=fun i i0 i1=>mg k (Hh (hw i i0 i1)) hn;obtain ⟨s,⟨_,h⟩,e⟩:=gS (fun f s v=>aS.c1 k l n f s v) 0 (len l) (fun s v=>(v=0→s=0)∧(0<v→0≤s∧s<v∧∀ j,0≤j→j<v→dt (q l s) n<dt (q l j) n∨(dt (q l s) n=dt (q l j) n∧s≤j)))
  (by
   intro f s v v0 v1 ⟨h1,h2⟩;have hs:0≤s∧s<len l:=by
    by_cases c:v=0
    ·rw [h1 c]; omega
    ·have:=h2 (by omega); omega
   show ∃ s',_∧aS.c1 k l n (f+1) s v=aS.c1 k l n f s' (v+1);rw [aS.c1,bA v1,bT,rP (bu v0 v1),dd v v0 v1,bS,rP (bu hs.1 hs.2),dd s hs.1 hs.2,bS,aX (by omega) (by omega)]
   by_cases c:dt (q l v) n<dt (q l s) n
   ·rw [bA c,bT]
    refine ⟨v,⟨fun h=>by omega,fun _=>⟨v0,by omega,fun j j0 j1=>?_⟩⟩,rfl⟩
    by_cases d:j=v
    ·subst d; exact Or.inr ⟨rfl,Int.le_refl _⟩
    ·have:=(h2 (by omega)).2.2 j j0 (by omega)
     left;omega
   ·rw [bZ (by omega),bF]
    refine ⟨s,⟨fun h=>by omega,fun _=>?_⟩,rfl⟩
    by_cases d:v=0
    ·have s0:=h1 d
     refine ⟨by omega,by omega,fun j j0 j1=>?_⟩;have:j=s:=by omega
     subst this;exact Or.inr ⟨rfl,Int.le_refl _⟩
    ·obtain ⟨a,b,g⟩:=h2 (by omega)
     refine ⟨a,by omega,fun j j0 j1=>?_⟩
     by_cases d2:j=v
     ·subst d2
      by_cases g2:dt (q l s) n=dt (q l j) n
      ·exact Or.inr ⟨g2,by omega⟩
      ·exact Or.inl (by omega)
     ·exact g j j0 (by omega))
  (by
   intro f s v v0 v1;show aS.c1 k l n (f+1) s v=some s
   rw [aS.c1,bZ v1,bF])
  k 0 0 (by omega) (by omega) (by omega) ⟨fun _=>rfl,fun h=>by omega⟩
 obtain ⟨a,b,g⟩:=h (by omega);refine ⟨s,e,a,b,fun j j0 j1=>?_⟩;rw [EG,EG];have:=g j j0 j1;omega
theorem C2 {k:Nat} (hk:10≤k) {l:List ay} (l3:3≤len l) (l8:len l≤8) (hw:kh l) {n:ay} (hn:Ww n) :
  ∃ i,aS k l n=some (ua l n i)∧fJ k l n=some (ua l n i)∧xS l (ng n) i:=by
 obtain ⟨i,e,far⟩:=zx hk l3 l8 hw hn;have i0:=far.1;have i1:=far.2.1;have hp:=qB i0 i1;have hx:=dK i0 i1;have wn:jd n.1∧jd n.2.1:=by unfold Ww at hn; unfold jd; omega
 have nn:((fk .i64 n.1,fk .i64 n.2.1,()):ay)=ng n:=by
  unfold Ww at hn;rw [kR (by omega) (by omega),kR (by omega) (by omega)];rfl
 have w1:=hw _ hp.1 hp.2.1;have w2:=hw _ hx.1 hx.2;refine ⟨i,?_,?_,far⟩
 ·unfold aS
  rw [e,bS,rP (show nz (len l) by unfold nz; omega),yN i0 i1 (by omega),rP (bu hp.1 hp.2.1)];have d1:cM k (el cH l (pv (len l) i)) n=some (dt (q l (pv (len l) i)) n):=mg k (Hh w1) hn;have d2:cM k (el cH l (nx (len l) i)) n=some (dt (q l (nx (len l) i)) n):=mg k (Hh w2) hn;rw [d1,bS,gK i0 i1 (by omega),rP (bu hx.1 hx.2),d2,bS];unfold ua
  by_cases c:dt (q l (pv (len l) i)) n<dt (q l (nx (len l) i)) n
  ·rw [bA c,bT,if_pos c]
  ·rw [bZ (by omega),bF,if_neg c]
 ·have wng:jd (ng n).1∧jd (ng n).2.1:=by unfold Ww at hn; unfold jd ng; dsimp only; omega
  have iw:∀ {v:ay},Wn v→jd v.1∧jd v.2.1:=fun h=>by unfold Wn at h; unfold jd; omega
  obtain ⟨x,ex,rx⟩:=wY (k:=k) (by omega) (a:=q l (pv (len l) i)) (b:=n) (iw w1).1 (iw w1).2 wn.1 wn.2;obtain ⟨y,ey,ry⟩:=wY (k:=k) (by omega) (a:=q l (nx (len l) i)) (b:=n) (iw w2).1 (iw w2).2 wn.1 wn.2;have r1:=lk w1 wn.1 wn.2;have r2:=lk w2 wn.1 wn.2;have rx:BR x (dt (q l (pv (len l) i)) n):=rx;have ry:BR y (dt (q l (nx (len l) i)) n):=ry;have ex:fz k (el cH l (pv (len l) i)) n=some x:=ex;have ey:fz k (el cH l (nx (len l) i)) n=some y:=ey;unfold fJ
  rw [nn,yr (by omega) l8 hw wng.1 wng.2 far,bS,rP (show nz (len l) by unfold nz; omega),yN i0 i1 (by omega),rP (bu hp.1 hp.2.1),ex,bS,gK i0 i1 (by omega),rP (bu hx.1 hx.2),ey,bS,
   wz (by omega) rx ry (by unfold SR; omega) (by unfold SR; omega),bS,DV]
  unfold ua
  by_cases c:dt (q l (pv (len l) i)) n<dt (q l (nx (len l) i)) n
  ·rw [decide_eq_true c,bT,if_pos c]
  ·rw [decide_eq_false c,bF,if_neg c]
def tv (l:List ay) (e:Int) (x:ay):Int:=cV (q l e) (q l (nx (len l) e)) x
noncomputable def dv (l:List ay) (e:Int) (x:ay):Int:=iF (tv l e x) (oE l e)
theorem xF {k:Nat} (hk:40≤k) {l:List ay} (h:ju l) {e:Int} (e0:0≤e) (e1:e<len l) {x:ay} (hx:Wn x):dI k x (q l e) (eM l e)=some (dv l e x,decide (0≤tv l e x)):=by
 have hn:=dK e0 e1;have h1:=h.2.2.1 e e0 e1;have ob:=jF h.2.2.1 e0 e1;have ht:=lR h1 (h.2.2.1 _ hn.1 hn.2) hx;obtain ⟨f1,l0,l1,_⟩:=jH (k:=k) hk h e0 e1;have ed:(sb (q l e) x).1*(eM l e).1+(sb (q l e) x).2.1*(eM l e).2.1=cV (q l e) (q l (nx (len l) e)) x:=by unfold eM cV sb; dsimp only; grind
 have ow:Ww (eM l e):=ob;have d:=mg k (sY h1 hx) ow;rw [ed] at d;obtain ⟨w,g1,g2,g3⟩:=lu k (a:=cV (q l e) (q l (nx (len l) e)) x) (b:=1) (by omega) (by omega) (by decide) (by decide);have rb:=xR (d:=cV (q l e) (q l (nx (len l) e)) x) l0 (c:=34359738368000000) (by decide) ht.1 ht.2;unfold dI;rw [km k h1 hx,bS,d,bS,g1,bS,f1,bS,qM (by omega) g2 l0 (by omega),g3,Int.mul_one,mL (by omega),bS];rfl
noncomputable def G5 (l:List ay) (e:Int) (u:ay) (id:Int) (x:ay) (i:Int):ay × (ay × ay):=(x,u,dv l e x,id+i,())
open Classical in
noncomputable def xU (l:List ay) (e:Int) (u:ay) (id:Int) (ok:Bool) (x y:ay):List (ay × (ay × ay)) :=
 (if ok=true∧0≤tv l e x then [G5 l e u id x 0] else [])++(if ok=true∧0≤tv l e y∧¬ y=x then [G5 l e u id y 1] else [])
section
variable {k:Nat} {ref inc:List ay} {e d:Int} {u:ay} {s ok:Bool} {x y:ay} {id kk:Int}
open Classical in
theorem Ge (hk:40≤k) (hv:ju ref) (e0:0≤e) (e1:e<len ref) (hx:Wn x) (hy:Wn y) {idx:Int} {b1:Bool} {b2 b3 d':Int} {b4:Bool} (hid:a7 .i64 (ao .i64 (a7 .i64 idx 8) kk) 2=id) (id0:0≤id) (id1:id≤1000) (f:Nat) :
  af.c4 k (ref,inc,idx) (ok,x,y) ((s,e,d,()),b1,b2) (b4,b3,u) (eM ref e) kk (f+3) 0 []=some (xU ref e u id ok x y):=by
 have hl:len [x,y]=2:=rfl;have g0:el cH [x,y] 0=x:=rfl;have g1:el cH [x,y] 1=y:=rfl;have gr:el cH ref e=q ref e:=rfl;have last:∀ l,af.c4 k (ref,inc,idx) (ok,x,y) ((s,e,d,()),b1,b2) (b4,b3,u) (eM ref e) kk (f+1) 2 l=some l:=by
  intro l;rw [af.c4];dsimp only;rw [hl,bZ (by decide),bF]
 have c5a:∀ dd,af.c5 k (ok,x,y) 0 (dd,decide (0≤tv ref e x))=some (decide (ok=true∧0≤tv ref e x)):=by
  intro dd;unfold af.c5;dsimp only;cases ok with
  | false=>rw [bF,decide_eq_false (fun h=>(by cases h.1))]
  | true =>
   rw [bT]
   by_cases c:0≤tv ref e x
   ·rw [decide_eq_true c,bT,fw rfl,bT,decide_eq_true ⟨rfl,c⟩]
   ·rw [decide_eq_false c,bF,decide_eq_false (fun h=>c h.2)]
 have c5b:∀ dd,af.c5 k (ok,x,y) 1 (dd,decide (0≤tv ref e y))=some (decide (ok=true∧0≤tv ref e y∧¬ y=x)):=by
  intro dd;unfold af.c5;dsimp only;cases ok with
  | false=>rw [bF,decide_eq_false (fun h=>(by cases h.1))]
  | true =>
   rw [bT]
   by_cases c:0≤tv ref e y
   ·rw [decide_eq_true c,bT,fl (by decide),bF]
    by_cases g:y=x
    ·refine (congrArg (fun b=>some (!b)) ((sf y x).trans (decide_eq_true g))).trans ?_
     rw [decide_eq_false (fun h=>h.2.2 g)];rfl
    ·refine (congrArg (fun b=>some (!b)) ((sf y x).trans (decide_eq_false g))).trans ?_
     rw [decide_eq_true ⟨rfl,c,g⟩];rfl
   ·rw [decide_eq_false c,bF,decide_eq_false (fun h=>c h.2.1)]
 have s1:∀ l:List (ay × (ay × ay)),l.length≤2→af.c4 k (ref,inc,idx) (ok,x,y) ((s,e,d,()),b1,b2) (b4,b3,u) (eM ref e) kk (f+2) 1 l=some (l++(if ok=true∧0≤tv ref e y∧¬ y=x then [G5 ref e u id y 1] else [])):=by
  intro l hll;rw [af.c4];dsimp only;rw [hl,bA (by decide),bT,rP (bu (by decide) (by rw [hl]; decide)),g1,gr,xF hk hv e0 e1 hy,bS,c5b,bS,hid,aX (by omega) (by omega),aX (by decide) (by decide)]
  by_cases c:ok=true∧0≤tv ref e y∧¬ y=x
  ·rw [decide_eq_true c,bT,if_pos c]
   refine (rP (show room 48 l [((y,u,dv ref e y,id+1,()):ay × (ay × ay))] by show (l.length+1)*48≤140737488355328; omega) _).trans ?_
   exact last _
  ·rw [decide_eq_false c,bF,if_neg c,List.append_nil]
   exact last _
 rw [af.c4];dsimp only;rw [hl,bA (by decide),bT,rP (bu (by decide) (by rw [hl]; decide)),g0,gr,xF hk hv e0 e1 hx,bS,c5a,bS,hid,aX (by omega) (by omega),aX (by decide) (by decide)];unfold xU
 by_cases c:ok=true∧0≤tv ref e x
 ·rw [decide_eq_true c,bT,if_pos c]
  refine (rP (show room 48 ([]:List (ay × (ay × ay))) [((x,u,dv ref e x,id+0,()):ay × (ay × ay))] by show (0+1)*48≤140737488355328; decide) _).trans ?_
  exact s1 _ (by show 1≤2; decide)
 ·rw [decide_eq_false c,bF,if_neg c]
  exact s1 _ (by decide)
open Classical in
theorem zl (hk:200≤k) (hv:ju ref) (e0:0≤e) (e1:e<len ref) (hx:Wn x) (hy:Wn y) {f0:Int} (hid:a7 .i64 (ao .i64 (a7 .i64 (ao .i64 (a7 .i64 8 f0) e) 8) kk) 2=id) (id0:0≤id) (id1:id≤1000) (f:Nat) :
  aC.c3 k (ref,inc,f0) (ok,[x,y]) (s,e,d,()) u kk (f+3) 0 []=some (xU ref e u id ok x y):=by
 have g0:el cH [x,y] 0=x:=rfl;have g1:el cH [x,y] 1=y:=rfl;have last:∀ l,aC.c3 k (ref,inc,f0) (ok,[x,y]) (s,e,d,()) u kk (f+1) 2 l=some l:=by
  intro l;rw [aC.c3,bZ (by decide),bF]
 have c5a:∀ dd,aC.c4 k (ok,[x,y]) 0 (dd,decide (0≤tv ref e x))=some (decide (ok=true∧0≤tv ref e x)):=by
  intro dd;unfold aC.c4;dsimp only;cases ok with
  | false=>rw [bF,decide_eq_false (fun h=>(by cases h.1))]
  | true =>
   rw [bT]
   by_cases c:0≤tv ref e x
   ·rw [decide_eq_true c,bT,fw rfl,bT,decide_eq_true ⟨rfl,c⟩]
   ·rw [decide_eq_false c,bF,decide_eq_false (fun h=>c h.2)]
 have c5b:∀ dd,aC.c4 k (ok,[x,y]) 1 (dd,decide (0≤tv ref e y))=some (decide (ok=true∧0≤tv ref e y∧¬ y=x)):=by
  intro dd;unfold aC.c4;dsimp only;cases ok with
  | false=>rw [bF,decide_eq_false (fun h=>(by cases h.1))]
  | true =>
   rw [bT]
   by_cases c:0≤tv ref e y
   ·rw [decide_eq_true c,bT,fl (by decide),bF]
    by_cases g:y=x
    ·refine (congrArg (fun b=>some (!b)) ((sf y x).trans (decide_eq_true g))).trans ?_
     rw [decide_eq_false (fun h=>h.2.2 g)];rfl
    ·refine (congrArg (fun b=>some (!b)) ((sf y x).trans (decide_eq_false g))).trans ?_
     rw [decide_eq_true ⟨rfl,c,g⟩];rfl
   ·rw [decide_eq_false c,bF,decide_eq_false (fun h=>c h.2.1)]
 have D:∀ {z:ay},Wn z→fg k ref e z=some (dv ref e z,decide (0≤tv ref e z)):=fun hz=>om hk hv e0 e1 hz;have s1:∀ l:List (ay × (ay × ay)),l.length≤2→aC.c3 k (ref,inc,f0) (ok,[x,y]) (s,e,d,()) u kk (f+2) 1 l=some (l++(if ok=true∧0≤tv ref e y∧¬ y=x then [G5 ref e u id y 1] else [])):=by
  intro l hll;rw [aC.c3];dsimp only;rw [bA (by decide),bT,rP (show fR 1 2 from ⟨by decide,by decide⟩),g1,D hy,bS,c5b,bS,hid,aX (by omega) (by omega),aX (by decide) (by decide)]
  by_cases c:ok=true∧0≤tv ref e y∧¬ y=x
  ·rw [decide_eq_true c,bT,if_pos c]
   refine (rP (show room 48 l [((y,u,dv ref e y,id+1,()):ay × (ay × ay))] by show (l.length+1)*48≤140737488355328; omega) _).trans ?_
   exact last _
  ·rw [decide_eq_false c,bF,if_neg c,List.append_nil]
   exact last _
 rw [aC.c3];dsimp only;rw [bA (by decide),bT,rP (show fR 0 2 from ⟨by decide,by decide⟩),g0,D hx,bS,c5a,bS,hid,aX (by omega) (by omega),aX (by decide) (by decide)];unfold xU
 by_cases c:ok=true∧0≤tv ref e x
 ·rw [decide_eq_true c,bT,if_pos c]
  refine (rP (show room 48 ([]:List (ay × (ay × ay))) [((x,u,dv ref e x,id+0,()):ay × (ay × ay))] by show (0+1)*48≤140737488355328; decide) _).trans ?_
  exact s1 _ (by show 1≤2; decide)
 ·rw [decide_eq_false c,bF,if_neg c]
  exact s1 _ (by decide)
theorem yq (hk:200≤k) {a b:List ay} (hv:ju ref) (hi:ju inc) (e0:0≤e) (e1:e<len ref) {f0 idx:Int} (hf:f0=0∨f0=1) (hidx:idx=8*f0+e)
  (hL:aH k a b=some ((s,e,d,()),true,0)) (hT:cL k a b=some (true,d,u)) (h2:af.c2 k a b ((s,e,d,()),true,0)=some (ref,inc,idx))
  (hR:aD k a b=some (s,e,d,())) (hW:gT k a b (s,e,d,())=some u) (h6:aC.c1 k a b (s,e,d,())=some (ref,inc,f0)) :
  ∃ X,af k a b=some X∧aC k a b=some X∧X.length≤2∧1≤X.length:=by
 obtain ⟨r3,r8,rw_,re⟩:=hv;obtain ⟨i3,i8,iw,ie⟩:=hi;have hv:ju ref:=⟨r3,r8,rw_,re⟩;have hi:ju inc:=⟨i3,i8,iw,ie⟩;have hx:=dK e0 e1;have ow:Ww (eM ref e):=jF rw_ e0 e1;obtain ⟨i,fa,fb,far⟩:=C2 (k:=k) (by omega) i3 i8 iw ow;have kr:=wX (n:=eM ref e) far.1 far.2.1;generalize ua inc (eM ref e) i=kk at *
 have kx:=dK kr.1 kr.2;have w1:=rw_ e e0 e1;have w2:=rw_ _ hx.1 hx.2;have w3:=iw kk kr.1 kr.2;have w4:=iw _ kx.1 kx.2;have wi:=iw i far.1 far.2.1;have idb:0≤(idx*8+kk)*2∧(idx*8+kk)*2≤1000:=by rcases hf with h | h <;> subst h <;> omega
 have ib:0≤idx∧idx≤16:=by rcases hf with h | h <;> subst h <;> omega
 have id1:a7 .i64 (ao .i64 (a7 .i64 idx 8) kk) 2=(idx*8+kk)*2:=by
  rw [eB (x:=idx) (by omega) (by omega),aX (by omega) (by omega),eB (by omega) (by omega)]
 have id2:a7 .i64 (ao .i64 (a7 .i64 (ao .i64 (a7 .i64 8 f0) e) 8) kk) 2=(idx*8+kk)*2:=by
  rw [eB (x:=8) (by rcases hf with h | h <;> subst h <;> decide) (by rcases hf with h | h <;> subst h <;> decide),aX (x:=8*f0) (by omega) (by omega),← hidx,eB (x:=idx) (by omega) (by omega),aX (by omega) (by omega),eB (by omega) (by omega)]
 have y18:Ww (sb (q ref (nx (len ref) e)) (q ref e)):=sY w2 w1;have y27:Ww (sb (q ref e) (q ref (nx (len ref) e))):=sY w1 w2;have cw:=EY (at_:=q ref e) (w:=sb (q ref (nx (len ref) e)) (q ref e)) w3 w4;have A1:=C0 (k:=k) (by omega) w3 w4 w1 y18;have B1:=yQ hk w3 w4 w1 y18;generalize xj (q inc kk) (q inc (nx (len inc) kk)) (q ref e) (sb (q ref (nx (len ref) e)) (q ref e))=C at *
 obtain ⟨c1,c2,ok⟩:=C;dsimp only at cw B1;have second:∃ ok' z1 z2,af.c3 k (ref,inc,idx) ((s,e,d,()),true,0) (c1,c2,ok)=some (ok',z1,z2)∧aC.c2 k (ref,inc,f0) (s,e,d,()) ([c1,c2],ok)=some (ok',[z1,z2])∧Wn z1∧Wn z2:=by
  unfold af.c3 aC.c2;dsimp only;cases ok with
  | false =>
   rw [bF,bF];exact ⟨false,c1,c2,rfl,rfl,cw⟩
  | true =>
   have A2:=C0 (k:=k) (by omega) cw.1 cw.2 w2 y27;have B2:=yQ hk cw.1 cw.2 w2 y27;have cw2:=EY (at_:=q ref (nx (len ref) e)) (w:=sb (q ref e) (q ref (nx (len ref) e))) cw.1 cw.2;rw [bT,bT,gK e0 e1 (by omega)];have m1:cI k (el cH ref e) (el cH ref (nx (len ref) e))=some (sb (q ref e) (q ref (nx (len ref) e))):=km k w1 w2;have m2:dJ k (el cH ref e) (el cH ref (nx (len ref) e))=some (sb (q ref e) (q ref (nx (len ref) e))):=sI k w1 w2;have A2:aQ k c1 c2 (el cH ref (nx (len ref) e)) (sb (q ref e) (q ref (nx (len ref) e)))=_:=A2;have B2:bO k [c1,c2] (el cH ref (nx (len ref) e)) (sb (q ref e) (q ref (nx (len ref) e)))=_:=B2;rw [m1,bS,A2,bS,m2,bS,B2,bS];exact ⟨_,_,_,rfl,rfl,cw2⟩
 obtain ⟨ok',z1,z2,S1,S2,v1,v2⟩:=second;have o1:=Ge (k:=k) (inc:=inc) (s:=s) (d:=d) (u:=u) (ok:=ok') (b1:=true) (b2:=0) (b3:=d) (d':=d) (b4:=true) (by omega) hv e0 e1 v1 v2 id1 idb.1 idb.2 (k - 3);have o2:=zl (k:=k) (inc:=inc) (s:=s) (d:=d) (u:=u) (ok:=ok') hk hv e0 e1 v1 v2 id2 idb.1 idb.2 (k - 3);rw [show k - 3+3=k by omega] at o1 o2;have sup:∃ j,bm k inc (ng (eM ref e))=some j∧xS inc (ng (eM ref e)) j:=by
  refine Be (by omega) hi ?_ ?_ <;> (unfold Ww at ow; unfold jd ng; dsimp only; omega)
 obtain ⟨j,sj,fj⟩:=sup;have:=uF fj far;subst this;have rfar:bQ k inc (ng (eM ref e))=some j:=by
  refine yr (by omega) i8 iw ?_ ?_ far <;> (unfold Ww at ow; unfold jd ng; dsimp only; omega)
 have nn:((fk .i64 (eM ref e).1,fk .i64 (eM ref e).2.1,()):ay)=ng (eM ref e):=by
  unfold Ww at ow;rw [kR (by omega) (by omega),kR (by omega) (by omega)];rfl
 have gl:∀ z:List (ay × (ay × ay)),z=xU ref e u ((idx*8+kk)*2) ok' z1 z2→z.length≤2:=by
  intro z hz;rw [hz];unfold xU;rw [List.length_append];split <;> split <;> simp
 have m0:cI k (el cH ref (nx (len ref) e)) (el cH ref e)=some (sb (q ref (nx (len ref) e)) (q ref e)):=km k w2 w1;have m1:dJ k (el cH ref (nx (len ref) e)) (el cH ref e)=some (sb (q ref (nx (len ref) e)) (q ref e)):=sI k w2 w1;have A1:aQ k (el cH inc kk) (el cH inc (nx (len inc) kk)) (el cH ref e) (sb (q ref (nx (len ref) e)) (q ref e))=some (c1,c2,ok):=A1;have B1:bO k [el cH inc kk,el cH inc (nx (len inc) kk)] (el cH ref e) (sb (q ref (nx (len ref) e)) (q ref e))=some ([c1,c2],ok):=B1;have dj:dI k (el cH inc j) (el cH ref e) (eM ref e)=some (dv ref e (q inc j),decide (0≤tv ref e (q inc j))):=xF (by omega) hv e0 e1 wi;have rj:fg k ref e (el cH inc j)=some (dv ref e (q inc j),decide (0≤tv ref e (q inc j))):=om hk hv e0 e1 wi;have P1:af k a b=aM (gB (len (xU ref e u ((idx*8+kk)*2) ok' z1 z2)) 0) (some ((xU ref e u ((idx*8+kk)*2) ok' z1 z2)++[(el cH inc j,u,dv ref e (q inc j),(idx*8+kk)*2,())])) (some (xU ref e u ((idx*8+kk)*2) ok' z1 z2)):=by
  unfold af;rw [hL,bS];unfold af.c1;dsimp only;rw [dR rfl,bF,bS];show aM false _ _=_;rw [bF,hT,bS,h2,bS];dsimp only
  rw [kD k r8 rw_ e0 e1,bS,rP (bu e0 e1),rP (show nz (len ref) by unfold nz; omega),gK e0 e1 (by omega),rP (bu hx.1 hx.2),fa,bS,rP (bu kr.1 kr.2),rP (show nz (len inc) by unfold nz; omega),gK kr.1 kr.2 (by omega),rP (bu kx.1 kx.2),
   m0,bS,A1,bS,S1,bS,o1,bS,nn,sj,bS,rP (bu far.1 far.2.1),dj,bS,id1]
  congr 1
  exact rP (by
   have:=gl _ rfl;show ((xU ref e u ((idx*8+kk)*2) ok' z1 z2).length+1)*48≤140737488355328
   omega) _
 have P2:aC k a b=aM (gB (len (xU ref e u ((idx*8+kk)*2) ok' z1 z2)) 0) (some ((xU ref e u ((idx*8+kk)*2) ok' z1 z2)++[(el cH inc j,u,dv ref e (q inc j),(idx*8+kk)*2,())])) (some (xU ref e u ((idx*8+kk)*2) ok' z1 z2)):=by
  unfold aC;rw [hR,bS,hW,bS,h6,bS];dsimp only
  rw [rP (bu e0 e1),rP (show nz (len ref) by unfold nz; omega),gK e0 e1 (by omega),rP (bu hx.1 hx.2),sV k r8 rw_ e0 e1,bS,fb,bS,rP (bu kr.1 kr.2),rP (show nz (len inc) by unfold nz; omega),gK kr.1 kr.2 (by omega),rP (bu kx.1 kx.2),
   m1,bS,B1,bS,S2,bS,o2,bS,nn,rfar,bS,rP (bu far.1 far.2.1),rj,bS,id2]
  congr 1
  exact rP (by
   have:=gl _ rfl;show ((xU ref e u ((idx*8+kk)*2) ok' z1 z2).length+1)*48≤140737488355328
   omega) _
 have lg:=gl _ rfl;generalize xU ref e u ((idx*8+kk)*2) ok' z1 z2=Z at *
 by_cases c:len Z=0
 ·rw [fw c,bT] at P1 P2
  have c0:Z.length=0:=by unfold len at c; omega
  exact ⟨_,P1,P2,by rw [List.length_append,c0]; show 0+1≤2; decide,by rw [List.length_append,c0]; show 1≤0+1; decide⟩
 ·rw [fl c,bF] at P1 P2
  exact ⟨_,P1,P2,lg,by unfold len at c; omega⟩
end
end Go.Proofs.T1
namespace Go.Proofs.T1
open Go Go.Sx
theorem Fj {v:ay} (h:Ww v):((fk .i64 v.1,fk .i64 v.2.1,()):ay)=(-v.1,-v.2.1,()):=by
 unfold Ww at h;rw [kR (by omega) (by omega),kR (by omega) (by omega)]
theorem Hf {k:Nat} (hk:200≤k) {a b:List ay} (va:ju a) (vb:ju b) (n:iQ a b∧iQ b a):∃ X,af k a b=some X∧aC k a b=some X∧X.length≤2:=by
 rcases DG (k:=k) (by omega) va vb with ⟨n',_⟩ | ⟨_,s,e,d,u,T,pb,hu⟩
 ·exact absurd n n'
 rcases ql (k:=k) (by omega) va vb with ⟨n',_⟩ | ⟨_,s',e',d',L,pb'⟩
 ·exact absurd n n'
 obtain ⟨x1,x2,x3⟩:=yT pb' pb;subst x1 x2 x3;obtain ⟨s'',e'',d'',R,pb''⟩:=zT (k:=k) hk va vb n.1 n.2;obtain ⟨x1,x2,x3⟩:=yT pb'' pb;subst x1 x2 x3;have rg:=qn pb;cases s'' with
 | false =>
  have rg:=rg.1 rfl;have W:gT k a b (false,e'',d'',())=some u:=by
   unfold gT;dsimp only;unfold pr at hu;rw [if_neg (by decide)] at hu;rw [bF,sV k va.2.1 va.2.2.1 rg.1 rg.2,bS,hu,bS]
  obtain ⟨X,x1,x2,x3,_⟩:=yq (k:=k) (ref:=a) (inc:=b) (s:=false) hk va vb rg.1 rg.2 (f0:=0) (idx:=e'') (Or.inl rfl) (by omega) L T rfl R W rfl;exact ⟨X,x1,x2,x3⟩
 | true =>
  have rg:=rg.2 rfl;have o:Ww (eM b e''):=jF vb.2.2.1 rg.1 rg.2;have b8:=vb.2.1;have W:gT k a b (true,e'',d'',())=some u:=by
   unfold gT;dsimp only;unfold pr at hu;rw [if_pos rfl] at hu;rw [bT,sV k vb.2.1 vb.2.2.1 rg.1 rg.2,bS];have nn:=Fj o;rw [nn,hu,bS]
  have c2:af.c2 k a b ((true,e'',d'',()),true,0)=some (b,a,8+e''):=by
   unfold af.c2;dsimp only;rw [bT,aX (by omega) (by omega)]
  obtain ⟨X,x1,x2,x3,_⟩:=yq (k:=k) (ref:=b) (inc:=a) (s:=true) hk vb va rg.1 rg.2 (f0:=1) (idx:=8+e'') (Or.inr rfl) (by omega) L T c2 R W rfl;exact ⟨X,x1,x2,x3⟩
end Go.Proofs.T1
