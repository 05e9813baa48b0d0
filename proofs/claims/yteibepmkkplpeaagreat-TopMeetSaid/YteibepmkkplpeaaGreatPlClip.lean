import Derived.Test.YteibepmkkplpeaaGreatPlTail
import Derived.Test.YteibepmkkplpeaaGreatG8
namespace Go.Proofs.T1
open Go Go.Sx
theorem xJ (x:Int):gp (-x)=gp x:=by unfold gp; split <;> split <;> omega
theorem AY {k:Nat} (hk:2≤k) {w:gz} (hw:oX w) {n:Int} (hn:n<0) (hn':-9223372036854775807≤n):aa k w n=some (fit (jg (-(wv w)) (-n))):=by
 rw [vz hk hw ⟨by omega,by omega⟩ (by omega),← tL (x:=-(wv w)) (n:=-n) (by omega),xJ,xJ]
 by_cases h:wv w=0
 ·rw [h]
  have e:gp 0=0:=rfl;rw [e,mq (by unfold gp; split <;> omega),mq (by unfold gp; split <;> omega)]
 ·have e:(decide (wv w<0) != decide (n<0))=(decide (-wv w<0) != decide (-n<0)):=by
   rw [decide_eq_true hn,decide_eq_false (show ¬ -n<0 by omega)]
   by_cases c:wv w<0
   ·rw [decide_eq_true c,decide_eq_false (show ¬ -wv w<0 by omega)]; rfl
   ·rw [decide_eq_false c,decide_eq_true (show -wv w<0 by omega)]; rfl
  rw [e]
theorem yz {x:Int} (h:-4611686018427387904≤x) (g:x≤4611686018427387904):c9 .i64 x=-x:=by
 show IntKind.i64.wrap (0 - x)=-x;rw [wrap_i64 (by omega) (by omega)];omega
def qv (x n:Int):Int:=if 0<n then jg x n else jg (-x) (-n)
theorem D5 {n:Int} (hn:0<n):jg 0 n=0:=by
 unfold jg;exact Int.ediv_eq_zero_of_lt (by omega) (by omega)
theorem vR {e A N:Int} (hN:0<N) (a0:0≤A) (a1:A≤N):(0≤e→0≤jg (e*A) N∧jg (e*A) N≤e)∧(e≤0→e≤jg (e*A) N∧jg (e*A) N≤0):=by
 have full:jg (N*e) N=e:=by
  have:=DU (x:=0) (n:=N) (c:=e) hN;rw [Int.zero_add,D5 hN,Int.zero_add] at this;exact this
 constructor
 ·intro h
  have g:=Int.mul_le_mul_of_nonneg_left a1 h;rw [Int.mul_comm e N] at g;exact ⟨xw hN (Int.mul_nonneg h a0),by have:=qY hN g; omega⟩
 ·intro h
  have g:N*e≤e*A:=by
   have:=Int.mul_le_mul_of_nonneg_left a1 (show 0≤-e by omega);rw [Int.neg_mul,Int.neg_mul] at this;have:=Int.mul_comm N e;omega
  have z:e*A≤0:=Int.mul_nonpos_of_nonpos_of_nonneg h a0;have m1:=qY hN g;have m2:=qY hN z;rw [D5 hN] at m2;omega
theorem sa {e a b:Int} (h:(a<0∧0≤b)∨(b<0∧0≤a)):(0≤e→0≤qv (e*a) (a - b)∧qv (e*a) (a - b)≤e)∧(e≤0→e≤qv (e*a) (a - b)∧qv (e*a) (a - b)≤0):=by
 unfold qv;rcases h with ⟨h1,h2⟩ | ⟨h1,h2⟩
 ·rw [if_neg (by omega),show -(e*a)=e*-a from (Int.mul_neg e a).symm]
  exact vR (by omega) (by omega) (by omega)
 ·rw [if_pos (by omega)]
  exact vR (by omega) (by omega) (by omega)
def EU (p r:aB) (a b:Int):aB:=(p.1+qv ((r.1 - p.1)*a) (a - b),p.2.1+qv ((r.2.1 - p.2.1)*a) (a - b),())
theorem D8 {p r:aB} (hp:Wn p) (hr:Wn r) {a b:Int} (h:(a<0∧0≤b)∨(b<0∧0≤a)):Wn (EU p r a b):=by
 have x:=sa (e:=r.1 - p.1) h;have y:=sa (e:=r.2.1 - p.2.1) h;unfold Wn at *
 unfold EU;dsimp only;rcases Int.le_total 0 (r.1 - p.1) with c | c <;> rcases Int.le_total 0 (r.2.1 - p.2.1) with d | d
 ·have:=x.1 c; have:=y.1 d; omega
 ·have:=x.1 c; have:=y.2 d; omega
 ·have:=x.2 c; have:=y.1 d; omega
 ·have:=x.2 c; have:=y.2 d; omega
theorem uf {p r:Int} (hp:-65536000≤p∧p≤65536000) (hr:-65536000≤r∧r≤65536000) {a b:Int} (h:(a<0∧0≤b)∨(b<0∧0≤a)):-131072000≤qv ((r - p)*a) (a - b)∧qv ((r - p)*a) (a - b)≤131072000:=by
 have x:=sa (e:=r - p) h;rcases Int.le_total 0 (r - p) with c | c
 ·have:=x.1 c; omega
 ·have:=x.2 c; omega
theorem xL {k:Nat} (hk:2≤k) {e a b:Int} (he:-131072000≤e∧e≤131072000) (ha:-1000000000000000000≤a∧a≤1000000000000000000) (hb:-1000000000000000000≤b∧b≤1000000000000000000) (h:(a<0∧0≤b)∨(b<0∧0≤a)) :
  ∃ w,aQ k e a=some w∧aa k w (a - b)=some (qv (e*a) (a - b),0):=by
 obtain ⟨w,e1,o1,v1⟩:=iO k (a:=e) (b:=a) (by omega) (by omega) (by omega) (by omega);have q:=sa (e:=e) h;have qb:-131072000≤qv (e*a) (a - b)∧qv (e*a) (a - b)≤131072000:=by
  rcases Int.le_total 0 e with c | c
  ·have:=q.1 c; omega
  ·have:=q.2 c; omega
 refine ⟨w,e1,?_⟩;unfold qv at qb ⊢
 by_cases c:0<a - b
 ·rw [if_pos c] at qb ⊢
  rw [qQ hk o1 c (by omega),v1,su (by omega)]
 ·rw [if_neg c] at qb ⊢
  rw [AY hk o1 (by omega) (by omega),v1,su (by omega)]
theorem rF {k:Nat} (hk:2≤k) {p r:aB} (hp:Wn p) (hr:Wn r) {a b:Int} (ha:-1000000000000000000≤a∧a≤1000000000000000000) (hb:-1000000000000000000≤b∧b≤1000000000000000000) (h:(a<0∧0≤b)∨(b<0∧0≤a)) :
  dq k p r a b=some (EU p r a b):=by
 unfold Wn at hp hr;obtain ⟨x,e1,e2⟩:=xL hk (e:=r.1 - p.1) (by omega) ha hb h;obtain ⟨y,e3,e4⟩:=xL hk (e:=r.2.1 - p.2.1) (by omega) ha hb h;have q1:=uf (p:=p.1) (r:=r.1) (by omega) (by omega) h;have q2:=uf (p:=p.2.1) (r:=r.2.1) (by omega) (by omega) h;unfold dq;rw [cR (x:=r.1) (by omega) (by omega),cR (x:=r.2.1) (by omega) (by omega),cR (x:=a) (by omega) (by omega),e1,bS,e2,bS,e3,bS,e4,bS];dsimp only;rw [bH (by omega) (by omega),bH (by omega) (by omega)];rfl
def dw (p at_ w:aB):Int:=(p.1 - at_.1)*w.1+(p.2.1 - at_.2.1)*w.2.1
def DZ (p r at_ w:aB):aB × (aB × Bool) :=
 if dw p at_ w<0∧dw r at_ w<0 then (p,r,false) else if dw p at_ w<0 then (EU p r (dw p at_ w) (dw r at_ w),r,true) else if dw r at_ w<0 then (p,EU p r (dw p at_ w) (dw r at_ w),true) else (p,r,true)
def Ww (w:aB):Prop:=-131072000≤w.1∧w.1≤131072000∧-131072000≤w.2.1∧w.2.1≤131072000
theorem Ey {p r at_ w:aB} (hp:Wn p) (hr:Wn r):Wn (DZ p r at_ w).1∧Wn (DZ p r at_ w).2.1:=by
 unfold DZ
 by_cases a:dw p at_ w<0
 ·by_cases b:dw r at_ w<0
  ·rw [if_pos ⟨a,b⟩]; exact ⟨hp,hr⟩
  ·rw [if_neg (fun h=>b h.2),if_pos a]; exact ⟨D8 hp hr (Or.inl ⟨a,by omega⟩),hr⟩
 ·by_cases b:dw r at_ w<0
  ·rw [if_neg (fun h=>a h.1),if_neg a,if_pos b]; exact ⟨hp,D8 hp hr (Or.inr ⟨b,by omega⟩)⟩
  ·rw [if_neg (fun h=>a h.1),if_neg a,if_neg b]; exact ⟨hp,hr⟩
theorem Ew {p at_ w:aB} (hp:Wn p) (ha:Wn at_) (hw:Ww w):-34359738368000000≤dw p at_ w∧dw p at_ w≤34359738368000000:=by
 unfold Wn at hp ha;unfold Ww at hw;have h1:=dB (x:=p.1 - at_.1) (y:=w.1) (M:=131072000) (N:=131072000) (by omega) (by omega) (by omega) (by omega);have h2:=dB (x:=p.2.1 - at_.2.1) (y:=w.2.1) (M:=131072000) (N:=131072000) (by omega) (by omega) (by omega) (by omega);unfold dw;omega
theorem kL (k:Nat) {a b:aB} (ha:Wn a) (hb:Wn b):cF k a b=some (sb a b):=by
 unfold Wn at ha hb;unfold cF;rw [cR (by omega) (by omega),cR (by omega) (by omega)];rfl
theorem B7 {a b:aB} (ha:Wn a) (hb:Wn b):Ww (sb a b):=by
 unfold Wn at ha hb;unfold Ww sb;dsimp only;omega
theorem mu (k:Nat) {a b:aB} (ha:Ww a) (hb:Ww b):cK k a b=some (a.1*b.1+a.2.1*b.2.1):=by
 unfold Ww at ha hb;have h1:=dB (x:=a.1) (y:=b.1) (M:=131072000) (N:=131072000) (by omega) (by omega) (by omega) (by omega);have h2:=dB (x:=a.2.1) (y:=b.2.1) (M:=131072000) (N:=131072000) (by omega) (by omega) (by omega) (by omega);unfold cK;rw [dr (by omega) (by omega),dr (by omega) (by omega),bH (by omega) (by omega)]
theorem GO {a:aB} (h:Wn a):Ww a:=by unfold Wn at h; unfold Ww; omega
theorem CN {k:Nat} (hk:2≤k) {p r at_ w:aB} (hp:Wn p) (hr:Wn r) (ha:Wn at_) (hw:Ww w):aV k p r at_ w=some (DZ p r at_ w):=by
 have b1:=Ew hp ha hw;have b2:=Ew hr ha hw;have d1:cK k (sb p at_) w=some (dw p at_ w):=mu k (B7 hp ha) hw;have d2:cK k (sb r at_) w=some (dw r at_ w):=mu k (B7 hr ha) hw;unfold aV;rw [kL k hp ha,bS,d1,bS,kL k hr ha,bS,d2,bS];unfold aV.c1 aV.c2 DZ
 by_cases a:dw p at_ w<0
 ·by_cases b:dw r at_ w<0
  ·rw [cB a,bT,cB b,bS,bT,if_pos ⟨a,b⟩]
  ·rw [cB a,bT,cD (by omega),bS,bF,bT,rF hk hp hr (by omega) (by omega) (Or.inl ⟨a,by omega⟩),bS,bS,if_neg (fun h=>b h.2),if_pos a]
 ·by_cases b:dw r at_ w<0
  ·rw [cD (by omega),bF,bS,bF,bF,cB b,bT,rF hk hp hr (by omega) (by omega) (Or.inr ⟨b,by omega⟩),bS,bS,if_neg (fun h=>a h.1),if_neg a,if_pos b]
  ·rw [cD (by omega),bF,bS,bF,bF,cD (by omega),bF,bS,if_neg (fun h=>a h.1),if_neg a,if_neg b]
end Go.Proofs.T1
namespace Go.Proofs.T1
open Go Go.Sx
theorem Em (a n:aB):dt a (ng n)=- dt a n:=by unfold dt ng; grind
theorem C6 {n i:Int} (i0:0≤i) (i1:i<n) (h:n≤1000):cC (aU .i64 (ag .i64 i n) 1) n=pv n i:=by
 rw [bH (by omega) (by omega),cR (by omega) (by omega)];unfold cC pv;rw [Int.tmod_eq_emod_of_nonneg (by omega)];split
 ·rename_i c
  rw [c];exact (Int.emod_eq_of_lt (by omega) (by omega)).trans (by omega)
 ·have e:i+n - 1=(i - 1)+n*1:=by omega
  rw [e,Int.add_mul_emod_self_left];exact Int.emod_eq_of_lt (by omega) (by omega)
def zZ (l:List aB) (n:aB) (i:Int):Int:=if dt (q l (pv (len l) i)) n<dt (q l (nx (len l) i)) n then pv (len l) i else i
theorem xf {l:List aB} {n:aB} {i:Int} (i0:0≤i) (i1:i<len l):0≤zZ l n i∧zZ l n i<len l:=by
 have:=qX i0 i1;unfold zZ;split <;> omega
theorem zN {k:Nat} (hk:10≤k) {l:List aB} (l3:3≤len l) (l8:len l≤8) (hw:jT l) {n:aB} (hn:Ww n):∃ s,aX.c1 k l n k 0 0=some s∧zS l (ng n) s:=by
 have dd:∀ i,0≤i→i<len l→cK k (el bK l i) n=some (dt (q l i) n):=fun i i0 i1=>mu k (GO (hw i i0 i1)) hn;obtain ⟨s,⟨_,h⟩,e⟩:=iM (fun f s v=>aX.c1 k l n f s v) 0 (len l) (fun s v=>(v=0→s=0)∧(0<v→0≤s∧s<v∧∀ j,0≤j→j<v→dt (q l s) n<dt (q l j) n∨(dt (q l s) n=dt (q l j) n∧s≤j)))
  (by
   intro f s v v0 v1 ⟨h1,h2⟩;have hs:0≤s∧s<len l:=by
    by_cases c:v=0
    ·rw [h1 c]; omega
    ·have:=h2 (by omega); omega
   show ∃ s',_∧aX.c1 k l n (f+1) s v=aX.c1 k l n f s' (v+1);rw [aX.c1,cB v1,bT,rP (cZ v0 v1),dd v v0 v1,bS,rP (cZ hs.1 hs.2),dd s hs.1 hs.2,bS,bH (by omega) (by omega)]
   by_cases c:dt (q l v) n<dt (q l s) n
   ·rw [cB c,bT]
    refine ⟨v,⟨fun h=>by omega,fun _=>⟨v0,by omega,fun j j0 j1=>?_⟩⟩,rfl⟩
    by_cases d:j=v
    ·subst d; exact Or.inr ⟨rfl,Int.le_refl _⟩
    ·have:=(h2 (by omega)).2.2 j j0 (by omega)
     left;omega
   ·rw [cD (by omega),bF]
    refine ⟨s,⟨fun h=>by omega,fun _=>?_⟩,rfl⟩
    by_cases d:v=0
    ·have s0:=h1 d
     refine ⟨by omega,by omega,fun j j0 j1=>?_⟩;have:j=s:=by omega
     subst this;exact Or.inr ⟨rfl,Int.le_refl _⟩
    ·obtain ⟨a,b,g⟩:=h2 (by omega)
     refine ⟨a,by omega,fun j j0 j1=>?_⟩
     by_cases d2:j=v
     ·subst d2
      by_cases g2:dt (q l s) n=dt (q l j) n
      ·exact Or.inr ⟨g2,by omega⟩
      ·exact Or.inl (by omega)
     ·exact g j j0 (by omega))
  (by
   intro f s v v0 v1;show aX.c1 k l n (f+1) s v=some s
   rw [aX.c1,cD v1,bF])
  k 0 0 (by omega) (by omega) (by omega) ⟨fun _=>rfl,fun h=>by omega⟩
 obtain ⟨a,b,g⟩:=h (by omega);refine ⟨s,e,a,b,fun j j0 j1=>?_⟩;rw [Em,Em];have:=g j j0 j1;omega
def tv (l:List aB) (e:Int) (x:aB):Int:=fb (q l e) (q l (nx (len l) e)) x
noncomputable def dv (l:List aB) (e:Int) (x:aB):Int:=jg (tv l e x) (mO l e)
theorem xE {k:Nat} (hk:40≤k) {l:List aB} (h:jx l) {e:Int} (e0:0≤e) (e1:e<len l) {x:aB} (hx:Wn x):dW k x (q l e) (fk l e)=some (dv l e x,decide (0≤tv l e x)):=by
 have hn:=dK e0 e1;have h1:=h.2.2.1 e e0 e1;have ob:=lz h.2.2.1 e0 e1;have ht:=rN h1 (h.2.2.1 _ hn.1 hn.2) hx;obtain ⟨f1,l0,l1,_⟩:=kM (k:=k) hk h e0 e1;have ed:(sb (q l e) x).1*(fk l e).1+(sb (q l e) x).2.1*(fk l e).2.1=fb (q l e) (q l (nx (len l) e)) x:=by unfold fk fb sb; dsimp only; grind
 have ow:Ww (fk l e):=ob;have d:=mu k (B7 h1 hx) ow;rw [ed] at d;obtain ⟨w,g1,g2,g3⟩:=iO k (a:=fb (q l e) (q l (nx (len l) e)) x) (b:=1) (by omega) (by omega) (by decide) (by decide);have rb:=Aw (d:=fb (q l e) (q l (nx (len l) e)) x) l0 (c:=34359738368000000) (by decide) ht.1 ht.2;unfold dW;rw [kL k h1 hx,bS,d,bS,g1,bS,f1,bS,qQ (by omega) g2 l0 (by omega),g3,Int.mul_one,su (by omega),bS];rfl
noncomputable def CR (l:List aB) (e:Int) (u:aB) (id:Int) (x:aB) (i:Int):aB × (aB × aB):=(x,u,dv l e x,id+i,())
open Classical in
noncomputable def As (l:List aB) (e:Int) (u:aB) (id:Int) (ok:Bool) (x y:aB):List (aB × (aB × aB)) :=
 (if ok=true∧0≤tv l e x then [CR l e u id x 0] else [])++(if ok=true∧0≤tv l e y∧¬ y=x then [CR l e u id y 1] else [])
section
variable {k:Nat} {ref inc:List aB} {e d:Int} {u:aB} {s ok:Bool} {x y:aB} {id kk:Int}
open Classical in
theorem FX (hk:40≤k) (hv:jx ref) (e0:0≤e) (e1:e<len ref) (hx:Wn x) (hy:Wn y) {idx:Int} {b1:Bool} {b2 b3 d':Int} {b4:Bool} (hid:aN .i64 (ag .i64 (aN .i64 idx 8) kk) 2=id) (id0:0≤id) (id1:id≤1000) (f:Nat) :
  af.c4 k (ref,inc,idx) (ok,x,y) ((s,e,d,()),b1,b2) (b4,b3,u) (fk ref e) kk (f+3) 0 []=some (As ref e u id ok x y):=by
 have hl:len [x,y]=2:=rfl;have g0:el bK [x,y] 0=x:=rfl;have g1:el bK [x,y] 1=y:=rfl;have gr:el bK ref e=q ref e:=rfl;have last:∀ l,af.c4 k (ref,inc,idx) (ok,x,y) ((s,e,d,()),b1,b2) (b4,b3,u) (fk ref e) kk (f+1) 2 l=some l:=by
  intro l;rw [af.c4];dsimp only;rw [hl,cD (by decide),bF]
 have c5a:∀ dd,af.c5 k (ok,x,y) 0 (dd,decide (0≤tv ref e x))=some (decide (ok=true∧0≤tv ref e x)):=by
  intro dd;unfold af.c5;dsimp only;cases ok with
  | false=>rw [bF,decide_eq_false (fun h=>(by cases h.1))]
  | true =>
   rw [bT]
   by_cases c:0≤tv ref e x
   ·rw [decide_eq_true c,bT,fw rfl,bT,decide_eq_true ⟨rfl,c⟩]
   ·rw [decide_eq_false c,bF,decide_eq_false (fun h=>c h.2)]
 have c5b:∀ dd,af.c5 k (ok,x,y) 1 (dd,decide (0≤tv ref e y))=some (decide (ok=true∧0≤tv ref e y∧¬ y=x)):=by
  intro dd;unfold af.c5;dsimp only;cases ok with
  | false=>rw [bF,decide_eq_false (fun h=>(by cases h.1))]
  | true =>
   rw [bT]
   by_cases c:0≤tv ref e y
   ·rw [decide_eq_true c,bT,fu (by decide),bF]
    by_cases g:y=x
    ·refine (congrArg (fun b=>some (!b)) ((yo y x).trans (decide_eq_true g))).trans ?_
     rw [decide_eq_false (fun h=>h.2.2 g)];rfl
    ·refine (congrArg (fun b=>some (!b)) ((yo y x).trans (decide_eq_false g))).trans ?_
     rw [decide_eq_true ⟨rfl,c,g⟩];rfl
   ·rw [decide_eq_false c,bF,decide_eq_false (fun h=>c h.2.1)]
 have s1:∀ l:List (aB × (aB × aB)),l.length≤2→af.c4 k (ref,inc,idx) (ok,x,y) ((s,e,d,()),b1,b2) (b4,b3,u) (fk ref e) kk (f+2) 1 l=some (l++(if ok=true∧0≤tv ref e y∧¬ y=x then [CR ref e u id y 1] else [])):=by
  intro l hll;rw [af.c4];dsimp only;rw [hl,cB (by decide),bT,rP (cZ (by decide) (by rw [hl]; decide)),g1,gr,xE hk hv e0 e1 hy,bS,c5b,bS,hid,bH (by omega) (by omega),bH (by decide) (by decide)]
  by_cases c:ok=true∧0≤tv ref e y∧¬ y=x
  ·rw [decide_eq_true c,bT,if_pos c]
   refine (rP (show room 48 l [((y,u,dv ref e y,id+1,()):aB × (aB × aB))] by show (l.length+1)*48≤140737488355328; omega) _).trans ?_
   exact last _
  ·rw [decide_eq_false c,bF,if_neg c,List.append_nil]
   exact last _
 rw [af.c4];dsimp only;rw [hl,cB (by decide),bT,rP (cZ (by decide) (by rw [hl]; decide)),g0,gr,xE hk hv e0 e1 hx,bS,c5a,bS,hid,bH (by omega) (by omega),bH (by decide) (by decide)];unfold As
 by_cases c:ok=true∧0≤tv ref e x
 ·rw [decide_eq_true c,bT,if_pos c]
  refine (rP (show room 48 ([]:List (aB × (aB × aB))) [((x,u,dv ref e x,id+0,()):aB × (aB × aB))] by show (0+1)*48≤140737488355328; decide) _).trans ?_
  exact s1 _ (by show 1≤2; decide)
 ·rw [decide_eq_false c,bF,if_neg c]
  exact s1 _ (by decide)
end
end Go.Proofs.T1
namespace Go.Proofs.T1
open Go Go.Sx
def Bx (M:Int) (v:aB):Prop:=-M≤v.1∧v.1≤M∧-M≤v.2.1∧v.2.1≤M
theorem Ec {M:Int} {p r:aB} (hp:Bx M p) (hr:Bx M r) {a b:Int} (h:(a<0∧0≤b)∨(b<0∧0≤a)):Bx M (EU p r a b):=by
 have x:=sa (e:=r.1 - p.1) h;have y:=sa (e:=r.2.1 - p.2.1) h;unfold Bx at *
 unfold EU;dsimp only;rcases Int.le_total 0 (r.1 - p.1) with c | c <;> rcases Int.le_total 0 (r.2.1 - p.2.1) with d | d
 ·have:=x.1 c; have:=y.1 d; omega
 ·have:=x.1 c; have:=y.2 d; omega
 ·have:=x.2 c; have:=y.1 d; omega
 ·have:=x.2 c; have:=y.2 d; omega
theorem Eb {M:Int} {p r at_ w:aB} (hp:Bx M p) (hr:Bx M r):Bx M (DZ p r at_ w).1∧Bx M (DZ p r at_ w).2.1:=by
 unfold DZ
 by_cases a:dw p at_ w<0
 ·by_cases b:dw r at_ w<0
  ·rw [if_pos ⟨a,b⟩]; exact ⟨hp,hr⟩
  ·rw [if_neg (fun h=>b h.2),if_pos a]; exact ⟨Ec hp hr (Or.inl ⟨a,by omega⟩),hr⟩
 ·by_cases b:dw r at_ w<0
  ·rw [if_neg (fun h=>a h.1),if_neg a,if_pos b]; exact ⟨hp,Ec hp hr (Or.inr ⟨b,by omega⟩)⟩
  ·rw [if_neg (fun h=>a h.1),if_neg a,if_neg b]; exact ⟨hp,hr⟩
theorem Bi {k:Nat} (hk:10≤k) {l:List aB} (l3:3≤len l) (l8:len l≤8) (hw:jT l) {n:aB} (hn:Ww n) :
  ∃ i,aX k l n=some (zZ l n i)∧zS l (ng n) i:=by
 obtain ⟨i,e,far⟩:=zN hk l3 l8 hw hn;have i0:=far.1;have i1:=far.2.1;have hp:=qX i0 i1;have hx:=dK i0 i1;have w1:=hw _ hp.1 hp.2.1;have w2:=hw _ hx.1 hx.2;refine ⟨i,?_,far⟩;unfold aX;rw [e,bS,rP (show nz (len l) by unfold nz; omega),C6 i0 i1 (by omega),rP (cZ hp.1 hp.2.1)];have d1:cK k (el bK l (pv (len l) i)) n=some (dt (q l (pv (len l) i)) n):=mu k (GO w1) hn;have d2:cK k (el bK l (nx (len l) i)) n=some (dt (q l (nx (len l) i)) n):=mu k (GO w2) hn;rw [d1,bS,gU i0 i1 (by omega),rP (cZ hx.1 hx.2),d2,bS];unfold zZ
 by_cases c:dt (q l (pv (len l) i)) n<dt (q l (nx (len l) i)) n
 ·rw [cB c,bT,if_pos c]
 ·rw [cD (by omega),bF,if_neg c]
theorem F9 {e n l:Int} (l0:0≤l) (h0:-l≤e) (h1:e≤l):-(l*gp n)≤e*n:=by
 have h:=dB (x:=e) (y:=n) (M:=l) (N:=gp n) h0 h1 (by unfold gp; split <;> omega) (by unfold gp; split <;> omega);exact h.1
theorem GR {nx ny L:Int} (h:Rt (nx*nx+ny*ny) L) (L1:0<L):gp nx+gp ny≤2*L:=by
 have a0:0≤gp nx:=by unfold gp; split <;> omega
 have b0:0≤gp ny:=by unfold gp; split <;> omega
 rw [← mQ nx,← mQ ny] at h;have h2:=h.2.2;generalize gp nx=a at *
 generalize gp ny=b at *
 rcases Int.lt_or_le (2*L) (a+b) with c | c
 ·exfalso
  have k1:=rE (show 0≤2*L+1 by omega) (show 2*L+1≤a+b by omega);have k2:=iJ (a - b);have e1:(a+b)*(a+b)+(a - b)*(a - b)=2*(a*a+b*b):=by grind
  have e2:(2*L+1)*(2*L+1)=4*(L*L)+4*L+1:=by grind
  have e3:(L+1)*(L+1)=L*L+2*L+1:=by grind
  have k3:=iJ L;rw [e3] at h2;omega
 ·exact c
section
variable {k:Nat} {ref inc:List aB} {e d:Int} {u:aB} {s ok:Bool} {x y:aB} {id kk:Int}
end
end Go.Proofs.T1
