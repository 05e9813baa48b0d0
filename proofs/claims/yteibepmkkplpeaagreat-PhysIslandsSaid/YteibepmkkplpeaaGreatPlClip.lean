import Derived.Test.YteibepmkkplpeaaGreatPlTail
import Derived.Test.YteibepmkkplpeaaGreatG6
namespace Go.Proofs.T1
open Go Go.Sx
theorem wY (x:Int):fO (-x)=fO x:=by unfold fO; split <;> split <;> omega
theorem zl {k:Nat} (hk:2≤k) {w:gL} (hw:ov w) {n:Int} (hn:n<0) (hn':-9223372036854775807≤n):ae k w n=some (fit (iH (-(wv w)) (-n))):=by
 rw [uh hk hw ⟨by omega,by omega⟩ (by omega),← rz (x:=-(wv w)) (n:=-n) (by omega),wY,wY]
 by_cases h:wv w=0
 ·rw [h]
  have e:fO 0=0:=rfl;rw [e,kY (by unfold fO; split <;> omega),kY (by unfold fO; split <;> omega)]
 ·have e:(decide (wv w<0) != decide (n<0))=(decide (-wv w<0) != decide (-n<0)):=by
   rw [decide_eq_true hn,decide_eq_false (show ¬ -n<0 by omega)]
   by_cases c:wv w<0
   ·rw [decide_eq_true c,decide_eq_false (show ¬ -wv w<0 by omega)]; rfl
   ·rw [decide_eq_false c,decide_eq_true (show -wv w<0 by omega)]; rfl
  rw [e]
theorem vY {x:Int} (h:-4611686018427387904≤x) (g:x≤4611686018427387904):dU .i64 x=-x:=by
 show IntKind.i64.wrap (0 - x)=-x;rw [wrap_i64 (by omega) (by omega)];omega
def qv (x n:Int):Int:=if 0<n then iH x n else iH (-x) (-n)
theorem Ch {n:Int} (hn:0<n):iH 0 n=0:=by
 unfold iH;exact Int.ediv_eq_zero_of_lt (by omega) (by omega)
theorem tl {e A N:Int} (hN:0<N) (a0:0≤A) (a1:A≤N):(0≤e→0≤iH (e*A) N∧iH (e*A) N≤e)∧(e≤0→e≤iH (e*A) N∧iH (e*A) N≤0):=by
 have full:iH (N*e) N=e:=by
  have:=Cb (x:=0) (n:=N) (c:=e) hN;rw [Int.zero_add,Ch hN,Int.zero_add] at this;exact this
 constructor
 ·intro h
  have g:=Int.mul_le_mul_of_nonneg_left a1 h;rw [Int.mul_comm e N] at g;exact ⟨yT hN (Int.mul_nonneg h a0),by have:=pP hN g; omega⟩
 ·intro h
  have g:N*e≤e*A:=by
   have:=Int.mul_le_mul_of_nonneg_left a1 (show 0≤-e by omega);rw [Int.neg_mul,Int.neg_mul] at this;have:=Int.mul_comm N e;omega
  have z:e*A≤0:=Int.mul_nonpos_of_nonpos_of_nonneg h a0;have m1:=pP hN g;have m2:=pP hN z;rw [Ch hN] at m2;omega
theorem qB {e a b:Int} (h:(a<0∧0≤b)∨(b<0∧0≤a)):(0≤e→0≤qv (e*a) (a - b)∧qv (e*a) (a - b)≤e)∧(e≤0→e≤qv (e*a) (a - b)∧qv (e*a) (a - b)≤0):=by
 unfold qv;rcases h with ⟨h1,h2⟩ | ⟨h1,h2⟩
 ·rw [if_neg (by omega),show -(e*a)=e*-a from (Int.mul_neg e a).symm]
  exact tl (by omega) (by omega) (by omega)
 ·rw [if_pos (by omega)]
  exact tl (by omega) (by omega) (by omega)
def C3 (p r:aV) (a b:Int):aV:=(p.1+qv ((r.1 - p.1)*a) (a - b),p.2.1+qv ((r.2.1 - p.2.1)*a) (a - b),())
theorem CE {p r:aV} (hp:Wn p) (hr:Wn r) {a b:Int} (h:(a<0∧0≤b)∨(b<0∧0≤a)):Wn (C3 p r a b):=by
 have x:=qB (e:=r.1 - p.1) h;have y:=qB (e:=r.2.1 - p.2.1) h;unfold Wn at *
 unfold C3;dsimp only;rcases Int.le_total 0 (r.1 - p.1) with c | c <;> rcases Int.le_total 0 (r.2.1 - p.2.1) with d | d
 ·have:=x.1 c; have:=y.1 d; omega
 ·have:=x.1 c; have:=y.2 d; omega
 ·have:=x.2 c; have:=y.1 d; omega
 ·have:=x.2 c; have:=y.2 d; omega
theorem tu {p r:Int} (hp:-65536000≤p∧p≤65536000) (hr:-65536000≤r∧r≤65536000) {a b:Int} (h:(a<0∧0≤b)∨(b<0∧0≤a)):-131072000≤qv ((r - p)*a) (a - b)∧qv ((r - p)*a) (a - b)≤131072000:=by
 have x:=qB (e:=r - p) h;rcases Int.le_total 0 (r - p) with c | c
 ·have:=x.1 c; omega
 ·have:=x.2 c; omega
theorem wA {k:Nat} (hk:2≤k) {e a b:Int} (he:-131072000≤e∧e≤131072000) (ha:-1000000000000000000≤a∧a≤1000000000000000000) (hb:-1000000000000000000≤b∧b≤1000000000000000000) (h:(a<0∧0≤b)∨(b<0∧0≤a)) :
  ∃ w,bg k e a=some w∧ae k w (a - b)=some (qv (e*a) (a - b),0):=by
 obtain ⟨w,e1,o1,v1⟩:=kE k (a:=e) (b:=a) (by omega) (by omega) (by omega) (by omega);have q:=qB (e:=e) h;have qb:-131072000≤qv (e*a) (a - b)∧qv (e*a) (a - b)≤131072000:=by
  rcases Int.le_total 0 e with c | c
  ·have:=q.1 c; omega
  ·have:=q.2 c; omega
 refine ⟨w,e1,?_⟩;unfold qv at qb ⊢
 by_cases c:0<a - b
 ·rw [if_pos c] at qb ⊢
  rw [pt hk o1 c (by omega),v1,r6 (by omega)]
 ·rw [if_neg c] at qb ⊢
  rw [zl hk o1 (by omega) (by omega),v1,r6 (by omega)]
theorem qN {k:Nat} (hk:2≤k) {p r:aV} (hp:Wn p) (hr:Wn r) {a b:Int} (ha:-1000000000000000000≤a∧a≤1000000000000000000) (hb:-1000000000000000000≤b∧b≤1000000000000000000) (h:(a<0∧0≤b)∨(b<0∧0≤a)) :
  cW k p r a b=some (C3 p r a b):=by
 unfold Wn at hp hr;obtain ⟨x,e1,e2⟩:=wA hk (e:=r.1 - p.1) (by omega) ha hb h;obtain ⟨y,e3,e4⟩:=wA hk (e:=r.2.1 - p.2.1) (by omega) ha hb h;have q1:=tu (p:=p.1) (r:=r.1) (by omega) (by omega) h;have q2:=tu (p:=p.2.1) (r:=r.2.1) (by omega) (by omega) h;unfold cW;rw [dN (x:=r.1) (by omega) (by omega),dN (x:=r.2.1) (by omega) (by omega),dN (x:=a) (by omega) (by omega),e1,bS,e2,bS,e3,bS,e4,bS];dsimp only;rw [bJ (by omega) (by omega),bJ (by omega) (by omega)];rfl
def dw (p at_ w:aV):Int:=(p.1 - at_.1)*w.1+(p.2.1 - at_.2.1)*w.2.1
def A6 (p r at_ w:aV):aV × (aV × Bool) :=
 if dw p at_ w<0∧dw r at_ w<0 then (p,r,false) else if dw p at_ w<0 then (C3 p r (dw p at_ w) (dw r at_ w),r,true) else if dw r at_ w<0 then (p,C3 p r (dw p at_ w) (dw r at_ w),true) else (p,r,true)
def Ww (w:aV):Prop:=-131072000≤w.1∧w.1≤131072000∧-131072000≤w.2.1∧w.2.1≤131072000
theorem CC {p r at_ w:aV} (hp:Wn p) (hr:Wn r):Wn (A6 p r at_ w).1∧Wn (A6 p r at_ w).2.1:=by
 unfold A6
 by_cases a:dw p at_ w<0
 ·by_cases b:dw r at_ w<0
  ·rw [if_pos ⟨a,b⟩]; exact ⟨hp,hr⟩
  ·rw [if_neg (fun h=>b h.2),if_pos a]; exact ⟨CE hp hr (Or.inl ⟨a,by omega⟩),hr⟩
 ·by_cases b:dw r at_ w<0
  ·rw [if_neg (fun h=>a h.1),if_neg a,if_pos b]; exact ⟨hp,CE hp hr (Or.inr ⟨b,by omega⟩)⟩
  ·rw [if_neg (fun h=>a h.1),if_neg a,if_neg b]; exact ⟨hp,hr⟩
theorem Cl {p at_ w:aV} (hp:Wn p) (ha:Wn at_) (hw:Ww w):-34359738368000000≤dw p at_ w∧dw p at_ w≤34359738368000000:=by
 unfold Wn at hp ha;unfold Ww at hw;have h1:=eA (x:=p.1 - at_.1) (y:=w.1) (M:=131072000) (N:=131072000) (by omega) (by omega) (by omega) (by omega);have h2:=eA (x:=p.2.1 - at_.2.1) (y:=w.2.1) (M:=131072000) (N:=131072000) (by omega) (by omega) (by omega) (by omega);unfold dw;omega
theorem jY (k:Nat) {a b:aV} (ha:Wn a) (hb:Wn b):cA k a b=some (sb a b):=by
 unfold Wn at ha hb;unfold cA;rw [dN (by omega) (by omega),dN (by omega) (by omega)];rfl
theorem yW {a b:aV} (ha:Wn a) (hb:Wn b):Ww (sb a b):=by
 unfold Wn at ha hb;unfold Ww sb;dsimp only;omega
theorem k9 (k:Nat) {a b:aV} (ha:Ww a) (hb:Ww b):cI k a b=some (a.1*b.1+a.2.1*b.2.1):=by
 unfold Ww at ha hb;have h1:=eA (x:=a.1) (y:=b.1) (M:=131072000) (N:=131072000) (by omega) (by omega) (by omega) (by omega);have h2:=eA (x:=a.2.1) (y:=b.2.1) (M:=131072000) (N:=131072000) (by omega) (by omega) (by omega) (by omega);unfold cI;rw [eJ (by omega) (by omega),eJ (by omega) (by omega),bJ (by omega) (by omega)]
theorem EI {a:aV} (h:Wn a):Ww a:=by unfold Wn at h; unfold Ww; omega
theorem zr {k:Nat} (hk:2≤k) {p r at_ w:aV} (hp:Wn p) (hr:Wn r) (ha:Wn at_) (hw:Ww w):aU k p r at_ w=some (A6 p r at_ w):=by
 have b1:=Cl hp ha hw;have b2:=Cl hr ha hw;have d1:cI k (sb p at_) w=some (dw p at_ w):=k9 k (yW hp ha) hw;have d2:cI k (sb r at_) w=some (dw r at_ w):=k9 k (yW hr ha) hw;unfold aU;rw [jY k hp ha,bS,d1,bS,jY k hr ha,bS,d2,bS];unfold aU.c1 aU.c2 A6
 by_cases a:dw p at_ w<0
 ·by_cases b:dw r at_ w<0
  ·rw [cg a,bT,cg b,bS,bT,if_pos ⟨a,b⟩]
  ·rw [cg a,bT,cp (by omega),bS,bF,bT,qN hk hp hr (by omega) (by omega) (Or.inl ⟨a,by omega⟩),bS,bS,if_neg (fun h=>b h.2),if_pos a]
 ·by_cases b:dw r at_ w<0
  ·rw [cp (by omega),bF,bS,bF,bF,cg b,bT,qN hk hp hr (by omega) (by omega) (Or.inr ⟨b,by omega⟩),bS,bS,if_neg (fun h=>a h.1),if_neg a,if_pos b]
  ·rw [cp (by omega),bF,bS,bF,bF,cp (by omega),bF,bS,if_neg (fun h=>a h.1),if_neg a,if_neg b]
end Go.Proofs.T1
namespace Go.Proofs.T1
open Go Go.Sx
theorem CA (a n:aV):dt a (ng n)=- dt a n:=by unfold dt ng; grind
theorem Bo {n i:Int} (i0:0≤i) (i1:i<n) (h:n≤1000):fw (bQ .i64 (aG .i64 i n) 1) n=pv n i:=by
 rw [bJ (by omega) (by omega),dN (by omega) (by omega)];unfold fw pv;rw [Int.tmod_eq_emod_of_nonneg (by omega)];split
 ·rename_i c
  rw [c];exact (Int.emod_eq_of_lt (by omega) (by omega)).trans (by omega)
 ·have e:i+n - 1=(i - 1)+n*1:=by omega
  rw [e,Int.add_mul_emod_self_left];exact Int.emod_eq_of_lt (by omega) (by omega)
def xU (l:List aV) (n:aV) (i:Int):Int:=if dt (q l (pv (len l) i)) n<dt (q l (nx (len l) i)) n then pv (len l) i else i
theorem vz {l:List aV} {n:aV} {i:Int} (i0:0≤i) (i1:i<len l):0≤xU l n i∧xU l n i<len l:=by
 have:=sB i0 i1;unfold xU;split <;> omega
theorem yn {k:Nat} (hk:10≤k) {l:List aV} (l3:3≤len l) (l8:len l≤8) (hw:lL l) {n:aV} (hn:Ww n):∃ s,aW.c1 k l n k 0 0=some s∧w9 l (ng n) s:=by
 have dd:∀ i,0≤i→i<len l→cI k (el dT l i) n=some (dt (q l i) n):=fun i i0 i1=>k9 k (EI (hw i i0 i1)) hn;obtain ⟨s,⟨_,h⟩,e⟩:=iz (fun f s v=>aW.c1 k l n f s v) 0 (len l) (fun s v=>(v=0→s=0)∧(0<v→0≤s∧s<v∧∀ j,0≤j→j<v→dt (q l s) n<dt (q l j) n∨(dt (q l s) n=dt (q l j) n∧s≤j)))
  (by
   intro f s v v0 v1 ⟨h1,h2⟩;have hs:0≤s∧s<len l:=by
    by_cases c:v=0
    ·rw [h1 c]; omega
    ·have:=h2 (by omega); omega
   show ∃ s',_∧aW.c1 k l n (f+1) s v=aW.c1 k l n f s' (v+1);rw [aW.c1,cg v1,bT,rP (bZ v0 v1),dd v v0 v1,bS,rP (bZ hs.1 hs.2),dd s hs.1 hs.2,bS,bJ (by omega) (by omega)]
   by_cases c:dt (q l v) n<dt (q l s) n
   ·rw [cg c,bT]
    refine ⟨v,⟨fun h=>by omega,fun _=>⟨v0,by omega,fun j j0 j1=>?_⟩⟩,rfl⟩
    by_cases d:j=v
    ·subst d; exact Or.inr ⟨rfl,Int.le_refl _⟩
    ·have:=(h2 (by omega)).2.2 j j0 (by omega)
     left;omega
   ·rw [cp (by omega),bF]
    refine ⟨s,⟨fun h=>by omega,fun _=>?_⟩,rfl⟩
    by_cases d:v=0
    ·have s0:=h1 d
     refine ⟨by omega,by omega,fun j j0 j1=>?_⟩;have:j=s:=by omega
     subst this;exact Or.inr ⟨rfl,Int.le_refl _⟩
    ·obtain ⟨a,b,g⟩:=h2 (by omega)
     refine ⟨a,by omega,fun j j0 j1=>?_⟩
     by_cases d2:j=v
     ·subst d2
      by_cases g2:dt (q l s) n=dt (q l j) n
      ·exact Or.inr ⟨g2,by omega⟩
      ·exact Or.inl (by omega)
     ·exact g j j0 (by omega))
  (by
   intro f s v v0 v1;show aW.c1 k l n (f+1) s v=some s
   rw [aW.c1,cp v1,bF])
  k 0 0 (by omega) (by omega) (by omega) ⟨fun _=>rfl,fun h=>by omega⟩
 obtain ⟨a,b,g⟩:=h (by omega);refine ⟨s,e,a,b,fun j j0 j1=>?_⟩;rw [CA,CA];have:=g j j0 j1;omega
def tv (l:List aV) (e:Int) (x:aV):Int:=im (q l e) (q l (nx (len l) e)) x
noncomputable def dv (l:List aV) (e:Int) (x:aV):Int:=iH (tv l e x) (lY l e)
theorem uO {k:Nat} (hk:40≤k) {l:List aV} (h:kg l) {e:Int} (e0:0≤e) (e1:e<len l) {x:aV} (hx:Wn x):dL k x (q l e) (eS l e)=some (dv l e x,decide (0≤tv l e x)):=by
 have hn:=fB e0 e1;have h1:=h.2.2.1 e e0 e1;have ob:=ky h.2.2.1 e0 e1;have ht:=qZ h1 (h.2.2.1 _ hn.1 hn.2) hx;obtain ⟨f1,l0,l1,_⟩:=k6 (k:=k) hk h e0 e1;have ed:(sb (q l e) x).1*(eS l e).1+(sb (q l e) x).2.1*(eS l e).2.1=im (q l e) (q l (nx (len l) e)) x:=by unfold eS im sb; dsimp only; grind
 have ow:Ww (eS l e):=ob;have d:=k9 k (yW h1 hx) ow;rw [ed] at d;obtain ⟨w,g1,g2,g3⟩:=kE k (a:=im (q l e) (q l (nx (len l) e)) x) (b:=1) (by omega) (by omega) (by decide) (by decide);have rb:=Ac (d:=im (q l e) (q l (nx (len l) e)) x) l0 (c:=34359738368000000) (by decide) ht.1 ht.2;unfold dL;rw [jY k h1 hx,bS,d,bS,g1,bS,f1,bS,pt (by omega) g2 l0 (by omega),g3,Int.mul_one,r6 (by omega),bS];rfl
noncomputable def AW (l:List aV) (e:Int) (u:aV) (id:Int) (x:aV) (i:Int):aV × (aV × aV):=(x,u,dv l e x,id+i,())
open Classical in
noncomputable def yJ (l:List aV) (e:Int) (u:aV) (id:Int) (ok:Bool) (x y:aV):List (aV × (aV × aV)) :=
 (if ok=true∧0≤tv l e x then [AW l e u id x 0] else [])++(if ok=true∧0≤tv l e y∧¬ y=x then [AW l e u id y 1] else [])
section
variable {k:Nat} {ref inc:List aV} {e d:Int} {u:aV} {s ok:Bool} {x y:aV} {id kk:Int}
open Classical in
theorem DN (hk:40≤k) (hv:kg ref) (e0:0≤e) (e1:e<len ref) (hx:Wn x) (hy:Wn y) {idx:Int} {b1:Bool} {b2 b3 d':Int} {b4:Bool} (hid:bh .i64 (aG .i64 (bh .i64 idx 8) kk) 2=id) (id0:0≤id) (id1:id≤1000) (f:Nat) :
  ao.c4 k (ref,inc,idx) (ok,x,y) ((s,e,d,()),b1,b2) (b4,b3,u) (eS ref e) kk (f+3) 0 []=some (yJ ref e u id ok x y):=by
 have hl:len [x,y]=2:=rfl;have g0:el dT [x,y] 0=x:=rfl;have g1:el dT [x,y] 1=y:=rfl;have gr:el dT ref e=q ref e:=rfl;have last:∀ l,ao.c4 k (ref,inc,idx) (ok,x,y) ((s,e,d,()),b1,b2) (b4,b3,u) (eS ref e) kk (f+1) 2 l=some l:=by
  intro l;rw [ao.c4];dsimp only;rw [hl,cp (by decide),bF]
 have c5a:∀ dd,ao.c5 k (ok,x,y) 0 (dd,decide (0≤tv ref e x))=some (decide (ok=true∧0≤tv ref e x)):=by
  intro dd;unfold ao.c5;dsimp only;cases ok with
  | false=>rw [bF,decide_eq_false (fun h=>(by cases h.1))]
  | true =>
   rw [bT]
   by_cases c:0≤tv ref e x
   ·rw [decide_eq_true c,bT,fh rfl,bT,decide_eq_true ⟨rfl,c⟩]
   ·rw [decide_eq_false c,bF,decide_eq_false (fun h=>c h.2)]
 have c5b:∀ dd,ao.c5 k (ok,x,y) 1 (dd,decide (0≤tv ref e y))=some (decide (ok=true∧0≤tv ref e y∧¬ y=x)):=by
  intro dd;unfold ao.c5;dsimp only;cases ok with
  | false=>rw [bF,decide_eq_false (fun h=>(by cases h.1))]
  | true =>
   rw [bT]
   by_cases c:0≤tv ref e y
   ·rw [decide_eq_true c,bT,eL (by decide),bF]
    by_cases g:y=x
    ·refine (congrArg (fun b=>some (!b)) ((wI y x).trans (decide_eq_true g))).trans ?_
     rw [decide_eq_false (fun h=>h.2.2 g)];rfl
    ·refine (congrArg (fun b=>some (!b)) ((wI y x).trans (decide_eq_false g))).trans ?_
     rw [decide_eq_true ⟨rfl,c,g⟩];rfl
   ·rw [decide_eq_false c,bF,decide_eq_false (fun h=>c h.2.1)]
 have s1:∀ l:List (aV × (aV × aV)),l.length≤2→ao.c4 k (ref,inc,idx) (ok,x,y) ((s,e,d,()),b1,b2) (b4,b3,u) (eS ref e) kk (f+2) 1 l=some (l++(if ok=true∧0≤tv ref e y∧¬ y=x then [AW ref e u id y 1] else [])):=by
  intro l hll;rw [ao.c4];dsimp only;rw [hl,cg (by decide),bT,rP (bZ (by decide) (by rw [hl]; decide)),g1,gr,uO hk hv e0 e1 hy,bS,c5b,bS,hid,bJ (by omega) (by omega),bJ (by decide) (by decide)]
  by_cases c:ok=true∧0≤tv ref e y∧¬ y=x
  ·rw [decide_eq_true c,bT,if_pos c]
   refine (rP (show room 48 l [((y,u,dv ref e y,id+1,()):aV × (aV × aV))] by show (l.length+1)*48≤140737488355328; omega) _).trans ?_
   exact last _
  ·rw [decide_eq_false c,bF,if_neg c,List.append_nil]
   exact last _
 rw [ao.c4];dsimp only;rw [hl,cg (by decide),bT,rP (bZ (by decide) (by rw [hl]; decide)),g0,gr,uO hk hv e0 e1 hx,bS,c5a,bS,hid,bJ (by omega) (by omega),bJ (by decide) (by decide)];unfold yJ
 by_cases c:ok=true∧0≤tv ref e x
 ·rw [decide_eq_true c,bT,if_pos c]
  refine (rP (show room 48 ([]:List (aV × (aV × aV))) [((x,u,dv ref e x,id+0,()):aV × (aV × aV))] by show (0+1)*48≤140737488355328; decide) _).trans ?_
  exact s1 _ (by show 1≤2; decide)
 ·rw [decide_eq_false c,bF,if_neg c]
  exact s1 _ (by decide)
end
end Go.Proofs.T1
namespace Go.Proofs.T1
open Go Go.Sx
def Bx (M:Int) (v:aV):Prop:=-M≤v.1∧v.1≤M∧-M≤v.2.1∧v.2.1≤M
theorem CK {M:Int} {p r:aV} (hp:Bx M p) (hr:Bx M r) {a b:Int} (h:(a<0∧0≤b)∨(b<0∧0≤a)):Bx M (C3 p r a b):=by
 have x:=qB (e:=r.1 - p.1) h;have y:=qB (e:=r.2.1 - p.2.1) h;unfold Bx at *
 unfold C3;dsimp only;rcases Int.le_total 0 (r.1 - p.1) with c | c <;> rcases Int.le_total 0 (r.2.1 - p.2.1) with d | d
 ·have:=x.1 c; have:=y.1 d; omega
 ·have:=x.1 c; have:=y.2 d; omega
 ·have:=x.2 c; have:=y.1 d; omega
 ·have:=x.2 c; have:=y.2 d; omega
theorem Cs {M:Int} {p r at_ w:aV} (hp:Bx M p) (hr:Bx M r):Bx M (A6 p r at_ w).1∧Bx M (A6 p r at_ w).2.1:=by
 unfold A6
 by_cases a:dw p at_ w<0
 ·by_cases b:dw r at_ w<0
  ·rw [if_pos ⟨a,b⟩]; exact ⟨hp,hr⟩
  ·rw [if_neg (fun h=>b h.2),if_pos a]; exact ⟨CK hp hr (Or.inl ⟨a,by omega⟩),hr⟩
 ·by_cases b:dw r at_ w<0
  ·rw [if_neg (fun h=>a h.1),if_neg a,if_pos b]; exact ⟨hp,CK hp hr (Or.inr ⟨b,by omega⟩)⟩
  ·rw [if_neg (fun h=>a h.1),if_neg a,if_neg b]; exact ⟨hp,hr⟩
theorem AS {k:Nat} (hk:10≤k) {l:List aV} (l3:3≤len l) (l8:len l≤8) (hw:lL l) {n:aV} (hn:Ww n) :
  ∃ i,aW k l n=some (xU l n i)∧w9 l (ng n) i:=by
 obtain ⟨i,e,far⟩:=yn hk l3 l8 hw hn;have i0:=far.1;have i1:=far.2.1;have hp:=sB i0 i1;have hx:=fB i0 i1;have w1:=hw _ hp.1 hp.2.1;have w2:=hw _ hx.1 hx.2;refine ⟨i,?_,far⟩;unfold aW;rw [e,bS,rP (show nz (len l) by unfold nz; omega),Bo i0 i1 (by omega),rP (bZ hp.1 hp.2.1)];have d1:cI k (el dT l (pv (len l) i)) n=some (dt (q l (pv (len l) i)) n):=k9 k (EI w1) hn;have d2:cI k (el dT l (nx (len l) i)) n=some (dt (q l (nx (len l) i)) n):=k9 k (EI w2) hn;rw [d1,bS,gU i0 i1 (by omega),rP (bZ hx.1 hx.2),d2,bS];unfold xU
 by_cases c:dt (q l (pv (len l) i)) n<dt (q l (nx (len l) i)) n
 ·rw [cg c,bT,if_pos c]
 ·rw [cp (by omega),bF,if_neg c]
theorem D0 {e n l:Int} (l0:0≤l) (h0:-l≤e) (h1:e≤l):-(l*fO n)≤e*n:=by
 have h:=eA (x:=e) (y:=n) (M:=l) (N:=fO n) h0 h1 (by unfold fO; split <;> omega) (by unfold fO; split <;> omega);exact h.1
theorem ED {nx ny L:Int} (h:Rt (nx*nx+ny*ny) L) (L1:0<L):fO nx+fO ny≤2*L:=by
 have a0:0≤fO nx:=by unfold fO; split <;> omega
 have b0:0≤fO ny:=by unfold fO; split <;> omega
 rw [← l9 nx,← l9 ny] at h;have h2:=h.2.2;generalize fO nx=a at *
 generalize fO ny=b at *
 rcases Int.lt_or_le (2*L) (a+b) with c | c
 ·exfalso
  have k1:=yS (show 0≤2*L+1 by omega) (show 2*L+1≤a+b by omega);have k2:=sY (a - b);have e1:(a+b)*(a+b)+(a - b)*(a - b)=2*(a*a+b*b):=by grind
  have e2:(2*L+1)*(2*L+1)=4*(L*L)+4*L+1:=by grind
  have e3:(L+1)*(L+1)=L*L+2*L+1:=by grind
  have k3:=sY L;rw [e3] at h2;omega
 ·exact c
section
variable {k:Nat} {ref inc:List aV} {e d:Int} {u:aV} {s ok:Bool} {x y:aV} {id kk:Int}
end
end Go.Proofs.T1
