import Derived.Test.YtipddonkkhjegaaGreatPlTail
import Derived.Test.YtipddonkkhjegaaGreatG7
namespace Go.Proofs.T1
open Go Go.Sx
theorem mag_neg (x:Int):mag (-x)=mag x:=by unfold mag; split <;> split <;> omega
theorem Over_neg {k:Nat} (hk:2≤k) {w:V115} (hw:WOk w) {n:Int} (hn:n<0) (hn':-9223372036854775807≤n):poly_Wide_Over k w n=some (fit (rnd (-(wv w)) (-n))):=by
 rw [Over_gen hk hw ⟨by omega,by omega⟩ (by omega),← rnd_pos (x:=-(wv w)) (n:=-n) (by omega),mag_neg,mag_neg]
 by_cases h:wv w=0
 ·rw [h]
  have e:mag 0=0:=rfl
  rw [e,rndM_zero (by unfold mag; split <;> omega),rndM_zero (by unfold mag; split <;> omega)]
 ·have e:(decide (wv w<0) != decide (n<0))=(decide (-wv w<0) != decide (-n<0)):=by
   rw [decide_eq_true hn,decide_eq_false (show ¬ -n<0 by omega)]
   by_cases c:wv w<0
   ·rw [decide_eq_true c,decide_eq_false (show ¬ -wv w<0 by omega)]; rfl
   ·rw [decide_eq_false c,decide_eq_true (show -wv w<0 by omega)]; rfl
  rw [e]
theorem ineg_in {x:Int} (h:-4611686018427387904≤x) (g:x≤4611686018427387904):ineg .i64 x=-x:=by
 show IntKind.i64.wrap (0 - x)=-x
 rw [wrap_i64 (by omega) (by omega)]
 omega
def qv (x n:Int):Int:=if 0<n then rnd x n else rnd (-x) (-n)
theorem rnd_z {n:Int} (hn:0<n):rnd 0 n=0:=by
 unfold rnd
 exact Int.ediv_eq_zero_of_lt (by omega) (by omega)
theorem rnd_part {e A N:Int} (hN:0<N) (a0:0≤A) (a1:A≤N):(0≤e→0≤rnd (e*A) N∧rnd (e*A) N≤e)∧(e≤0→e≤rnd (e*A) N∧rnd (e*A) N≤0):=by
 have full:rnd (N*e) N=e:=by
  have:=rnd_add (x:=0) (n:=N) (c:=e) hN
  rw [Int.zero_add,rnd_z hN,Int.zero_add] at this
  exact this
 constructor
 ·intro h
  have g:=Int.mul_le_mul_of_nonneg_left a1 h
  rw [Int.mul_comm e N] at g
  exact ⟨rnd_nn hN (Int.mul_nonneg h a0),by have:=rnd_mono hN g; omega⟩
 ·intro h
  have g:N*e≤e*A:=by
   have:=Int.mul_le_mul_of_nonneg_left a1 (show 0≤-e by omega)
   rw [Int.neg_mul,Int.neg_mul] at this
   have:=Int.mul_comm N e
   omega
  have z:e*A≤0:=Int.mul_nonpos_of_nonpos_of_nonneg h a0
  have m1:=rnd_mono hN g
  have m2:=rnd_mono hN z
  rw [rnd_z hN] at m2
  omega
theorem qv_bd {e a b:Int} (h:(a<0∧0≤b)∨(b<0∧0≤a)):(0≤e→0≤qv (e*a) (a - b)∧qv (e*a) (a - b)≤e)∧(e≤0→e≤qv (e*a) (a - b)∧qv (e*a) (a - b)≤0):=by
 unfold qv
 rcases h with ⟨h1,h2⟩ | ⟨h1,h2⟩
 ·rw [if_neg (by omega),show -(e*a)=e*-a from (Int.mul_neg e a).symm]
  exact rnd_part (by omega) (by omega) (by omega)
 ·rw [if_pos (by omega)]
  exact rnd_part (by omega) (by omega) (by omega)
def btw (p r:V26) (a b:Int):V26:=(p.1+qv ((r.1 - p.1)*a) (a - b),p.2.1+qv ((r.2.1 - p.2.1)*a) (a - b),())
theorem btw_W {p r:V26} (hp:Wn p) (hr:Wn r) {a b:Int} (h:(a<0∧0≤b)∨(b<0∧0≤a)):Wn (btw p r a b):=by
 have x:=qv_bd (e:=r.1 - p.1) h
 have y:=qv_bd (e:=r.2.1 - p.2.1) h
 unfold Wn at *
 unfold btw
 dsimp only
 rcases Int.le_total 0 (r.1 - p.1) with c | c <;> rcases Int.le_total 0 (r.2.1 - p.2.1) with d | d
 ·have:=x.1 c; have:=y.1 d; omega
 ·have:=x.1 c; have:=y.2 d; omega
 ·have:=x.2 c; have:=y.1 d; omega
 ·have:=x.2 c; have:=y.2 d; omega
theorem qv_small {p r:Int} (hp:-65536000≤p∧p≤65536000) (hr:-65536000≤r∧r≤65536000) {a b:Int} (h:(a<0∧0≤b)∨(b<0∧0≤a)):-131072000≤qv ((r - p)*a) (a - b)∧qv ((r - p)*a) (a - b)≤131072000:=by
 have x:=qv_bd (e:=r - p) h
 rcases Int.le_total 0 (r - p) with c | c
 ·have:=x.1 c; omega
 ·have:=x.2 c; omega
theorem WOver_q {k:Nat} (hk:2≤k) {e a b:Int} (he:-131072000≤e∧e≤131072000) (ha:-1000000000000000000≤a∧a≤1000000000000000000) (hb:-1000000000000000000≤b∧b≤1000000000000000000) (h:(a<0∧0≤b)∨(b<0∧0≤a)) :
  ∃ w,poly_Times k e a=some w∧poly_Wide_Over k w (a - b)=some (qv (e*a) (a - b),0):=by
 obtain ⟨w,e1,o1,v1⟩:=Times_eq k (a:=e) (b:=a) (by omega) (by omega) (by omega) (by omega)
 have q:=qv_bd (e:=e) h
 have qb:-131072000≤qv (e*a) (a - b)∧qv (e*a) (a - b)≤131072000:=by
  rcases Int.le_total 0 e with c | c
  ·have:=q.1 c; omega
  ·have:=q.2 c; omega
 refine ⟨w,e1,?_⟩
 unfold qv at qb ⊢
 by_cases c:0<a - b
 ·rw [if_pos c] at qb ⊢
  rw [Over_pos hk o1 c (by omega),v1,fit_in (by omega)]
 ·rw [if_neg c] at qb ⊢
  rw [Over_neg hk o1 (by omega) (by omega),v1,fit_in (by omega)]
theorem between_V {k:Nat} (hk:2≤k) {p r:V26} (hp:Wn p) (hr:Wn r) {a b:Int} (ha:-1000000000000000000≤a∧a≤1000000000000000000) (hb:-1000000000000000000≤b∧b≤1000000000000000000) (h:(a<0∧0≤b)∨(b<0∧0≤a)) :
  contact_between k p r a b=some (btw p r a b):=by
 unfold Wn at hp hr
 obtain ⟨x,e1,e2⟩:=WOver_q hk (e:=r.1 - p.1) (by omega) ha hb h
 obtain ⟨y,e3,e4⟩:=WOver_q hk (e:=r.2.1 - p.2.1) (by omega) ha hb h
 have q1:=qv_small (p:=p.1) (r:=r.1) (by omega) (by omega) h
 have q2:=qv_small (p:=p.2.1) (r:=r.2.1) (by omega) (by omega) h
 unfold contact_between
 rw [isub_i64 (x:=r.1) (by omega) (by omega),isub_i64 (x:=r.2.1) (by omega) (by omega),isub_i64 (x:=a) (by omega) (by omega),e1,bS,e2,bS,e3,bS,e4,bS]
 dsimp only
 rw [iadd_i64 (by omega) (by omega),iadd_i64 (by omega) (by omega)]
 rfl
def dw (p at_ w:V26):Int:=(p.1 - at_.1)*w.1+(p.2.1 - at_.2.1)*w.2.1
def clV (p r at_ w:V26):V26 × (V26 × Bool) :=
 if dw p at_ w<0∧dw r at_ w<0 then (p,r,false) else if dw p at_ w<0 then (btw p r (dw p at_ w) (dw r at_ w),r,true) else if dw r at_ w<0 then (p,btw p r (dw p at_ w) (dw r at_ w),true) else (p,r,true)
def Ww (w:V26):Prop:=-131072000≤w.1∧w.1≤131072000∧-131072000≤w.2.1∧w.2.1≤131072000
theorem clV_W {p r at_ w:V26} (hp:Wn p) (hr:Wn r):Wn (clV p r at_ w).1∧Wn (clV p r at_ w).2.1:=by
 unfold clV
 by_cases a:dw p at_ w<0
 ·by_cases b:dw r at_ w<0
  ·rw [if_pos ⟨a,b⟩]; exact ⟨hp,hr⟩
  ·rw [if_neg (fun h=>b h.2),if_pos a]; exact ⟨btw_W hp hr (Or.inl ⟨a,by omega⟩),hr⟩
 ·by_cases b:dw r at_ w<0
  ·rw [if_neg (fun h=>a h.1),if_neg a,if_pos b]; exact ⟨hp,btw_W hp hr (Or.inr ⟨b,by omega⟩)⟩
  ·rw [if_neg (fun h=>a h.1),if_neg a,if_neg b]; exact ⟨hp,hr⟩
theorem dw_bd {p at_ w:V26} (hp:Wn p) (ha:Wn at_) (hw:Ww w):-34359738368000000≤dw p at_ w∧dw p at_ w≤34359738368000000:=by
 unfold Wn at hp ha
 unfold Ww at hw
 have h1:=mul_bd (x:=p.1 - at_.1) (y:=w.1) (M:=131072000) (N:=131072000) (by omega) (by omega) (by omega) (by omega)
 have h2:=mul_bd (x:=p.2.1 - at_.2.1) (y:=w.2.1) (M:=131072000) (N:=131072000) (by omega) (by omega) (by omega) (by omega)
 unfold dw
 omega
theorem cminus_eq (k:Nat) {a b:V26} (ha:Wn a) (hb:Wn b):contact_minus k a b=some (sb a b):=by
 unfold Wn at ha hb
 unfold contact_minus
 rw [isub_i64 (by omega) (by omega),isub_i64 (by omega) (by omega)]
 rfl
theorem sb_W {a b:V26} (ha:Wn a) (hb:Wn b):Ww (sb a b):=by
 unfold Wn at ha hb
 unfold Ww sb
 dsimp only
 omega
theorem cdot_eq (k:Nat) {a b:V26} (ha:Ww a) (hb:Ww b):contact_dot k a b=some (a.1*b.1+a.2.1*b.2.1):=by
 unfold Ww at ha hb
 have h1:=mul_bd (x:=a.1) (y:=b.1) (M:=131072000) (N:=131072000) (by omega) (by omega) (by omega) (by omega)
 have h2:=mul_bd (x:=a.2.1) (y:=b.2.1) (M:=131072000) (N:=131072000) (by omega) (by omega) (by omega) (by omega)
 unfold contact_dot
 rw [imul_i64 (by omega) (by omega),imul_i64 (by omega) (by omega),iadd_i64 (by omega) (by omega)]
theorem W_w {a:V26} (h:Wn a):Ww a:=by unfold Wn at h; unfold Ww; omega
theorem clip_V {k:Nat} (hk:2≤k) {p r at_ w:V26} (hp:Wn p) (hr:Wn r) (ha:Wn at_) (hw:Ww w):contact_clip k p r at_ w=some (clV p r at_ w):=by
 have b1:=dw_bd hp ha hw
 have b2:=dw_bd hr ha hw
 have d1:contact_dot k (sb p at_) w=some (dw p at_ w):=cdot_eq k (sb_W hp ha) hw
 have d2:contact_dot k (sb r at_) w=some (dw r at_ w):=cdot_eq k (sb_W hr ha) hw
 unfold contact_clip
 rw [cminus_eq k hp ha,bS,d1,bS,cminus_eq k hr ha,bS,d2,bS]
 unfold contact_clip.c1 contact_clip.c2 clV
 by_cases a:dw p at_ w<0
 ·by_cases b:dw r at_ w<0
  ·rw [ilt_pos a,bT,ilt_pos b,bS,bT,if_pos ⟨a,b⟩]
  ·rw [ilt_pos a,bT,ilt_neg (by omega),bS,bF,bT,between_V hk hp hr (by omega) (by omega) (Or.inl ⟨a,by omega⟩),bS,bS,if_neg (fun h=>b h.2),if_pos a]
 ·by_cases b:dw r at_ w<0
  ·rw [ilt_neg (by omega),bF,bS,bF,bF,ilt_pos b,bT,between_V hk hp hr (by omega) (by omega) (Or.inr ⟨b,by omega⟩),bS,bS,if_neg (fun h=>a h.1),if_neg a,if_pos b]
  ·rw [ilt_neg (by omega),bF,bS,bF,bF,ilt_neg (by omega),bF,bS,if_neg (fun h=>a h.1),if_neg a,if_neg b]
end Go.Proofs.T1
namespace Go.Proofs.T1
open Go Go.Sx
theorem dt_ng (a n:V26):dt a (ng n)=- dt a n:=by unfold dt ng; grind
theorem irem_pv {n i:Int} (i0:0≤i) (i1:i<n) (h:n≤1000):irem (isub .i64 (iadd .i64 i n) 1) n=pv n i:=by
 rw [iadd_i64 (by omega) (by omega),isub_i64 (by omega) (by omega)]
 unfold irem pv
 rw [Int.tmod_eq_emod_of_nonneg (by omega)]
 split
 ·rename_i c
  rw [c]
  exact (Int.emod_eq_of_lt (by omega) (by omega)).trans (by omega)
 ·have e:i+n - 1=(i - 1)+n*1:=by omega
  rw [e,Int.add_mul_emod_self_left]
  exact Int.emod_eq_of_lt (by omega) (by omega)
def facV (l:List V26) (n:V26) (i:Int):Int:=if dt (q l (pv (len l) i)) n<dt (q l (nx (len l) i)) n then pv (len l) i else i
theorem facV_range {l:List V26} {n:V26} {i:Int} (i0:0≤i) (i1:i<len l):0≤facV l n i∧facV l n i<len l:=by
 have:=pv_range i0 i1
 unfold facV
 split <;> omega
theorem facing_c1 {k:Nat} (hk:10≤k) {l:List V26} (l3:3≤len l) (l8:len l≤8) (hw:AllW l) {n:V26} (hn:Ww n):∃ s,contact_facing.c1 k l n k 0 0=some s∧FarP l (ng n) s:=by
 have dd:∀ i,0≤i→i<len l→contact_dot k (el Z26 l i) n=some (dt (q l i) n):=fun i i0 i1=>cdot_eq k (W_w (hw i i0 i1)) hn
 obtain ⟨s,⟨_,h⟩,e⟩:=inv_loop (fun f s v=>contact_facing.c1 k l n f s v) 0 (len l) (fun s v=>(v=0→s=0)∧(0<v→0≤s∧s<v∧∀ j,0≤j→j<v→dt (q l s) n<dt (q l j) n∨(dt (q l s) n=dt (q l j) n∧s≤j)))
  (by
   intro f s v v0 v1 ⟨h1,h2⟩
   have hs:0≤s∧s<len l:=by
    by_cases c:v=0
    ·rw [h1 c]; omega
    ·have:=h2 (by omega); omega
   show ∃ s',_∧contact_facing.c1 k l n (f+1) s v=contact_facing.c1 k l n f s' (v+1)
   rw [contact_facing.c1,ilt_pos v1,bT,rP (inL_of v0 v1),dd v v0 v1,bS,rP (inL_of hs.1 hs.2),dd s hs.1 hs.2,bS,iadd_i64 (by omega) (by omega)]
   by_cases c:dt (q l v) n<dt (q l s) n
   ·rw [ilt_pos c,bT]
    refine ⟨v,⟨fun h=>by omega,fun _=>⟨v0,by omega,fun j j0 j1=>?_⟩⟩,rfl⟩
    by_cases d:j=v
    ·subst d; exact Or.inr ⟨rfl,Int.le_refl _⟩
    ·have:=(h2 (by omega)).2.2 j j0 (by omega)
     left
     omega
   ·rw [ilt_neg (by omega),bF]
    refine ⟨s,⟨fun h=>by omega,fun _=>?_⟩,rfl⟩
    by_cases d:v=0
    ·have s0:=h1 d
     refine ⟨by omega,by omega,fun j j0 j1=>?_⟩
     have:j=s:=by omega
     subst this
     exact Or.inr ⟨rfl,Int.le_refl _⟩
    ·obtain ⟨a,b,g⟩:=h2 (by omega)
     refine ⟨a,by omega,fun j j0 j1=>?_⟩
     by_cases d2:j=v
     ·subst d2
      by_cases g2:dt (q l s) n=dt (q l j) n
      ·exact Or.inr ⟨g2,by omega⟩
      ·exact Or.inl (by omega)
     ·exact g j j0 (by omega))
  (by
   intro f s v v0 v1
   show contact_facing.c1 k l n (f+1) s v=some s
   rw [contact_facing.c1,ilt_neg v1,bF])
  k 0 0 (by omega) (by omega) (by omega) ⟨fun _=>rfl,fun h=>by omega⟩
 obtain ⟨a,b,g⟩:=h (by omega)
 refine ⟨s,e,a,b,fun j j0 j1=>?_⟩
 rw [dt_ng,dt_ng]
 have:=g j j0 j1
 omega
def tv (l:List V26) (e:Int) (x:V26):Int:=tri (q l e) (q l (nx (len l) e)) x
noncomputable def dv (l:List V26) (e:Int) (x:V26):Int:=rnd (tv l e x) (lenN l e)
theorem deep_V {k:Nat} (hk:40≤k) {l:List V26} (h:Val l) {e:Int} (e0:0≤e) (e1:e<len l) {x:V26} (hx:Wn x):contact_Of_1 k x (q l e) (outw l e)=some (dv l e x,decide (0≤tv l e x)):=by
 have hn:=nx_range e0 e1
 have h1:=h.2.2.1 e e0 e1
 have ob:=outw_bd h.2.2.1 e0 e1
 have ht:=tri_range h1 (h.2.2.1 _ hn.1 hn.2) hx
 obtain ⟨f1,l0,l1,_⟩:=Length_eq (k:=k) hk h e0 e1
 have ed:(sb (q l e) x).1*(outw l e).1+(sb (q l e) x).2.1*(outw l e).2.1=tri (q l e) (q l (nx (len l) e)) x:=by unfold outw tri sb; dsimp only; grind
 have ow:Ww (outw l e):=ob
 have d:=cdot_eq k (sb_W h1 hx) ow
 rw [ed] at d
 obtain ⟨w,g1,g2,g3⟩:=Times_eq k (a:=tri (q l e) (q l (nx (len l) e)) x) (b:=1) (by omega) (by omega) (by decide) (by decide)
 have rb:=rnd_in (d:=tri (q l e) (q l (nx (len l) e)) x) l0 (c:=34359738368000000) (by decide) ht.1 ht.2
 unfold contact_Of_1
 rw [cminus_eq k h1 hx,bS,d,bS,g1,bS,f1,bS,Over_pos (by omega) g2 l0 (by omega),g3,Int.mul_one,fit_in (by omega),bS]
 rfl
noncomputable def ptv (l:List V26) (e:Int) (u:V26) (id:Int) (x:V26) (i:Int):V26 × (V26 × V26):=(x,u,dv l e x,id+i,())
open Classical in
noncomputable def ptl (l:List V26) (e:Int) (u:V26) (id:Int) (ok:Bool) (x y:V26):List (V26 × (V26 × V26)) :=
 (if ok=true∧0≤tv l e x then [ptv l e u id x 0] else [])++(if ok=true∧0≤tv l e y∧¬ y=x then [ptv l e u id y 1] else [])
section
variable {k:Nat} {ref inc:List V26} {e d:Int} {u:V26} {s ok:Bool} {x y:V26} {id kk:Int}
open Classical in
theorem Of_c4 (hk:40≤k) (hv:Val ref) (e0:0≤e) (e1:e<len ref) (hx:Wn x) (hy:Wn y) {idx:Int} {b1:Bool} {b2 b3 d':Int} {b4:Bool} (hid:imul .i64 (iadd .i64 (imul .i64 idx 8) kk) 2=id) (id0:0≤id) (id1:id≤1000) (f:Nat) :
  contact_Of.c4 k (ref,inc,idx) (ok,x,y) ((s,e,d,()),b1,b2) (b4,b3,u) (outw ref e) kk (f+3) 0 []=some (ptl ref e u id ok x y):=by
 have hl:len [x,y]=2:=rfl
 have g0:el Z26 [x,y] 0=x:=rfl
 have g1:el Z26 [x,y] 1=y:=rfl
 have gr:el Z26 ref e=q ref e:=rfl
 have last:∀ l,contact_Of.c4 k (ref,inc,idx) (ok,x,y) ((s,e,d,()),b1,b2) (b4,b3,u) (outw ref e) kk (f+1) 2 l=some l:=by
  intro l
  rw [contact_Of.c4]
  dsimp only
  rw [hl,ilt_neg (by decide),bF]
 have c5a:∀ dd,contact_Of.c5 k (ok,x,y) 0 (dd,decide (0≤tv ref e x))=some (decide (ok=true∧0≤tv ref e x)):=by
  intro dd
  unfold contact_Of.c5
  dsimp only
  cases ok with
  | false=>rw [bF,decide_eq_false (fun h=>(by cases h.1))]
  | true =>
   rw [bT]
   by_cases c:0≤tv ref e x
   ·rw [decide_eq_true c,bT,ieq_pos rfl,bT,decide_eq_true ⟨rfl,c⟩]
   ·rw [decide_eq_false c,bF,decide_eq_false (fun h=>c h.2)]
 have c5b:∀ dd,contact_Of.c5 k (ok,x,y) 1 (dd,decide (0≤tv ref e y))=some (decide (ok=true∧0≤tv ref e y∧¬ y=x)):=by
  intro dd
  unfold contact_Of.c5
  dsimp only
  cases ok with
  | false=>rw [bF,decide_eq_false (fun h=>(by cases h.1))]
  | true =>
   rw [bT]
   by_cases c:0≤tv ref e y
   ·rw [decide_eq_true c,bT,ieq_neg (by decide),bF]
    by_cases g:y=x
    ·refine (congrArg (fun b=>some (!b)) ((eqb24 y x).trans (decide_eq_true g))).trans ?_
     rw [decide_eq_false (fun h=>h.2.2 g)]
     rfl
    ·refine (congrArg (fun b=>some (!b)) ((eqb24 y x).trans (decide_eq_false g))).trans ?_
     rw [decide_eq_true ⟨rfl,c,g⟩]
     rfl
   ·rw [decide_eq_false c,bF,decide_eq_false (fun h=>c h.2.1)]
 have s1:∀ l:List (V26 × (V26 × V26)),l.length≤2→contact_Of.c4 k (ref,inc,idx) (ok,x,y) ((s,e,d,()),b1,b2) (b4,b3,u) (outw ref e) kk (f+2) 1 l=some (l++(if ok=true∧0≤tv ref e y∧¬ y=x then [ptv ref e u id y 1] else [])):=by
  intro l hll
  rw [contact_Of.c4]
  dsimp only
  rw [hl,ilt_pos (by decide),bT,rP (inL_of (by decide) (by rw [hl]; decide)),g1,gr,deep_V hk hv e0 e1 hy,bS,c5b,bS,hid,iadd_i64 (by omega) (by omega),iadd_i64 (by decide) (by decide)]
  by_cases c:ok=true∧0≤tv ref e y∧¬ y=x
  ·rw [decide_eq_true c,bT,if_pos c]
   refine (rP (show room 48 l [((y,u,dv ref e y,id+1,()):V26 × (V26 × V26))] by show (l.length+1)*48≤140737488355328; omega) _).trans ?_
   exact last _
  ·rw [decide_eq_false c,bF,if_neg c,List.append_nil]
   exact last _
 rw [contact_Of.c4]
 dsimp only
 rw [hl,ilt_pos (by decide),bT,rP (inL_of (by decide) (by rw [hl]; decide)),g0,gr,deep_V hk hv e0 e1 hx,bS,c5a,bS,hid,iadd_i64 (by omega) (by omega),iadd_i64 (by decide) (by decide)]
 unfold ptl
 by_cases c:ok=true∧0≤tv ref e x
 ·rw [decide_eq_true c,bT,if_pos c]
  refine (rP (show room 48 ([]:List (V26 × (V26 × V26))) [((x,u,dv ref e x,id+0,()):V26 × (V26 × V26))] by show (0+1)*48≤140737488355328; decide) _).trans ?_
  exact s1 _ (by show 1≤2; decide)
 ·rw [decide_eq_false c,bF,if_neg c]
  exact s1 _ (by decide)
end
end Go.Proofs.T1
namespace Go.Proofs.T1
open Go Go.Sx
def Bx (M:Int) (v:V26):Prop:=-M≤v.1∧v.1≤M∧-M≤v.2.1∧v.2.1≤M
theorem btw_M {M:Int} {p r:V26} (hp:Bx M p) (hr:Bx M r) {a b:Int} (h:(a<0∧0≤b)∨(b<0∧0≤a)):Bx M (btw p r a b):=by
 have x:=qv_bd (e:=r.1 - p.1) h
 have y:=qv_bd (e:=r.2.1 - p.2.1) h
 unfold Bx at *
 unfold btw
 dsimp only
 rcases Int.le_total 0 (r.1 - p.1) with c | c <;> rcases Int.le_total 0 (r.2.1 - p.2.1) with d | d
 ·have:=x.1 c; have:=y.1 d; omega
 ·have:=x.1 c; have:=y.2 d; omega
 ·have:=x.2 c; have:=y.1 d; omega
 ·have:=x.2 c; have:=y.2 d; omega
theorem clV_M {M:Int} {p r at_ w:V26} (hp:Bx M p) (hr:Bx M r):Bx M (clV p r at_ w).1∧Bx M (clV p r at_ w).2.1:=by
 unfold clV
 by_cases a:dw p at_ w<0
 ·by_cases b:dw r at_ w<0
  ·rw [if_pos ⟨a,b⟩]; exact ⟨hp,hr⟩
  ·rw [if_neg (fun h=>b h.2),if_pos a]; exact ⟨btw_M hp hr (Or.inl ⟨a,by omega⟩),hr⟩
 ·by_cases b:dw r at_ w<0
  ·rw [if_neg (fun h=>a h.1),if_neg a,if_pos b]; exact ⟨hp,btw_M hp hr (Or.inr ⟨b,by omega⟩)⟩
  ·rw [if_neg (fun h=>a h.1),if_neg a,if_neg b]; exact ⟨hp,hr⟩
theorem facing_C {k:Nat} (hk:10≤k) {l:List V26} (l3:3≤len l) (l8:len l≤8) (hw:AllW l) {n:V26} (hn:Ww n) :
  ∃ i,contact_facing k l n=some (facV l n i)∧FarP l (ng n) i:=by
 obtain ⟨i,e,far⟩:=facing_c1 hk l3 l8 hw hn
 have i0:=far.1
 have i1:=far.2.1
 have hp:=pv_range i0 i1
 have hx:=nx_range i0 i1
 have w1:=hw _ hp.1 hp.2.1
 have w2:=hw _ hx.1 hx.2
 refine ⟨i,?_,far⟩
 unfold contact_facing
 rw [e,bS,rP (show nz (len l) by unfold nz; omega),irem_pv i0 i1 (by omega),rP (inL_of hp.1 hp.2.1)]
 have d1:contact_dot k (el Z26 l (pv (len l) i)) n=some (dt (q l (pv (len l) i)) n):=cdot_eq k (W_w w1) hn
 have d2:contact_dot k (el Z26 l (nx (len l) i)) n=some (dt (q l (nx (len l) i)) n):=cdot_eq k (W_w w2) hn
 rw [d1,bS,irem_nx i0 i1 (by omega),rP (inL_of hx.1 hx.2),d2,bS]
 unfold facV
 by_cases c:dt (q l (pv (len l) i)) n<dt (q l (nx (len l) i)) n
 ·rw [ilt_pos c,bT,if_pos c]
 ·rw [ilt_neg (by omega),bF,if_neg c]
theorem emul {e n l:Int} (l0:0≤l) (h0:-l≤e) (h1:e≤l):-(l*mag n)≤e*n:=by
 have h:=mul_bd (x:=e) (y:=n) (M:=l) (N:=mag n) h0 h1 (by unfold mag; split <;> omega) (by unfold mag; split <;> omega)
 exact h.1
theorem msum {nx ny L:Int} (h:Rt (nx*nx+ny*ny) L) (L1:0<L):mag nx+mag ny≤2*L:=by
 have a0:0≤mag nx:=by unfold mag; split <;> omega
 have b0:0≤mag ny:=by unfold mag; split <;> omega
 rw [← sq_mag nx,← sq_mag ny] at h
 have h2:=h.2.2
 generalize mag nx=a at *
 generalize mag ny=b at *
 rcases Int.lt_or_le (2*L) (a+b) with c | c
 ·exfalso
  have k1:=sq_le (show 0≤2*L+1 by omega) (show 2*L+1≤a+b by omega)
  have k2:=sq_nn (a - b)
  have e1:(a+b)*(a+b)+(a - b)*(a - b)=2*(a*a+b*b):=by grind
  have e2:(2*L+1)*(2*L+1)=4*(L*L)+4*L+1:=by grind
  have e3:(L+1)*(L+1)=L*L+2*L+1:=by grind
  have k3:=sq_nn L
  rw [e3] at h2
  omega
 ·exact c
section
variable {k:Nat} {ref inc:List V26} {e d:Int} {u:V26} {s ok:Bool} {x y:V26} {id kk:Int}
end
end Go.Proofs.T1
