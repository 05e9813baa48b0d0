import Derived.Test.YteibepmkkplpeaaGreatPlPoly
namespace Go.Proofs.T1
open Go Go.Sx
def sb (a b:aB):aB:=(a.1 - b.1,a.2.1 - b.2.1,())
def pl (a b:aB):aB:=(a.1+b.1,a.2.1+b.2.1,())
def ng (v:aB):aB:=(-v.1,-v.2.1,())
theorem rH {a b:aB} (h:a.1=b.1) (g:a.2.1=b.2.1):a=b:=by
 obtain ⟨x,y,_⟩:=a;obtain ⟨u,v,_⟩:=b;dsimp only at h g;rw [h,g]
theorem sM (a b p:aB):fb a b p=cr (sb b a) (sb p a):=rfl
def Up (v:aB):Prop:=0<v.2.1∨(v.2.1=0∧0<v.1)
def Dn (v:aB):Prop:=v.2.1<0∨(v.2.1=0∧v.1<0)
theorem gG {v:aB} (h:Up v) (g:Dn v):False:=by unfold Up at h; unfold Dn at g; omega
theorem nO {v:aB} (h:Dn v):Up (ng v):=by unfold Dn at h; unfold Up ng; dsimp only; omega
theorem qw {v:aB} (h:Up v):Dn (ng v):=by unfold Up at h; unfold Dn ng; dsimp only; omega
theorem gZ (u v:aB):cr v u=- cr u v:=by unfold cr; grind
theorem lC (u v:aB):cr (ng u) v=- cr u v:=by unfold cr ng; grind
theorem tQ (u v:aB):cr u (ng v)=- cr u v:=by unfold cr ng; grind
theorem ke (u v:aB):cr (ng u) (ng v)=cr u v:=by unfold cr ng; grind
theorem yH (u:aB):cr u u=0:=by unfold cr; grind
theorem pR (u v w:aB):cr (pl u v) w=cr u w+cr v w:=by unfold cr pl; grind
theorem x8 (u v w:aB):cr w (pl u v)=cr w u+cr w v:=by unfold cr pl; grind
theorem Gg {a b c d e f:Int} (hu:0<b∨(b=0∧0<a)) (hv:0<d∨(d=0∧0<c)) (hw:0<f∨(f=0∧0<e)) (h1:0≤a*d - b*c) (h2:0≤c*f - d*e) (h3:0<a*d - b*c∨0<c*f - d*e):0<a*f - b*e:=by
 have key:d*(a*f - b*e)=(c*f - d*e)*b+(a*d - b*c)*f:=by grind
 rcases hv with hd | ⟨hd,hc⟩
 ·rcases hu with hb | ⟨hb,ha⟩
  ·rcases hw with hf | ⟨hf,he⟩
   ·refine mW hd ?_
    rw [key];rcases h3 with h3 | h3
    ·have:=Int.mul_nonneg h2 (Int.le_of_lt hb); have:=Int.mul_pos h3 hf; omega
    ·have:=Int.mul_pos h3 hb; have:=Int.mul_nonneg h1 (Int.le_of_lt hf); omega
   ·subst hf
    have:=Int.mul_pos hd he;simp at h2 h3;omega
  ·subst hb
   rcases hw with hf | ⟨hf,he⟩
   ·have:=Int.mul_pos ha hf; simp; omega
   ·subst hf
    have:=Int.mul_pos hd he;simp at h2 h3;omega
 ·subst hd
  rcases hu with hb | ⟨hb,ha⟩
  ·have:=Int.mul_pos hb hc; simp at h1; omega
  ·subst hb
   rcases hw with hf | ⟨hf,he⟩
   ·have:=Int.mul_pos ha hf; simp; omega
   ·subst hf
    simp at h3
theorem x5 {u v w:aB} (hu:Up u) (hv:Up v) (hw:Up w) (h1:0≤cr u v) (h2:0≤cr v w) (h3:0<cr u v∨0<cr v w):0<cr u w:=Gg hu hv hw h1 h2 h3
theorem AW {u v w:aB} (hu:Dn u) (hv:Dn v) (hw:Dn w) (h1:0≤cr u v) (h2:0≤cr v w) (h3:0<cr u v∨0<cr v w):0<cr u w:=by
 have:=x5 (nO hu) (nO hv) (nO hw) (by rw [ke]; exact h1) (by rw [ke]; exact h2) (by rw [ke,ke]; exact h3)
 rwa [ke] at this
theorem K2 {f e g:aB} (hf:Up f) (he:Up e) (hg:Dn g) (h1:0≤cr f e) (h2:0<cr f g):0<cr e g:=by
 have:=x5 (nO hg) hf he (by rw [lC,← gZ]; omega) h1 (Or.inl (by rw [lC,← gZ]; omega));rw [lC,← gZ] at this; exact this
theorem Hm {f e g:aB} (hf:Dn f) (he:Dn e) (hg:Up g) (h1:0≤cr f e) (h2:0<cr f g):0<cr e g:=by
 have:=K2 (nO hf) (nO he) (qw hg) (by rw [ke]; exact h1) (by rw [ke]; exact h2)
 rwa [ke] at this
theorem K3 {f e g:aB} (hf:Up f) (he:Dn e) (hg:Dn g) (h1:0<cr f g) (h2:0≤cr e g):0<cr f e:=by
 have:=AW he hg (qw hf) h2 (by rw [tQ,← gZ]; omega) (Or.inr (by rw [tQ,← gZ]; omega));rw [tQ,← gZ] at this; exact this
theorem Hg {f e g:aB} (hf:Dn f) (he:Up e) (hg:Up g) (h1:0<cr f g) (h2:0≤cr e g):0<cr f e:=by
 have:=K3 (nO hf) (qw he) (qw hg) (by rw [ke]; exact h1) (by rw [ke]; exact h2)
 rwa [ke] at this
def Lt (u v:aB):Prop:=(Up u∧Dn v)∨(Up u∧Up v∧0<cr u v)∨(Dn u∧Dn v∧0<cr u v)
def Le (u v:aB):Prop:=(Up u∧Dn v)∨(Up u∧Up v∧0≤cr u v)∨(Dn u∧Dn v∧0≤cr u v)
theorem F5 {u v:aB} (h:Lt u v):Le u v:=by
 rcases h with h | ⟨a,b,c⟩ | ⟨a,b,c⟩
 ·exact Or.inl h
 ·exact Or.inr (Or.inl ⟨a,b,by omega⟩)
 ·exact Or.inr (Or.inr ⟨a,b,by omega⟩)
theorem BU {u v w:aB} (h:Le u v) (g:Lt v w):Lt u w:=by
 rcases h with ⟨a,b⟩ | ⟨a,b,c⟩ | ⟨a,b,c⟩ <;> rcases g with ⟨x,y⟩ | ⟨x,y,z⟩ | ⟨x,y,z⟩
 ·exact (gG x b).elim
 ·exact (gG x b).elim
 ·exact Or.inl ⟨a,y⟩
 ·exact Or.inl ⟨a,y⟩
 ·exact Or.inr (Or.inl ⟨a,y,x5 a b y c (by omega) (Or.inr z)⟩)
 ·exact (gG b x).elim
 ·exact (gG x b).elim
 ·exact (gG x b).elim
 ·exact Or.inr (Or.inr ⟨a,y,AW a b y c (by omega) (Or.inr z)⟩)
theorem EE {u v w:aB} (h:Lt u v) (g:Lt v w):Lt u w:=BU (F5 h) g
theorem yC {u v w:aB} (h1:Lt u w) (h2:Lt v w) (h:(Up u∧Up v)∨(Dn u∧Dn v)):Lt (pl u v) w:=by
 rcases h with ⟨a,b⟩ | ⟨a,b⟩
 ·have hu:Up (pl u v):=by unfold Up at *; unfold pl; dsimp only; omega
  rcases h1 with ⟨_,y⟩ | ⟨_,y,z⟩ | ⟨x,_,_⟩
  ·exact Or.inl ⟨hu,y⟩
  ·refine Or.inr (Or.inl ⟨hu,y,?_⟩)
   rcases h2 with ⟨_,g⟩ | ⟨_,_,g⟩ | ⟨g,_,_⟩
   ·exact (gG y g).elim
   ·rw [pR]; omega
   ·exact (gG b g).elim
  ·exact (gG a x).elim
 ·have hu:Dn (pl u v):=by unfold Dn at *; unfold pl; dsimp only; omega
  rcases h1 with ⟨y,_⟩ | ⟨y,_,z⟩ | ⟨x,y,z⟩
  ·exact (gG y a).elim
  ·exact (gG y a).elim
  ·refine Or.inr (Or.inr ⟨hu,y,?_⟩)
   rcases h2 with ⟨g,_⟩ | ⟨g,_,_⟩ | ⟨_,_,g⟩
   ·exact (gG g b).elim
   ·exact (gG g b).elim
   ·rw [pR]; omega
theorem D3 {u v w:aB} (h1:Lt w u) (h2:Lt w v) (h:(Up u∧Up v)∨(Dn u∧Dn v)):Lt w (pl u v):=by
 rcases h with ⟨a,b⟩ | ⟨a,b⟩
 ·have hu:Up (pl u v):=by unfold Up at *; unfold pl; dsimp only; omega
  rcases h1 with ⟨_,y⟩ | ⟨x,y,z⟩ | ⟨x,y,_⟩
  ·exact (gG a y).elim
  ·refine Or.inr (Or.inl ⟨x,hu,?_⟩)
   rcases h2 with ⟨_,g⟩ | ⟨_,_,g⟩ | ⟨_,g,_⟩
   ·exact (gG b g).elim
   ·rw [x8]; omega
   ·exact (gG b g).elim
  ·exact (gG a y).elim
 ·have hu:Dn (pl u v):=by unfold Dn at *; unfold pl; dsimp only; omega
  rcases h1 with ⟨y,_⟩ | ⟨_,y,z⟩ | ⟨x,y,z⟩
  ·exact Or.inl ⟨y,hu⟩
  ·exact (gG y a).elim
  ·refine Or.inr (Or.inr ⟨x,hu,?_⟩)
   rcases h2 with ⟨g,_⟩ | ⟨_,g,_⟩ | ⟨_,_,g⟩
   ·exact (gG g x).elim
   ·exact (gG g b).elim
   ·rw [x8]; omega
theorem A7 {u p r:aB} (h1:Lt u p) (h2:Lt p r) (h:0<cr p r) (a:0≤cr p u) (b:0≤cr u r):False:=by
 rcases h1 with ⟨x,y⟩ | ⟨_,_,z⟩ | ⟨_,_,z⟩
 ·have hr:Dn r:=by
   rcases h2 with ⟨g,_⟩ | ⟨g,_,_⟩ | ⟨_,g,_⟩
   ·exact (gG g y).elim
   ·exact (gG g y).elim
   ·exact g
  have:=K3 x y hr;have t:=AW (qw x) y hr (by rw [lC,← gZ]; exact a) (by omega) (Or.inr h);rw [lC] at t;omega
 ·rw [gZ] at a; omega
 ·rw [gZ] at a; omega
theorem Av {u p r:aB} (h1:Lt r u) (h2:Lt p r) (h:0<cr p r) (a:0≤cr p u) (b:0≤cr u r):False:=by
 rcases h1 with ⟨x,y⟩ | ⟨_,_,z⟩ | ⟨_,_,z⟩
 ·have hp:Up p:=by
   rcases h2 with ⟨_,g⟩ | ⟨g,_,_⟩ | ⟨_,g,_⟩
   ·exact (gG x g).elim
   ·exact g
   ·exact (gG x g).elim
  have t:=x5 (nO y) hp x (by rw [lC,← gZ]; exact a) (by omega) (Or.inr h);rw [lC] at t;omega
 ·rw [gZ] at b; omega
 ·rw [gZ] at b; omega
end Go.Proofs.T1
namespace Go.Proofs.T1
open Go Go.Sx
structure Cv (n:Nat) (A:Nat→aB):Prop where
 n3:3≤n
 per:A n=A 0
 edge:∀ i j,i<n→j<n→j≠i→(j=0→i+1≠n)→j≠i+1→0<fb (A i) (A (i+1)) (A j)
 low:∀ j,0<j→j<n→Up (sb (A j) (A 0))
def ed (A:Nat→aB) (i:Nat):aB:=sb (A (i+1)) (A i)
section
variable {n:Nat} {A:Nat→aB}
theorem Cv.nn (h:Cv n A) {i j:Nat} (hi:i<n) (hj:j≤n):0≤cr (ed A i) (sb (A j) (A i)):=by
 have H:∀ j,j<n→0≤cr (ed A i) (sb (A j) (A i)):=by
  intro j hj
  by_cases a:j=i
  ·subst a; unfold cr sb; dsimp only; grind
  by_cases b:j=i+1
  ·subst b; exact Int.le_of_eq (yH _).symm
  by_cases c:j=0∧i+1=n
  ·have:A (i+1)=A j:=by rw [c.2,c.1,h.per]
   unfold ed; rw [this]; exact Int.le_of_eq (yH _).symm
  ·exact Int.le_of_lt (h.edge i j hi hj a (fun x y=>c ⟨x,y⟩) b)
 by_cases e:j=n
 ·rw [e,h.per]; exact H 0 (by have:=h.n3; omega)
 ·exact H j (by omega)
theorem p5 (e a b p:aB) (h:e=sb b a):cr e (sb p b)=cr e (sb p a):=by subst h; unfold cr sb; dsimp only; grind
theorem Cv.GP (h:Cv n A) {i j:Nat} (hi:i<n) (hj:j≤n):0≤cr (ed A i) (sb (A j) (A (i+1))):=by
 rw [p5 (ed A i) (A i) (A (i+1)) (A j) rfl]; exact h.nn hi hj
theorem Cv.oP (h:Cv n A) {i:Nat} (hi:i+1<n):0<cr (ed A i) (ed A (i+1)):=by
 have e:cr (ed A i) (ed A (i+1))=fb (A i) (A (i+1)) (A (i+2)):=p5 _ _ _ _ rfl;rw [e];have:=h.n3
 by_cases c:i+2=n
 ·rw [c,h.per]; exact h.edge i 0 (by omega) (by omega) (by omega) (by omega) (by omega)
 ·exact h.edge i (i+2) (by omega) (by omega) (by omega) (by omega) (by omega)
theorem Cv.wrap (h:Cv n A):0<cr (ed A (n - 1)) (ed A 0):=by
 have h3:=h.n3;have e:ed A 0=sb (A 1) (A (n - 1+1)):=by rw [show n - 1+1=n by omega,h.per]; rfl
 rw [e,p5 (ed A (n - 1)) (A (n - 1)) (A (n - 1+1)) (A 1) rfl];exact h.edge (n - 1) 1 (by omega) (by omega) (by omega) (by omega) (by omega)
theorem Cv.first (h:Cv n A):Up (ed A 0):=h.low 1 (by omega) (by have:=h.n3; omega)
theorem Cv.last (h:Cv n A):Dn (ed A (n - 1)):=by
 have h3:=h.n3;have e:ed A (n - 1)=ng (sb (A (n - 1)) (A 0)):=by
  unfold ed; rw [show n - 1+1=n by omega,h.per]; unfold sb ng; refine rH ?_ ?_ <;> dsimp only <;> omega
 rw [e]; exact qw (h.low (n - 1) (by omega) (by omega))
theorem half {u v:aB} (h:0<cr u v):(Up u∨Dn u)∧(Up v∨Dn v):=by
 constructor
 ·by_cases a:u.2.1=0∧u.1=0
  ·unfold cr at h; rw [a.1,a.2] at h; simp at h
  ·unfold Up Dn; omega
 ·by_cases a:v.2.1=0∧v.1=0
  ·unfold cr at h; rw [a.1,a.2] at h; simp at h
  ·unfold Up Dn; omega
theorem yx {al x y:Int} (h:0≤al) (hu:0<y∨(y=0∧0<x)):0<al*y∨(al*y=0∧0≤al*x):=by
 rcases hu with g | ⟨g,f⟩
 ·rcases Int.lt_or_le 0 al with c | c
  ·exact Or.inl (Int.mul_pos c g)
  ·have:al=0:=by omega
   subst this; exact Or.inr ⟨by simp,by simp⟩
 ·subst g; exact Or.inr ⟨by simp,Int.mul_nonneg h (by omega)⟩
theorem D1 {al be D ux uy vx vy wx wy:Int} (h1:0≤al) (h2:0≤be) (hD:0<D) (hu:0<uy∨(uy=0∧0<ux)) (hv:0<vy∨(vy=0∧0<vx))
  (ey:D*wy=al*uy+be*vy) (ex:D*wx=al*ux+be*vx) (hw:wy<0∨(wy=0∧wx<0)):False:=by
 have a:=yx h1 hu;have b:=yx h2 hv;rcases hw with g | ⟨g,f⟩
 ·have:=Int.mul_neg_of_pos_of_neg hD g; omega
 ·subst g
  have:=Int.mul_neg_of_pos_of_neg hD f;simp at ey;omega
theorem Cv.lt (h:Cv n A) {i:Nat} (hi:i+1<n):Lt (ed A i) (ed A (i+1)):=by
 have t:=h.oP hi;obtain ⟨a,b⟩:=half t;rcases a with a | a <;> rcases b with b | b
 ·exact Or.inr (Or.inl ⟨a,b,t⟩)
 ·exact Or.inl ⟨a,b⟩
 ·exfalso
  have l:=qw (h.low (i+1) (by omega) hi);have n1:=h.GP (i:=i) (j:=0) (by omega) (by omega);have n2:=h.nn (i:=i+1) (j:=0) hi (by omega);have a':=nO a;generalize hw:sb (A 0) (A (i+1))=w at n1 n2;have l':Dn w:=by
   rw [← hw]; unfold Dn ng sb at l; unfold Dn sb; dsimp only at l ⊢; omega
  generalize ed A i=p at *
  generalize ed A (i+1)=r at *
  refine D1 (al:=cr p w) (be:=cr r w) (D:=cr p r) (ux:=r.1) (uy:=r.2.1) (vx:=(ng p).1) (vy:=(ng p).2.1) (wx:=w.1) (wy:=w.2.1) n1 n2 t b a' ?_ ?_ l'
  ·unfold cr ng; dsimp only; grind
  ·unfold cr ng; dsimp only; grind
 ·exact Or.inr (Or.inr ⟨a,b,t⟩)
end
section
variable {n m:Nat} {A C:Nat→aB}
def Fi (n m:Nat) (A C:Nat→aB) (x y:Nat):Prop:=x<n∧(y=m∨0≤cr (ed A x) (ed C y))
instance (n m:Nat) (A C:Nat→aB) (x y:Nat):Decidable (Fi n m A C x y):=by unfold Fi; infer_instance
structure Inv (n m:Nat) (A C:Nat→aB) (x y:Nat):Prop where
 xn:x≤n
 ym:y≤m
 a:0<x→y<m→Lt (ed A (x - 1)) (ed C y)
 b:0<y→x<n→Lt (ed C (y - 1)) (ed A x)
theorem Inv.sym {x y:Nat} (h:Inv n m A C x y):Inv m n C A y x:=⟨h.ym,h.xn,h.b,h.a⟩
theorem G4 (hA:Cv n A) (hC:Cv m C) {x y:Nat} (h:Inv n m A C x y) (hx:x<n) (hy:y<m) (a:Up (ed A x)) (b:Dn (ed C y)):0<cr (ed A x) (ed C y):=by
 by_cases c:y=0
 ·subst c; exact (gG hC.first b).elim
 ·have l:=h.b (by omega) hx
  have t:=hC.oP (i:=y - 1) (by omega);rw [show y - 1+1=y by omega] at t;rcases l with ⟨_,g⟩ | ⟨f,_,z⟩ | ⟨_,g,_⟩
  ·exact (gG a g).elim
  ·exact K2 f a b (by omega) t
  ·exact (gG a g).elim
theorem Cv.half (hA:Cv n A) {x:Nat} (hx:x<n):Up (ed A x)∨Dn (ed A x):=by
 by_cases c:x+1<n
 ·exact (Go.Proofs.T1.half (hA.oP c)).1
 ·have:x=n - 1:=by omega
  rw [this]; exact Or.inr hA.last
theorem wU (hA:Cv n A) (hC:Cv m C) {x y:Nat} (h:Inv n m A C x y) (hx:x<n) (hy:y<m) (c:0≤cr (ed A x) (ed C y)):Le (ed A x) (ed C y):=by
 rcases hA.half hx with a | a <;> rcases hC.half hy with b | b
 ·exact Or.inr (Or.inl ⟨a,b,c⟩)
 ·exact Or.inl ⟨a,b⟩
 ·have:=G4 hC hA h.sym hy hx b a
  rw [gZ] at this; omega
 ·exact Or.inr (Or.inr ⟨a,b,c⟩)
theorem FR {u v:aB} (h:Le u v) (g:0<cr u v):Lt u v:=by
 rcases h with h | ⟨a,b,c⟩ | ⟨a,b,c⟩
 ·exact Or.inl h
 ·exact Or.inr (Or.inl ⟨a,b,g⟩)
 ·exact Or.inr (Or.inr ⟨a,b,g⟩)
theorem ext (hA:Cv n A) (hC:Cv m C) {x y:Nat} (h:Inv n m A C x y) (f:Fi n m A C x y) {j:Nat} (hj:j≤m):0≤cr (ed A x) (sb (C j) (C y)):=by
 have h3:=hC.n3;have key:∀ p r:aB,0<cr p r→0≤cr p (sb (C j) (C y))→0≤cr r (sb (C j) (C y))→0≤cr (ed A x) r→0≤cr p (ed A x)→0≤cr (ed A x) (sb (C j) (C y)):=by
  intro p r hD h1 h2 h4 h5;refine mo hD ?_
  have e:cr p r*cr (ed A x) (sb (C j) (C y))=cr p (sb (C j) (C y))*cr (ed A x) r+cr r (sb (C j) (C y))*cr p (ed A x):=by
   generalize ed A x=e;generalize sb (C j) (C y)=v;unfold cr; grind
  rw [e];have:=Int.mul_nonneg h1 h4;have:=Int.mul_nonneg h2 h5;omega
 obtain ⟨hx,f⟩:=f
 by_cases y0:y=0
 ·subst y0
  have f:0≤cr (ed A x) (ed C 0):=by
   rcases f with f | f
   ·omega
   ·exact f
  have l:=wU hA hC h hx (by omega) f;have w:=hC.wrap;have up:Up (ed A x):=by
   rcases l with ⟨g,_⟩ | ⟨g,_,_⟩ | ⟨_,g,_⟩
   ·exact g
   ·exact g
   ·exact (gG hC.first g).elim
  have k:=Hg hC.last up hC.first w f
  have n1:=hC.GP (i:=m - 1) (j:=j) (by omega) hj;rw [show m - 1+1=m by omega,hC.per] at n1;exact key _ _ w n1 (hC.nn (by omega) hj) f (by omega)
 ·have l:=h.b (by omega) hx
  have n1:=hC.GP (i:=y - 1) (j:=j) (by have:=h.ym; omega) hj;rw [show y - 1+1=y by omega] at n1
  by_cases ym:y=m
  ·subst ym
   have w:=hC.wrap;have dn:Dn (ed A x)∧0<cr (ed C (y - 1)) (ed A x):=by
    rcases l with ⟨g,_⟩ | ⟨g,_,_⟩ | ⟨_,g,z⟩
    ·exact (gG g hC.last).elim
    ·exact (gG g hC.last).elim
    ·exact ⟨g,z⟩
   have k:=Hm hC.last dn.1 hC.first (by omega) w
   have n2:=hC.nn (i:=0) (j:=j) (by omega) hj;rw [← hC.per] at n2;exact key _ _ w n1 n2 (by omega) (by omega)
  ·have f:0≤cr (ed A x) (ed C y):=by
    rcases f with f | f
    ·omega
    ·exact f
   have hy:y<m:=by have:=h.ym; omega
   have t:=hC.oP (i:=y - 1) (by omega);rw [show y - 1+1=y by omega] at t;refine key _ _ t n1 (hC.nn hy hj) f ?_
   rcases l with ⟨a,b⟩ | ⟨_,_,z⟩ | ⟨_,_,z⟩
   ·rcases wU hA hC h hx hy f with ⟨g,_⟩ | ⟨g,_,_⟩ | ⟨_,g,_⟩
    ·exact (gG g b).elim
    ·exact (gG g b).elim
    ·exact Int.le_of_lt (K3 a b g t f)
   ·omega
   ·omega
def fi (n m:Nat) (A C:Nat→aB) (x y:Nat):Nat:=if Fi n m A C x y then 1 else 0
def iF:aB:=(0,0,())
def dd (n m:Nat) (A C:Nat→aB) (x y:Nat):aB:=pl (if Fi n m A C x y then ed A x else iF) (if Fi m n C A y x then ed C y else iF)
theorem sP {x y:Nat} (hx:x≤n) (hy:y≤m) (h:¬ (x=n∧y=m)):Fi n m A C x y∨Fi m n C A y x:=by
 unfold Fi
 by_cases a:x=n
 ·exact Or.inr ⟨by omega,Or.inl a⟩
 ·by_cases b:y=m
  ·exact Or.inl ⟨by omega,Or.inl b⟩
  ·rcases Int.le_total 0 (cr (ed A x) (ed C y)) with c | c
   ·exact Or.inl ⟨by omega,Or.inr c⟩
   ·exact Or.inr ⟨by omega,Or.inr (by rw [gZ]; omega)⟩
theorem only {x y:Nat} (f:Fi n m A C x y) (g:¬ Fi m n C A y x) (hy:y<m):0<cr (ed A x) (ed C y):=by
 unfold Fi at f g;rcases Int.lt_or_le 0 (cr (ed A x) (ed C y)) with c | c
 ·exact c
 ·exact absurd ⟨hy,Or.inr (by rw [gZ]; omega)⟩ g
theorem uj (hA:Cv n A) (hC:Cv m C) {x y:Nat} (h:Inv n m A C x y) (hne:¬ (x=n∧y=m)) :
  Inv n m A C (x+fi n m A C x y) (y+fi m n C A y x) ∧
  (x+fi n m A C x y<n→Lt (dd n m A C x y) (ed A (x+fi n m A C x y)))∧(y+fi m n C A y x<m→Lt (dd n m A C x y) (ed C (y+fi m n C A y x))):=by
 have z1:∀ v:aB,pl v iF=v:=by intro v; unfold pl iF; dsimp only; rw [Int.add_zero,Int.add_zero]
 have z2:∀ v:aB,pl iF v=v:=by intro v; unfold pl iF; dsimp only; rw [Int.zero_add,Int.zero_add]
 have one:∀ {n m:Nat} {A C:Nat→aB} {x y:Nat},Cv n A→Cv m C→Inv n m A C x y→Fi n m A C x y→¬ Fi m n C A y x →
   Inv n m A C (x+1) y∧(x+1<n→Lt (ed A x) (ed A (x+1)))∧(y<m→Lt (ed A x) (ed C y)):=by
  intro n m A C x y hA hC h f g;have l:y<m→Lt (ed A x) (ed C y):=fun hy=>FR (wU hA hC h f.1 hy (by have:=only f g hy; omega)) (only f g hy);exact ⟨⟨f.1,h.ym,fun _ hy=>l hy,fun hy hx=>EE (h.b hy f.1) (hA.lt hx)⟩,fun hx=>hA.lt hx,l⟩
 unfold dd fi
 by_cases f:Fi n m A C x y <;> by_cases g:Fi m n C A y x
 ·rw [if_pos f,if_pos g,if_pos f,if_pos g]
  have hx:=f.1;have hy:=g.1;have c1:0≤cr (ed A x) (ed C y):=f.2.resolve_left (by omega);have c2:0≤cr (ed C y) (ed A x):=g.2.resolve_left (by omega);have l1:=wU hA hC h hx hy c1;have l2:=wU hC hA h.sym hy hx c2;have hh:(Up (ed A x)∧Up (ed C y))∨(Dn (ed A x)∧Dn (ed C y)):=by
   rcases l1 with ⟨a,b⟩ | ⟨a,b,_⟩ | ⟨a,b,_⟩
   ·rcases l2 with ⟨c,_⟩ | ⟨c,_,_⟩ | ⟨_,c,_⟩
    ·exact (gG c b).elim
    ·exact (gG c b).elim
    ·exact (gG a c).elim
   ·exact Or.inl ⟨a,b⟩
   ·exact Or.inr ⟨a,b⟩
  exact ⟨⟨hx,hy,fun _ hy'=>BU l1 (hC.lt hy'),fun _ hx'=>BU l2 (hA.lt hx')⟩,
   fun hx'=>yC (hA.lt hx') (BU l2 (hA.lt hx')) hh,fun hy'=>yC (BU l1 (hC.lt hy')) (hC.lt hy') hh⟩
 ·rw [if_pos f,if_neg g,if_pos f,if_neg g,z1]
  exact one hA hC h f g
 ·rw [if_neg f,if_pos g,if_neg f,if_pos g,z2]
  have:=one hC hA h.sym g f;exact ⟨this.1.sym,this.2.2,this.2.1⟩
 ·rcases sP (A:=A) (C:=C) h.xn h.ym hne with c | c
  ·exact absurd c f
  ·exact absurd c g
end
end Go.Proofs.T1
namespace Go.Proofs.T1
open Go Go.Sx
theorem za {T:Nat} {M D:Nat→aB} (hT:3≤T) (S:∀ t,t<T→D t=sb (M (t+1)) (M t)) (per:M T=M 0) (W:∀ t j,t<T→j≤T→0≤cr (D t) (sb (M j) (M t)))
  (O:∀ t,t+1<T→Lt (D t) (D (t+1))) (tn:∀ t,t+1<T→0<cr (D t) (D (t+1))) (u0:Up (D 0)) (dl:Dn (D (T - 1))) :
  ∀ t j,t<T→j<T→j≠t→(j=0→t+1≠T)→j≠t+1→0<fb (M t) (M (t+1)) (M j):=by
 have ch:∀ t s,s<t→t<T→Lt (D s) (D t):=by
  intro t
  induction t with
  | zero=>intro s h; omega
  | succ t ih =>
   intro s h g
   by_cases e:s=t
   ·rw [e]; exact O t g
   ·exact EE (ih s (by omega) (by omega)) (O t g)
 intro t j ht hj n1 n2 n3;rw [sM,← S t ht];rcases Int.lt_or_le 0 (cr (D t) (sb (M j) (M t))) with c | c
 ·exact c
 exfalso;have c0:cr (D t) (sb (M j) (M t))=0:=by have:=W t j ht (by omega); omega
 have a:0≤cr (D t) (D j):=by
  have h1:=W t (j+1) ht (by omega);rw [S j hj];unfold cr sb at *
  dsimp only at *
  grind
 have b:∀ p,p<T→M (p+1)=M j→0≤cr (D p) (D t):=by
  intro p hp e;have h1:=W t p ht (by omega);rw [gZ,S p hp,e];unfold cr sb at *
  dsimp only at *
  grind
 by_cases j0:j=0
 ·subst j0
  have n4:=n2 rfl;have b':=b (T - 1) (by omega) (by rw [show T - 1+1=T by omega,per]);rcases ch t 0 (by omega) ht with ⟨_,g⟩ | ⟨_,_,z⟩ | ⟨g,_,_⟩
  ·rcases ch (T - 1) t (by omega) (by omega) with ⟨f,_⟩ | ⟨f,_,_⟩ | ⟨_,_,z⟩
   ·exact gG f g
   ·exact gG f g
   ·rw [gZ] at b'; omega
  ·rw [gZ] at a; omega
  ·exact gG u0 g
 ·have b':=b (j - 1) (by omega) (by rw [show j - 1+1=j by omega])
  have l:=O (j - 1) (by omega);have t1:=tn (j - 1) (by omega);rw [show j - 1+1=j by omega] at l t1;rcases Nat.lt_or_ge t j with g | g
  ·exact A7 (ch (j - 1) t (by omega) (by omega)) l t1 b' a
  ·exact Av (ch t j (by omega) ht) l t1 b' a
section
variable {n m:Nat} {A C:Nat→aB}
def EF (n m:Nat) (A C:Nat→aB) (s:Nat × Nat):Nat × Nat:=(s.1+fi n m A C s.1 s.2,s.2+fi m n C A s.2 s.1)
def jR (n m:Nat) (A C:Nat→aB):Nat→Nat × Nat
 | 0=>(0,0)
 | t+1=>EF n m A C (jR n m A C t)
def mp (A C:Nat→aB) (s:Nat × Nat):aB:=pl (A s.1) (C s.2)
def Dt (n m:Nat) (A C:Nat→aB) (t:Nat):aB:=dd n m A C (jR n m A C t).1 (jR n m A C t).2
def Mt (n m:Nat) (A C:Nat→aB) (t:Nat):aB:=mp A C (jR n m A C t)
structure Path (n m:Nat) (A C:Nat→aB) (T:Nat):Prop where
 le:T≤n+m
 ge:n≤T
 fin:jR n m A C T=(n,m)
 ne:∀ t,t<T→¬ ((jR n m A C t).1=n∧(jR n m A C t).2=m)
 inv:∀ t,t≤T→Inv n m A C (jR n m A C t).1 (jR n m A C t).2
theorem F8 (x y:Nat):fi n m A C x y≤1:=by unfold fi; split <;> omega
theorem path (hA:Cv n A) (hC:Cv m C):∃ T,Path n m A C T:=by
 have H:∀ k t,n+m≤(jR n m A C t).1+(jR n m A C t).2+k→t≤(jR n m A C t).1+(jR n m A C t).2→(∀ s,s≤t→Inv n m A C (jR n m A C s).1 (jR n m A C s).2) →
   (∀ s,s<t→¬ ((jR n m A C s).1=n∧(jR n m A C s).2=m))→(jR n m A C t).1≤t→∃ T,Path n m A C T:=by
  intro k
  induction k with
  | zero =>
   intro t h1 h2 h3 h4 h5;have i:=h3 t (Nat.le_refl t);have:=i.xn;have:=i.ym;exact ⟨t,by omega,by omega,Prod.ext (by omega) (by omega),h4,h3⟩
  | succ k ih =>
   intro t h1 h2 h3 h4 h5;have i:=h3 t (Nat.le_refl t)
   by_cases e:(jR n m A C t).1=n∧(jR n m A C t).2=m
   ·have:=i.xn
    have:=i.ym;exact ⟨t,by omega,by omega,Prod.ext e.1 e.2,h4,h3⟩
   ·have q1:(jR n m A C (t+1)).1=(jR n m A C t).1+fi n m A C (jR n m A C t).1 (jR n m A C t).2:=rfl
    have q2:(jR n m A C (t+1)).2=(jR n m A C t).2+fi m n C A (jR n m A C t).2 (jR n m A C t).1:=rfl;have f1:=F8 (n:=n) (m:=m) (A:=A) (C:=C) (jR n m A C t).1 (jR n m A C t).2;have s1:1≤fi n m A C (jR n m A C t).1 (jR n m A C t).2+fi m n C A (jR n m A C t).2 (jR n m A C t).1:=by
     rcases sP (A:=A) (C:=C) i.xn i.ym e with c | c
     ·unfold fi; rw [if_pos c]; omega
     ·unfold fi; rw [if_pos c]; omega
    refine ih (t+1) (by omega) (by omega) ?_ ?_ (by omega)
    ·intro s hs
     by_cases c:s=t+1
     ·subst c; exact (uj hA hC i e).1
     ·exact h3 s (by omega)
    ·intro s hs
     by_cases c:s=t
     ·subst c; exact e
     ·exact h4 s (by omega)
 refine H (n+m) 0 (by omega) (Nat.zero_le _) ?_ (fun s h=>by omega) (Nat.le_refl 0)
 intro s hs;have:s=0:=by omega
 subst this;exact ⟨Nat.zero_le _,Nat.zero_le _,fun h=>absurd h (Nat.lt_irrefl 0),fun h=>absurd h (Nat.lt_irrefl 0)⟩
theorem qU (t:Nat):Dt n m A C t=sb (Mt n m A C (t+1)) (Mt n m A C t):=by
 have e:jR n m A C (t+1)=EF n m A C (jR n m A C t):=rfl;unfold Dt Mt mp;rw [e];generalize jR n m A C t=s;obtain ⟨x,y⟩:=s;unfold EF dd fi;dsimp only
 by_cases f:Fi n m A C x y <;> by_cases g:Fi m n C A y x
 ·rw [if_pos f,if_pos g,if_pos f,if_pos g]; unfold ed pl sb; refine rH ?_ ?_ <;> dsimp only <;> (try simp only [Nat.add_zero]) <;> omega
 ·rw [if_pos f,if_neg g,if_pos f,if_neg g]; unfold ed pl sb iF; refine rH ?_ ?_ <;> dsimp only <;> (try simp only [Nat.add_zero]) <;> omega
 ·rw [if_neg f,if_pos g,if_neg f,if_pos g]; unfold ed pl sb iF; refine rH ?_ ?_ <;> dsimp only <;> (try simp only [Nat.add_zero]) <;> omega
 ·rw [if_neg f,if_neg g,if_neg f,if_neg g]; unfold pl sb iF; refine rH ?_ ?_ <;> dsimp only <;> (try simp only [Nat.add_zero]) <;> omega
theorem xZ (hA:Cv n A) (hC:Cv m C) {x y:Nat} (h:Inv n m A C x y) (f:Fi n m A C x y) {i j:Nat} (hi:i≤n) (hj:j≤m):0≤cr (ed A x) (sb (pl (A i) (C j)) (pl (A x) (C y))):=by
 have a:=hA.nn f.1 hi;have b:=ext hA hC h f hj;have e:cr (ed A x) (sb (pl (A i) (C j)) (pl (A x) (C y)))=cr (ed A x) (sb (A i) (A x))+cr (ed A x) (sb (C j) (C y)):=by
  generalize ed A x=e;unfold cr sb pl; dsimp only; grind
 rw [e]; omega
theorem yh (u v:aB):pl u v=pl v u:=by unfold pl; rw [Int.add_comm,Int.add_comm u.2.1]
theorem tj (v:aB):cr iF v=0:=by unfold cr iF; simp
theorem De (hA:Cv n A) (hC:Cv m C) {T:Nat} (P:Path n m A C T) {t:Nat} (ht:t≤T) {i j:Nat} (hi:i≤n) (hj:j≤m):0≤cr (Dt n m A C t) (sb (pl (A i) (C j)) (Mt n m A C t)):=by
 have h:=P.inv t ht;unfold Dt Mt mp dd;generalize jR n m A C t=s at *
 obtain ⟨x,y⟩:=s;dsimp only at *
 rw [pR];have a:0≤cr (if Fi n m A C x y then ed A x else iF) (sb (pl (A i) (C j)) (pl (A x) (C y))):=by
  by_cases f:Fi n m A C x y
  ·rw [if_pos f]; exact xZ hA hC h f hi hj
  ·rw [if_neg f,tj]; exact Int.le_refl 0
 have b:0≤cr (if Fi m n C A y x then ed C y else iF) (sb (pl (A i) (C j)) (pl (A x) (C y))):=by
  by_cases f:Fi m n C A y x
  ·rw [if_pos f,yh (A i),yh (A x)]; exact xZ hC hA h.sym f hj hi
  ·rw [if_neg f,tj]; exact Int.le_refl 0
 omega
theorem CI (hA:Cv n A) (hC:Cv m C) {x y:Nat} (h:Inv n m A C x y) (f:Fi n m A C x y) (g:Fi m n C A y x):(Up (ed A x)∧Up (ed C y))∨(Dn (ed A x)∧Dn (ed C y)):=by
 have hx:=f.1;have hy:=g.1;have c1:0≤cr (ed A x) (ed C y):=f.2.resolve_left (by omega);have c2:0≤cr (ed C y) (ed A x):=g.2.resolve_left (by omega);have l1:=wU hA hC h hx hy c1;have l2:=wU hC hA h.sym hy hx c2;rcases l1 with ⟨a,b⟩ | ⟨a,b,_⟩ | ⟨a,b,_⟩
 ·rcases l2 with ⟨c,_⟩ | ⟨c,_,_⟩ | ⟨_,c,_⟩
  ·exact (gG c b).elim
  ·exact (gG c b).elim
  ·exact (gG a c).elim
 ·exact Or.inl ⟨a,b⟩
 ·exact Or.inr ⟨a,b⟩
theorem Fc (v:aB):pl v iF=v:=by unfold pl iF; dsimp only; rw [Int.add_zero,Int.add_zero]
theorem Fa (v:aB):pl iF v=v:=by unfold pl iF; dsimp only; rw [Int.zero_add,Int.zero_add]
theorem Gv {u v:aB} (a:Up u) (b:Up v):Up (pl u v):=by unfold Up at *; unfold pl; dsimp only; omega
theorem Gu {u v:aB} (a:Dn u) (b:Dn v):Dn (pl u v):=by unfold Dn at *; unfold pl; dsimp only; omega
theorem qZ (hA:Cv n A) (hC:Cv m C) {x y:Nat} (h:Inv n m A C x y) (hne:¬ (x=n∧y=m)) {Q:aB→Prop} (q1:x<n→Q (ed A x)) (q2:y<m→Q (ed C y))
  (q3:x<n→y<m→(Up (ed A x)∧Up (ed C y))∨(Dn (ed A x)∧Dn (ed C y))→Q (pl (ed A x) (ed C y))):Q (dd n m A C x y):=by
 unfold dd
 by_cases f:Fi n m A C x y <;> by_cases g:Fi m n C A y x
 ·rw [if_pos f,if_pos g]; exact q3 f.1 g.1 (CI hA hC h f g)
 ·rw [if_pos f,if_neg g,Fc]; exact q1 f.1
 ·rw [if_neg f,if_pos g,Fa]; exact q2 g.1
 ·rcases sP (A:=A) (C:=C) h.xn h.ym hne with c | c
  ·exact absurd c f
  ·exact absurd c g
theorem Gz (hA:Cv n A) (hC:Cv m C) {T:Nat} (P:Path n m A C T) {t:Nat} (ht:t+1<T):Lt (Dt n m A C t) (Dt n m A C (t+1)):=by
 have h:=uj hA hC (P.inv t (by omega)) (P.ne t (by omega));have h1:=P.inv (t+1) (by omega);have h2:=P.ne (t+1) ht;exact qZ hA hC h1 h2 (Q:=fun v=>Lt (Dt n m A C t) v) h.2.1 h.2.2 (fun hx hy hh=>D3 (h.2.1 hx) (h.2.2 hy) hh)
theorem DO (hA:Cv n A) (hC:Cv m C) {T:Nat} (P:Path n m A C T):Up (Dt n m A C 0) :=
 qZ hA hC (P.inv 0 (Nat.zero_le _)) (P.ne 0 (by have:=P.ge; have:=hA.n3; omega)) (Q:=Up) (fun _=>hA.first) (fun _=>hC.first) (fun _ _ _=>Gv hA.first hC.first)
theorem EN (hA:Cv n A) (hC:Cv m C) {T:Nat} (P:Path n m A C T):Dn (Dt n m A C (T - 1)):=by
 have h3:=hA.n3;have g3:=P.ge;have h:=P.inv (T - 1) (by omega);have e:jR n m A C T=EF n m A C (jR n m A C (T - 1)):=by
  have:T=T - 1+1:=by omega
  rw [this]; rfl
 rw [P.fin] at e;unfold Dt;have hne:=P.ne (T - 1) (by omega);generalize jR n m A C (T - 1)=s at *
 obtain ⟨x,y⟩:=s;dsimp only at *
 unfold EF fi at e;dsimp only at e;have e1:=congrArg Prod.fst e;have e2:=congrArg Prod.snd e;dsimp only at e1 e2;refine qZ hA hC h hne (Q:=Dn) (fun hx=>?_) (fun hy=>?_) (fun hx hy _=>?_)
 ·have:x=n - 1:=by split at e1 <;> omega
  rw [this]; exact hA.last
 ·have:y=m - 1:=by split at e2 <;> omega
  rw [this]; exact hC.last
 ·have a1:x=n - 1:=by split at e1 <;> omega
  have a2:y=m - 1:=by split at e2 <;> omega
  rw [a1,a2]; exact Gu hA.last hC.last
theorem flat {u v w:aB} (hu:Up u) (hv:Dn v) (h:cr u v=0) (a:0≤cr u w) (b:0≤cr v w):cr u w=0:=by
 have i1:cr u w*v.2.1=cr v w*u.2.1+cr u v*w.2.1:=by unfold cr; grind
 have i2:cr u w*v.1=cr v w*u.1+cr u v*w.1:=by unfold cr; grind
 rw [h] at i1 i2;simp only [Int.zero_mul,Int.add_zero] at i1 i2;rcases Int.lt_or_le 0 (cr u w) with c | c
 ·exfalso
  rcases hv with d | ⟨d,e⟩
  ·have:=Int.mul_neg_of_pos_of_neg c d
   have:0≤cr v w*u.2.1:=Int.mul_nonneg b (by unfold Up at hu; omega);omega
  ·have:=Int.mul_neg_of_pos_of_neg c e
   rcases hu with f | ⟨f,g⟩
   ·unfold cr at h
    rw [d] at h;have:=Int.mul_neg_of_pos_of_neg f e;simp at h;omega
   ·have:0≤cr v w*u.1:=Int.mul_nonneg b (by omega)
    omega
 ·omega
theorem Cv.Hh (hA:Cv n A) {u:aB} (hu:Up u) (h1:cr u (ed A 0)=0) (h2:cr u (ed A 1)=0):False:=by
 have t:=hA.oP (i:=0) (by have:=hA.n3; omega);rw [show 0+1=1 from rfl] at t;generalize ed A 0=a at *
 generalize ed A 1=b at *
 have i1:cr a b*u.2.1=cr u b*a.2.1 - cr u a*b.2.1:=by unfold cr; grind
 have i2:cr a b*u.1=cr u b*a.1 - cr u a*b.1:=by unfold cr; grind
 rw [h1,h2] at i1 i2;simp only [Int.zero_mul,Int.sub_self] at i1 i2;rcases hu with f | ⟨f,g⟩
 ·have:=Int.mul_pos t f; omega
 ·have:=Int.mul_pos t g; omega
theorem DF (hA:Cv n A) (hC:Cv m C) {T:Nat} (P:Path n m A C T) {s t:Nat} (hs:s≤T) (ht:t≤T) (hu:Up (Dt n m A C s)) (hv:Dn (Dt n m A C t)) (h:cr (Dt n m A C s) (Dt n m A C t)=0)
  (e:cr (Dt n m A C t) (sb (Mt n m A C s) (Mt n m A C t))=0):False:=by
 have z:∀ i,i≤n→cr (Dt n m A C s) (sb (pl (A i) (C 0)) (Mt n m A C s))=0:=by
  intro i hi;refine flat hu hv h (De hA hC P hs hi (Nat.zero_le _)) ?_
  have:=De hA hC P ht hi (j:=0) (Nat.zero_le _);generalize Dt n m A C t=v at *
  unfold cr sb at *
  dsimp only at *
  grind
 have h3:=hA.n3;have z0:=z 0 (by omega);have z1:=z 1 (by omega);have z2:=z 2 (by omega);generalize Mt n m A C s=M at *
 refine hA.Hh hu ?_ ?_
 ·unfold ed
  generalize Dt n m A C s=u at *
  unfold cr sb pl at *
  dsimp only at *
  grind
 ·unfold ed
  generalize Dt n m A C s=u at *
  unfold cr sb pl at *
  dsimp only at *
  grind
theorem FV (hA:Cv n A) (hC:Cv m C) {T:Nat} (P:Path n m A C T) {t j:Nat} (ht:t≤T) (hj:j≤T):0≤cr (Dt n m A C t) (sb (Mt n m A C j) (Mt n m A C t)):=by
 have h:=P.inv j hj;exact De hA hC P ht h.xn h.ym
theorem EP (hA:Cv n A) (hC:Cv m C) {T:Nat} (P:Path n m A C T) {t:Nat} (ht:t+1<T):0<cr (Dt n m A C t) (Dt n m A C (t+1)):=by
 rcases Gz hA hC P ht with ⟨a,b⟩ | ⟨_,_,z⟩ | ⟨_,_,z⟩
 ·have w:=FV hA hC P (t:=t) (j:=t+2) (by omega) (by omega)
  have e1:=qU (n:=n) (m:=m) (A:=A) (C:=C) t;have e2:=qU (n:=n) (m:=m) (A:=A) (C:=C) (t+1);have w2:0≤cr (Dt n m A C t) (Dt n m A C (t+1)):=by
   rw [e2,p5 _ (Mt n m A C t) _ _ e1]; exact w
  rcases Int.lt_or_le 0 (cr (Dt n m A C t) (Dt n m A C (t+1))) with c | c
  ·exact c
  ·exfalso
   have c0:cr (Dt n m A C t) (Dt n m A C (t+1))=0:=by omega
   refine DF hA hC P (by omega) (by omega) a b c0 ?_
   have:cr (Dt n m A C (t+1)) (sb (Mt n m A C t) (Mt n m A C (t+1)))=cr (Dt n m A C t) (Dt n m A C (t+1)):=by
    rw [e1]; generalize Dt n m A C (t+1)=v; unfold cr sb; dsimp only; grind
   rw [this,c0]
 ·exact z
 ·exact z
theorem yJ (hA:Cv n A) (hC:Cv m C) {T:Nat} (P:Path n m A C T):Mt n m A C T=Mt n m A C 0:=by
 unfold Mt mp;rw [P.fin];show pl (A n) (C m)=pl (A 0) (C 0);rw [hA.per,hC.per]
theorem EI (hA:Cv n A) (hC:Cv m C) {T:Nat} (P:Path n m A C T):∀ t j,t<T→j<T→j≠t→(j=0→t+1≠T)→j≠t+1→0<fb (Mt n m A C t) (Mt n m A C (t+1)) (Mt n m A C j) :=
 za (by have:=P.ge; have:=hA.n3; omega) (fun t _=>qU t) (yJ hA hC P) (fun t j ht hj=>FV hA hC P (by omega) hj) (fun t ht=>Gz hA hC P ht) (fun t ht=>EP hA hC P ht) (DO hA hC P) (EN hA hC P)
end
end Go.Proofs.T1
namespace Go.Proofs.T1
open Go Go.Sx
def gy (l:List aB) (i0 i:Nat):aB:=q l (if (i0:Int)+i<len l then (i0:Int)+i else (i0:Int)+i - len l)
def AB (l:List aB) (i0:Nat):Prop:=(i0:Int)<len l∧∀ j,0≤j→j<len l→j≠i0→Up (sb (q l j) (q l i0))
theorem qH {l:List aB} (he:iz l) (h3:3≤len l) {i j:Int} (i0:0≤i) (i1:i<len l) (j0:0≤j) (j1:j<len l) (h:j≠i):q l j≠q l i:=by
 intro e
 by_cases c:j=nx (len l) i
 ·-- any third corner
  have hz:∀ r,0≤r→r<len l→r≠i→r≠nx (len l) i→False:=by
   intro r r0 r1 a b;have:=he i r i0 i1 r0 r1 a b;rw [← c,e] at this;unfold fb at this;simp at this
  by_cases c2:nx (len l) j=i
  ·unfold nx at c c2
   split at c <;> split at c2 <;> omega
  ·exact hz (nx (len l) j) (dK j0 j1).1 (dK j0 j1).2 c2 (by rw [← c]; unfold nx; split <;> omega)
 ·have:=he i j i0 i1 j0 j1 h c
  rw [e,sk] at this;omega
theorem Fj {u v:aB} (h:v≠u):Up (sb v u)∨Up (sb u v):=by
 obtain ⟨a,b,_⟩:=u;obtain ⟨c,d,_⟩:=v;have:¬ (c=a∧d=b):=fun g=>h (by rw [g.1,g.2]);unfold Up sb; dsimp only; omega
theorem FD {u v w:aB} (h:Up (sb u v)) (g:Up (sb v w)):Up (sb u w):=by
 unfold Up sb at *; dsimp only at *; omega
theorem lL (l:List aB) {i0 i:Nat} (h0:(i0:Int)<len l) (hi:(i:Int)<len l) :
  ∃ r,0≤r∧r<len l∧gy l i0 i=q l r∧gy l i0 (i+1)=q l (nx (len l) r)∧r=(if (i0:Int)+i<len l then (i0:Int)+i else (i0:Int)+i - len l):=by
 refine ⟨if (i0:Int)+i<len l then (i0:Int)+i else (i0:Int)+i - len l,by split <;> omega,by split <;> omega,rfl,?_,rfl⟩;unfold gy;congr 1;unfold nx
 push_cast
 split <;> split <;> split <;> omega
theorem sN {l:List aB} (he:iz l) (h3:3≤len l) {i0:Nat} (h:AB l i0):Cv l.length (gy l i0):=by
 have hl:len l=(l.length:Int):=rfl;obtain ⟨h0,h1⟩:=h;refine ⟨by omega,?_,?_,?_⟩
 ·unfold gy; congr 1; split <;> split <;> omega
 ·intro i j hi hj n1 n2 n3
  obtain ⟨r,r0,r1,e1,e2,e3⟩:=lL l (i0:=i0) (i:=i) h0 (by omega);obtain ⟨s,s0,s1,f1,f2,f3⟩:=lL l (i0:=i0) (i:=j) h0 (by omega);rw [e1,e2,f1];have n4:s≠r:=by split at e3 <;> split at f3 <;> omega
  refine he r s r0 r1 s0 s1 n4 ?_
  unfold nx;split at e3 <;> split at f3 <;> split <;> omega
 ·intro j j0 hj
  obtain ⟨s,s0,s1,f1,f2,f3⟩:=lL l (i0:=i0) (i:=j) h0 (by omega);have e0:gy l i0 0=q l i0:=by unfold gy; congr 1; split <;> omega
  rw [f1,e0];exact h1 s s0 s1 (by split at f3 <;> omega)
theorem pU {l:List aB} {i0:Nat} (h0:(i0:Int)<len l) {r:Int} (r0:0≤r) (r1:r<len l):∃ i:Nat,i<l.length∧gy l i0 i=q l r:=by
 have hl:len l=(l.length:Int):=rfl
 by_cases c:(i0:Int)≤r
 ·refine ⟨(r - i0).toNat,by omega,?_⟩
  unfold gy; congr 1; split <;> omega
 ·refine ⟨(r - i0+len l).toNat,by omega,?_⟩
  unfold gy; congr 1; split <;> omega
def gm (l:List aB):List aB:=l.map ng
theorem iL (l:List aB):len (gm l)=len l:=by unfold len gm; simp
theorem lu {l:List aB} {i:Int} (h0:0≤i) (h1:i<len l):q (gm l) i=ng (q l i):=by
 obtain ⟨i,rfl⟩:=Int.eq_ofNat_of_zero_le h0;have hi:i<l.length:=by unfold len at h1; omega
 show (gm l).getD i bK=ng (l.getD i bK);rw [List.getD_eq_getElem?_getD,List.getD_eq_getElem?_getD];unfold gm;rw [List.getElem?_map,List.getElem?_eq_getElem hi];rfl
theorem E9 (a b p:aB):fb (ng a) (ng b) (ng p)=fb a b p:=by unfold fb ng; dsimp only; grind
theorem mZ {l:List aB} (he:iz l):iz (gm l):=by
 intro i j i0 i1 j0 j1 n1 n2;rw [iL] at *
 rw [lu i0 i1,lu j0 j1,lu (dK i0 i1).1 (dK i0 i1).2,E9];exact he i j i0 i1 j0 j1 n1 n2
def uH (T:Nat) (M:Nat→aB):List aB:=(List.range T).map M
theorem lh (T:Nat) (M:Nat→aB):len (uH T M)=T:=by unfold len uH; simp
theorem mJ {T:Nat} {M:Nat→aB} {i:Int} (h0:0≤i) (h1:i<T):q (uH T M) i=M i.toNat:=by
 obtain ⟨i,rfl⟩:=Int.eq_ofNat_of_zero_le h0;show (uH T M).getD i bK=_;rw [List.getD_eq_getElem?_getD];unfold uH;rw [List.getElem?_map,List.getElem?_range (by omega)];rfl
theorem xh {T:Nat} {M:Nat→aB} (hT:1≤T) (per:M T=M 0) (h:∀ t j,t<T→j<T→j≠t→(j=0→t+1≠T)→j≠t+1→0<fb (M t) (M (t+1)) (M j)):iz (uH T M):=by
 intro i j i0 i1 j0 j1 n1 n2;rw [lh] at *
 have hn:=dK i0 i1;rw [mJ i0 i1,mJ j0 j1,mJ hn.1 hn.2];have e:M (nx (T:Int) i).toNat=M (i.toNat+1):=by
  unfold nx at *
  split
  ·rename_i c
   rw [show i.toNat+1=T by omega,per]; rfl
  ·congr 1; omega
 rw [e];unfold nx at n2;exact h i.toNat j.toNat (by omega) (by omega) (by omega) (by intro a b; split at n2 <;> omega) (by intro a; split at n2 <;> omega)
def hs (a b:aB) (X Y w:Int):Int:=(b.1 - a.1)*(Y - w*a.2.1) - (b.2.1 - a.2.1)*(X - w*a.1)
def x6 (l:List aB) (X Y w:Int):Prop:=∀ i,0≤i→i<len l→0≤hs (q l i) (q l (nx (len l) i)) X Y w
theorem Cn (a b p:aB):hs a b p.1 p.2.1 1=fb a b p:=by unfold hs fb; grind
theorem BI (a b x y z:aB) (α β γ:Int):hs a b (α*x.1+β*y.1+γ*z.1) (α*x.2.1+β*y.2.1+γ*z.2.1) (α+β+γ)=α*fb a b x+β*fb a b y+γ*fb a b z:=by unfold hs fb; grind
theorem rG {l:List aB} (he:iz l) {x y z:Int} (hx:0≤x∧x<len l) (hy:0≤y∧y<len l) (hz:0≤z∧z<len l) {α β γ:Int} (a:0≤α) (b:0≤β) (c:0≤γ) :
  x6 l (α*(q l x).1+β*(q l y).1+γ*(q l z).1) (α*(q l x).2.1+β*(q l y).2.1+γ*(q l z).2.1) (α+β+γ):=by
 intro i i0 i1;rw [BI];have h1:=Int.mul_nonneg a (nU he i x i0 i1 hx.1 hx.2);have h2:=Int.mul_nonneg b (nU he i y i0 i1 hy.1 hy.2);have h3:=Int.mul_nonneg c (nU he i z i0 i1 hz.1 hz.2);omega
def jV (a b:List aB):Prop:=∀ i,0≤i→i<len a→∃ j,0≤j∧j<len b∧0≤fb (q a i) (q a (nx (len a) i)) (q b j)
structure DS (a b l:List aB):Prop where
 edge:iz l
 len3:3≤len l
 le:len l≤len a+len b
 dif:∀ t,0≤t→t<len l→∃ i j,(0≤i∧i<len a)∧(0≤j∧j<len b)∧q l t=sb (q a i) (q b j)
 all:∀ t i j,0≤t→t<len l→0≤i→i<len a→0≤j→j<len b→0≤fb (q l t) (q l (nx (len l) t)) (sb (q a i) (q b j))
 zero:jV a b→jV b a→pY l iF
theorem D9 (u v:aB):pl u (ng v)=sb u v:=by unfold pl ng sb; rfl
theorem FB {a b:List aB} (ha:iz a) (a3:3≤len a) (hb:iz b) (b3:3≤len b) {i0 k0:Nat} (hi:AB a i0) (hk:AB (gm b) k0) {T:Nat}
  (P:Path a.length b.length (gy a i0) (gy (gm b) k0) T):DS a b (uH T (Mt a.length b.length (gy a i0) (gy (gm b) k0))):=by
 have hA:=sN ha a3 hi;have lb:(gm b).length=b.length:=by unfold gm; simp
 have hC:=sN (mZ hb) (by rw [iL]; exact b3) hk;rw [lb] at hC;have la:len a=(a.length:Int):=rfl;have lbb:len b=(b.length:Int):=rfl;have hge:=P.ge;have hle:=P.le;have k1:=hk.1;rw [iL] at k1;have eA:∀ i,i≤a.length→∃ r,0≤r∧r<len a∧gy a i0 i=q a r:=by
  intro i h
  by_cases c:i=a.length
  ·rw [c,hA.per]
   obtain ⟨r,r0,r1,e,_⟩:=lL a (i0:=i0) (i:=0) hi.1 (by omega);exact ⟨r,r0,r1,e⟩
  ·obtain ⟨r,r0,r1,e,_⟩:=lL a (i0:=i0) (i:=i) hi.1 (by omega)
   exact ⟨r,r0,r1,e⟩
 have eC:∀ i,i≤b.length→∃ r,0≤r∧r<len b∧gy (gm b) k0 i=ng (q b r):=by
  intro i h;have H:∀ i,i<b.length→∃ r,0≤r∧r<len b∧gy (gm b) k0 i=ng (q b r):=by
   intro i h;obtain ⟨r,r0,r1,e,_⟩:=lL (gm b) (i0:=k0) (i:=i) hk.1 (by rw [iL]; omega);rw [iL] at r1;rw [lu r0 r1] at e;exact ⟨r,r0,r1,e⟩
  by_cases c:i=b.length
  ·rw [c,hC.per]; exact H 0 (by omega)
  ·exact H i (by omega)
 refine ⟨xh (by omega) (yJ hA hC P) (EI hA hC P),by rw [lh]; omega,by rw [lh]; omega,?_,?_,?_⟩
 ·intro t t0 t1
  rw [lh] at t1;rw [mJ t0 t1];have h:=P.inv t.toNat (by omega);obtain ⟨r,r0,r1,e⟩:=eA _ h.xn;obtain ⟨s,s0,s1,f⟩:=eC _ h.ym;refine ⟨r,s,⟨r0,r1⟩,⟨s0,s1⟩,?_⟩;unfold Mt mp;rw [e,f,D9]
 ·intro t i j t0 t1 i0' i1 j0 j1
  have hn:=dK t0 t1;rw [lh] at *
  rw [mJ t0 t1,mJ hn.1 hn.2];obtain ⟨r,r1,e⟩:=pU (i0:=i0) hi.1 i0' i1;obtain ⟨s,s1,f⟩:=pU (l:=gm b) (i0:=k0) hk.1 j0 (by rw [iL]; exact j1);rw [lu j0 j1] at f;have h:=De hA hC P (t:=t.toNat) (by omega) (i:=r) (j:=s) (by omega) (by omega);rw [e,f,D9] at h;have e2:Mt a.length b.length (gy a i0) (gy (gm b) k0) (nx (T:Int) t).toNat=Mt a.length b.length (gy a i0) (gy (gm b) k0) (t.toNat+1):=by
   unfold nx;split
   ·rename_i c
    rw [show t.toNat+1=T by omega,yJ hA hC P]; rfl
   ·congr 1; omega
  rw [e2,sM,← qU];exact h
 ·intro n1 n2 t t0 t1
  have hn:=dK t0 t1;rw [lh] at *
  rw [mJ t0 t1,mJ hn.1 hn.2];have e2:Mt a.length b.length (gy a i0) (gy (gm b) k0) (nx (T:Int) t).toNat=Mt a.length b.length (gy a i0) (gy (gm b) k0) (t.toNat+1):=by
   unfold nx;split
   ·rename_i c
    rw [show t.toNat+1=T by omega,yJ hA hC P]; rfl
   ·congr 1; omega
  rw [e2,sM,← qU];have h:=P.inv t.toNat (by omega);unfold Dt Mt mp dd;generalize jR a.length b.length (gy a i0) (gy (gm b) k0) t.toNat=s at *
  obtain ⟨x,y⟩:=s;dsimp only at *
  rw [pR];have p1:0≤cr (if Fi a.length b.length (gy a i0) (gy (gm b) k0) x y then ed (gy a i0) x else iF) (sb iF (pl (gy a i0 x) (gy (gm b) k0 y))):=by
   by_cases f:Fi a.length b.length (gy a i0) (gy (gm b) k0) x y
   ·rw [if_pos f]
    have fx:=f.1;obtain ⟨r,r0,r1,e1,e2,_⟩:=lL a (i0:=i0) (i:=x) hi.1 (by omega);obtain ⟨j,j0,j1,hj⟩:=n1 r r0 r1;obtain ⟨s,s1,g⟩:=pU (l:=gm b) (i0:=k0) hk.1 j0 (by rw [iL]; exact j1);rw [lu j0 j1] at g;rw [lb] at s1;have x1:=ext hA hC h f (j:=s) (by omega);rw [g] at x1;rw [sM,← e1,← e2] at hj;have hj':0≤cr (ed (gy a i0) x) (sb (q b j) (gy a i0 x)):=hj;generalize ed (gy a i0) x=e at *
    generalize gy a i0 x=u at *
    generalize gy (gm b) k0 y=v at *
    generalize q b j=z at *
    unfold cr sb ng at *
    unfold iF pl;dsimp only at *
    grind
   ·rw [if_neg f,tj]; exact Int.le_refl 0
  have p2:0≤cr (if Fi b.length a.length (gy (gm b) k0) (gy a i0) y x then ed (gy (gm b) k0) y else iF) (sb iF (pl (gy a i0 x) (gy (gm b) k0 y))):=by
   by_cases f:Fi b.length a.length (gy (gm b) k0) (gy a i0) y x
   ·rw [if_pos f]
    have fy:=f.1;obtain ⟨r,r0,r1,e1,e2,_⟩:=lL (gm b) (i0:=k0) (i:=y) hk.1 (by rw [iL]; omega);rw [iL] at r1 e2;have hn:=dK r0 r1;rw [lu r0 r1] at e1;rw [lu hn.1 hn.2] at e2;obtain ⟨j,j0,j1,hj⟩:=n2 r r0 r1;obtain ⟨s,s1,g⟩:=pU (i0:=i0) hi.1 j0 j1;have x1:=ext hC hA h.sym f (j:=s) (by omega);rw [g] at x1;have ee:ed (gy (gm b) k0) y=sb (ng (q b (nx (len b) r))) (ng (q b r)):=by unfold ed; rw [e1,e2]
    rw [ee] at x1 ⊢;rw [e1];generalize q b (nx (len b) r)=c at *
    generalize gy a i0 x=u at *
    generalize q b r=v at *
    generalize q a j=z at *
    unfold fb at hj;unfold cr sb ng at *
    unfold iF pl;dsimp only at *
    grind
   ·rw [if_neg f,tj]; exact Int.le_refl 0
  omega
theorem common {a b l:List aB} (ha:iz a) (hb:iz b) (h:DS a b l) (z:pY l iF):∃ X Y w,0<w∧x6 a X Y w∧x6 b X Y w:=by
 obtain ⟨i,i2,i1,c1,c2,c3⟩:=Bz h.len3 z;have ht:=rZ h.edge 0 (i - 1) i (by omega) (by omega) (by omega) i1;obtain ⟨x0,y0,hx0,hy0,e0⟩:=h.dif 0 (by omega) (by omega);obtain ⟨x1,y1,hx1,hy1,e1⟩:=h.dif (i - 1) (by omega) (by omega);obtain ⟨x2,y2,hx2,hy2,e2⟩:=h.dif i (by omega) i1;have s:fb (q l (i - 1)) (q l i) iF+fb (q l i) (q l 0) iF+fb (q l 0) (q l (i - 1)) iF=fb (q l 0) (q l (i - 1)) (q l i):=by unfold fb iF; grind
 have sx:fb (q l (i - 1)) (q l i) iF*(q l 0).1+fb (q l i) (q l 0) iF*(q l (i - 1)).1+fb (q l 0) (q l (i - 1)) iF*(q l i).1=0:=by unfold fb iF; grind
 have sy:fb (q l (i - 1)) (q l i) iF*(q l 0).2.1+fb (q l i) (q l 0) iF*(q l (i - 1)).2.1+fb (q l 0) (q l (i - 1)) iF*(q l i).2.1=0:=by unfold fb iF; grind
 have A:=rG ha hx0 hx1 hx2 c2 c3 c1;have B:=rG hb hy0 hy1 hy2 c2 c3 c1;rw [s] at A B;refine ⟨_,_,_,ht,A,?_⟩;rw [e0,e1,e2] at sx sy;rw [e0,e1,e2] at A B ⊢;generalize fb (sb (q a x1) (q b y1)) (sb (q a x2) (q b y2)) iF=α at *
 generalize fb (sb (q a x2) (q b y2)) (sb (q a x0) (q b y0)) iF=β at *
 generalize fb (sb (q a x0) (q b y0)) (sb (q a x1) (q b y1)) iF=γ at *
 unfold sb at sx sy;dsimp only at sx sy;have g1:α*(q a x0).1+β*(q a x1).1+γ*(q a x2).1=α*(q b y0).1+β*(q b y1).1+γ*(q b y2).1:=by grind
 have g2:α*(q a x0).2.1+β*(q a x1).2.1+γ*(q a x2).2.1=α*(q b y0).2.1+β*(q b y1).2.1+γ*(q b y2).2.1:=by grind
 rw [g1,g2];exact B
end Go.Proofs.T1
namespace Go.Proofs.T1
open Go Go.Sx
theorem Cb (a b:aB) (s t X Y w U V z:Int):hs a b (s*X+t*U) (s*Y+t*V) (s*w+t*z)=s*hs a b X Y w+t*hs a b U V z:=by unfold hs; grind
theorem iC {a b c:Int} (h:0<c) (g:c*a≤c*b):a≤b:=Int.le_of_mul_le_mul_left g h
theorem zQ (f g:Nat→Int) (P:Nat→Prop) (hg:∀ k,P k→0<g k):∀ d:Nat,(∀ k,k<d→¬ P k)∨∃ k,k<d∧P k∧∀ j,j<d→P j→f k*g j≤f j*g k:=by
 intro d
 induction d with
 | zero=>exact Or.inl fun k h=>by omega
 | succ d ih =>
  by_cases p:P d
  ·rcases ih with h | ⟨k,k1,k2,k3⟩
   ·refine Or.inr ⟨d,by omega,p,fun j j1 j2=>?_⟩
    by_cases e:j=d
    ·rw [e]; exact Int.le_refl _
    ·exact absurd j2 (h j (by omega))
   ·rcases Int.lt_or_le (f d*g k) (f k*g d) with c | c
    ·refine Or.inr ⟨d,by omega,p,fun j j1 j2=>?_⟩
     by_cases e:j=d
     ·rw [e]; exact Int.le_refl _
     ·have h1:=k3 j (by omega) j2
      have h2:=Int.mul_le_mul_of_nonneg_right h1 (Int.le_of_lt (hg d p));have h3:=Int.mul_le_mul_of_nonneg_right (Int.le_of_lt c) (Int.le_of_lt (hg j j2));refine iC (hg k k2) ?_
      have e1:g k*(f d*g j)=f d*g k*g j:=by grind
      have e2:g k*(f j*g d)=f j*g k*g d:=by grind
      have e3:f k*g d*g j=f k*g j*g d:=by grind
      omega
    ·refine Or.inr ⟨k,by omega,k2,fun j j1 j2=>?_⟩
     by_cases e:j=d
     ·rw [e]; exact c
     ·exact k3 j (by omega) j2
  ·rcases ih with h | ⟨k,k1,k2,k3⟩
   ·refine Or.inl fun k hk=>?_
    by_cases e:k=d
    ·rw [e]; exact p
    ·exact h k (by omega)
   ·refine Or.inr ⟨k,by omega,k2,fun j j1 j2=>?_⟩
    by_cases e:j=d
    ·rw [e] at j2; exact absurd j2 p
    ·exact k3 j (by omega) j2
theorem Ak {l:List aB} {X Y w U V z:Int} (hw:0<w) (hz:0≤z) (hin:x6 l X Y w) (hout:¬ x6 l U V z) :
  ∃ k α β,0≤k∧k<len l∧0≤α∧0≤β∧0<α*w+β*z∧x6 l (α*X+β*U) (α*Y+β*V) (α*w+β*z)∧hs (q l k) (q l (nx (len l) k)) (α*X+β*U) (α*Y+β*V) (α*w+β*z)=0:=by
 have hl:len l=(l.length:Int):=rfl;rcases zQ (fun k=>hs (q l k) (q l (nx (len l) k)) X Y w) (fun k=>- hs (q l k) (q l (nx (len l) k)) U V z) (fun k=>hs (q l k) (q l (nx (len l) k)) U V z<0) (fun k h=>by omega) l.length with h | ⟨k,k1,k2,k3⟩
 ·exfalso
  refine hout fun i i0 i1=>?_
  have:=h i.toNat (by omega);rw [show ((i.toNat:Nat):Int)=i by omega] at this;omega
 ·
  have hk:=hin k (by omega) (by omega);refine ⟨k,- hs (q l k) (q l (nx (len l) k)) U V z,hs (q l k) (q l (nx (len l) k)) X Y w,by omega,by omega,by omega,hk,?_,?_,?_⟩
  ·have:=Int.mul_pos (a:=- hs (q l k) (q l (nx (len l) k)) U V z) (by omega) hw
   have:=Int.mul_nonneg hk hz;omega
  ·intro j j0 j1
   rw [Cb];have hj:=hin j j0 j1;rcases Int.lt_or_le (hs (q l j) (q l (nx (len l) j)) U V z) 0 with c | c
   ·have h:=k3 j.toNat (by omega) (by rw [show ((j.toNat:Nat):Int)=j by omega]; exact c)
    rw [show ((j.toNat:Nat):Int)=j by omega] at h;rw [Int.mul_comm (- hs (q l k) (q l (nx (len l) k)) U V z)];rw [Int.mul_neg] at h;omega
   ·have:=Int.mul_nonneg (a:=- hs (q l k) (q l (nx (len l) k)) U V z) (by omega) hj
    have:=Int.mul_nonneg hk c;omega
  ·rw [Cb]; rw [Int.neg_mul,Int.mul_comm]; omega
def Ea (a b:aB) (X Y w:Int):Prop:=∃ α β D,0≤α∧0≤β∧0<D∧D*w=α+β∧D*X=α*a.1+β*b.1∧D*Y=α*a.2.1+β*b.2.1
def pv (n i:Int):Int:=if i=0 then n - 1 else i - 1
theorem qX {n i:Int} (h0:0≤i) (h1:i<n):0≤pv n i∧pv n i<n∧nx n (pv n i)=i:=by unfold pv nx; split <;> split <;> omega
theorem AG (p a b c:aB) (X Y w:Int) (z:hs a b X Y w=0) :
  fb p a b*fb a b c*w=hs b c X Y w*fb p a b+hs p a X Y w*fb a b c ∧
  fb p a b*fb a b c*X=hs b c X Y w*fb p a b*a.1+hs p a X Y w*fb a b c*b.1 ∧
  fb p a b*fb a b c*Y=hs b c X Y w*fb p a b*a.2.1+hs p a X Y w*fb a b c*b.2.1:=by
 have k1:fb p a b*fb a b c*w+hs a b X Y w*cr (sb a p) (sb c b)=hs b c X Y w*fb p a b+hs p a X Y w*fb a b c:=by unfold hs fb cr sb; grind
 have kx:fb p a b*(X - w*a.1)=hs p a X Y w*(b.1 - a.1) - hs a b X Y w*(a.1 - p.1):=by unfold hs fb; grind
 have ky:fb p a b*(Y - w*a.2.1)=hs p a X Y w*(b.2.1 - a.2.1) - hs a b X Y w*(a.2.1 - p.2.1):=by unfold hs fb; grind
 rw [z] at k1 kx ky;generalize hs p a X Y w=s at *
 generalize hs b c X Y w=t at *
 generalize fb p a b=d at *
 generalize fb a b c=e at *
 refine ⟨by grind,?_,?_⟩
 ·have:d*e*X=e*(s*(b.1 - a.1))+(d*e*w)*a.1:=by grind
  grind
 ·have:d*e*Y=e*(s*(b.2.1 - a.2.1))+(d*e*w)*a.2.1:=by grind
  grind
theorem Dr {l:List aB} (he:iz l) (h3:3≤len l) {X Y w k:Int} (k0:0≤k) (k1:k<len l) (h:x6 l X Y w) (z:hs (q l k) (q l (nx (len l) k)) X Y w=0):Ea (q l k) (q l (nx (len l) k)) X Y w:=by
 have hp:=qX k0 k1;have hn:=dK k0 k1;have hn2:=dK hn.1 hn.2;have d1:=he (pv (len l) k) (nx (len l) k) hp.1 hp.2.1 hn.1 hn.2 (by unfold pv nx; split <;> split <;> omega) (by rw [hp.2.2]; unfold nx; split <;> omega);rw [hp.2.2] at d1;have d2:=he k (nx (len l) (nx (len l) k)) k0 k1 hn2.1 hn2.2 (by unfold nx; split <;> split <;> omega) (by unfold nx; split <;> split <;> omega);have s1:=h (pv (len l) k) hp.1 hp.2.1;rw [hp.2.2] at s1;have s2:=h (nx (len l) k) hn.1 hn.2;obtain ⟨e1,e2,e3⟩:=AG (q l (pv (len l) k)) (q l k) (q l (nx (len l) k)) (q l (nx (len l) (nx (len l) k))) X Y w z;exact ⟨_,_,_,Int.mul_nonneg s2 (Int.le_of_lt d1),Int.mul_nonneg s1 (Int.le_of_lt d2),Int.mul_pos d1 d2,e1,e2,e3⟩
theorem xN {l:List aB} {p:aB}:x6 l p.1 p.2.1 1↔pY l p :=
 ⟨fun h i i0 i1=>by rw [← Cn]; exact h i i0 i1,fun h i i0 i1=>by rw [Cn]; exact h i i0 i1⟩
def FM (w:Int) (l:List aB):List aB:=l.map fun p=>(w*p.1,w*p.2.1,())
theorem tA (w:Int) (l:List aB):len (FM w l)=len l:=by unfold len FM; simp
theorem oV (w:Int) {l:List aB} {i:Int} (h0:0≤i) (h1:i<len l):q (FM w l) i=(w*(q l i).1,w*(q l i).2.1,()):=by
 obtain ⟨i,rfl⟩:=Int.eq_ofNat_of_zero_le h0;have hi:i<l.length:=by unfold len at h1; omega
 show (FM w l).getD i bK=(w*(l.getD i bK).1,w*(l.getD i bK).2.1,());rw [List.getD_eq_getElem?_getD,List.getD_eq_getElem?_getD];unfold FM;rw [List.getElem?_map,List.getElem?_eq_getElem hi];rfl
theorem C8 (w:Int) (a b:aB) (X Y:Int):fb (w*a.1,w*a.2.1,()) (w*b.1,w*b.2.1,()) (X,Y,())=w*hs a b X Y w:=by unfold fb hs; dsimp only; grind
theorem Bp {l:List aB} (he:iz l) (h3:3≤len l) {X Y w:Int} (hw:0<w) (h:x6 l X Y w) :
  ∃ i α β γ,2≤i∧i<len l∧0≤α∧0≤β∧0≤γ∧0<α+β+γ∧(α+β+γ)*X=w*(α*(q l 0).1+β*(q l (i - 1)).1+γ*(q l i).1)∧(α+β+γ)*Y=w*(α*(q l 0).2.1+β*(q l (i - 1)).2.1+γ*(q l i).2.1):=by
 have hin:pY (FM w l) (X,Y,()):=by
  intro i i0 i1;have hn:=dK i0 i1;rw [tA] at *
  rw [oV w i0 i1,oV w hn.1 hn.2,C8];exact Int.mul_nonneg (Int.le_of_lt hw) (h i i0 i1)
 obtain ⟨i,i2,i1,c1,c2,c3⟩:=Bz (by rw [tA]; exact h3) hin;rw [tA] at i1;rw [oV w (by omega) (by omega),oV w (by omega) (by omega)] at c1;rw [oV w (by omega) (by omega),oV w (by omega) (by omega)] at c2;rw [oV w (by omega) (by omega),oV w (by omega) (by omega)] at c3;have ht:=rZ he 0 (i - 1) i (by omega) (by omega) (by omega) i1;have S:∀ A B C:aB,fb (w*B.1,w*B.2.1,()) (w*C.1,w*C.2.1,()) (X,Y,())+fb (w*C.1,w*C.2.1,()) (w*A.1,w*A.2.1,()) (X,Y,())+fb (w*A.1,w*A.2.1,()) (w*B.1,w*B.2.1,()) (X,Y,())=w*w*fb A B C:=by intro A B C; unfold fb; dsimp only; grind
 have SX:∀ A B C:aB,(fb (w*B.1,w*B.2.1,()) (w*C.1,w*C.2.1,()) (X,Y,())+fb (w*C.1,w*C.2.1,()) (w*A.1,w*A.2.1,()) (X,Y,())+fb (w*A.1,w*A.2.1,()) (w*B.1,w*B.2.1,()) (X,Y,()))*X =
   w*(fb (w*B.1,w*B.2.1,()) (w*C.1,w*C.2.1,()) (X,Y,())*A.1+fb (w*C.1,w*C.2.1,()) (w*A.1,w*A.2.1,()) (X,Y,())*B.1+fb (w*A.1,w*A.2.1,()) (w*B.1,w*B.2.1,()) (X,Y,())*C.1):=by intro A B C; unfold fb; dsimp only; grind
 have SY:∀ A B C:aB,(fb (w*B.1,w*B.2.1,()) (w*C.1,w*C.2.1,()) (X,Y,())+fb (w*C.1,w*C.2.1,()) (w*A.1,w*A.2.1,()) (X,Y,())+fb (w*A.1,w*A.2.1,()) (w*B.1,w*B.2.1,()) (X,Y,()))*Y =
   w*(fb (w*B.1,w*B.2.1,()) (w*C.1,w*C.2.1,()) (X,Y,())*A.2.1+fb (w*C.1,w*C.2.1,()) (w*A.1,w*A.2.1,()) (X,Y,())*B.2.1+fb (w*A.1,w*A.2.1,()) (w*B.1,w*B.2.1,()) (X,Y,())*C.2.1):=by intro A B C; unfold fb; dsimp only; grind
 exact ⟨i,_,_,_,i2,i1,c2,c3,c1,by rw [S]; exact Int.mul_pos (Int.mul_pos hw hw) ht,SX _ _ _,SY _ _ _⟩
theorem nE {a b:List aB} (hb:iz b) (b3:3≤len b) {X Y w:Int} (hw:0<w) (h1:x6 a X Y w) (h2:x6 b X Y w):jV a b:=by
 intro i i0 i1;obtain ⟨m,α,β,γ,m2,m1,a0,b0,c0,s,ex,ey⟩:=Bp hb b3 hw h2;have h:=h1 i i0 i1;generalize q a i=u at *
 generalize q a (nx (len a) i)=v at *
 have e:(α+β+γ)*hs u v X Y w=w*(α*fb u v (q b 0)+β*fb u v (q b (m - 1))+γ*fb u v (q b m)):=by
  have:(α+β+γ)*hs u v X Y w=(v.1 - u.1)*((α+β+γ)*Y - (α+β+γ)*w*u.2.1) - (v.2.1 - u.2.1)*((α+β+γ)*X - (α+β+γ)*w*u.1):=by unfold hs; grind
  rw [this,ex,ey];unfold fb;grind
 have p:=Int.mul_nonneg (Int.le_of_lt s) h;rw [e] at p;have p':=mo hw p
 by_cases c1:0≤fb u v (q b 0)
 ·exact ⟨0,by omega,by omega,c1⟩
 by_cases c2:0≤fb u v (q b (m - 1))
 ·exact ⟨m - 1,by omega,by omega,c2⟩
 by_cases c3:0≤fb u v (q b m)
 ·exact ⟨m,by omega,by omega,c3⟩
 exfalso;have neg:∀ x t:Int,0≤x→¬ 0≤t→x*t≤-x:=by
  intro x t hx ht;have:=Int.mul_le_mul_of_nonneg_left (show t≤-1 by omega) hx;omega
 have:=neg _ _ a0 c1;have:=neg _ _ b0 c2;have:=neg _ _ c0 c3;omega
end Go.Proofs.T1
namespace Go.Proofs.T1
open Go Go.Sx
def GK (a b p:aB):Prop:=gA a.1 b.1≤p.1∧p.1≤imax a.1 b.1∧gA a.2.1 b.2.1≤p.2.1∧p.2.1≤imax a.2.1 b.2.1
def On (a b p:aB):Prop:=fb a b p=0∧GK a b p
def GJ (x y:Int):Prop:=(x<0∧0<y)∨(0<x∧y<0)
def Hb (a b c d:aB):Prop:=(GJ (fb a b c) (fb a b d)∧GJ (fb c d a) (fb c d b))∨On a b c∨On a b d∨On c d a∨On c d b
theorem GG {s t a b p:Int} (h0:0≤s) (h1:0≤t) (h2:0<s+t) (e:(s+t)*p=s*a+t*b):gA a b≤p∧p≤imax a b:=by
 have lo:∀ m,m≤a→m≤b→m≤p:=by
  intro m ha hb;refine iC h2 ?_
  have:=Int.mul_le_mul_of_nonneg_left ha h0;have:=Int.mul_le_mul_of_nonneg_left hb h1;rw [e,Int.add_mul]; omega
 have hi:∀ m,a≤m→b≤m→p≤m:=by
  intro m ha hb;refine iC h2 ?_
  have:=Int.mul_le_mul_of_nonneg_left ha h0;have:=Int.mul_le_mul_of_nonneg_left hb h1;rw [e,Int.add_mul]; omega
 exact ⟨lo _ (by unfold gA; split <;> omega) (by unfold gA; split <;> omega),hi _ (by unfold imax; split <;> omega) (by unfold imax; split <;> omega)⟩
theorem bx {a b p:aB} {s t:Int} (h0:0≤s) (h1:0≤t) (h2:0<s+t) (ex:(s+t)*p.1=s*a.1+t*b.1) (ey:(s+t)*p.2.1=s*a.2.1+t*b.2.1):GK a b p :=
 ⟨(GG h0 h1 h2 ex).1,(GG h0 h1 h2 ex).2,(GG h0 h1 h2 ey).1,(GG h0 h1 h2 ey).2⟩
theorem uD {a b:Int} (ha:0<a) (h:a*b=0):b=0:=by
 rcases Int.mul_eq_zero.1 h with g | g
 ·omega
 ·exact g
theorem sq_pos {x y:Int} (h:x≠0∨y≠0):0<x*x+y*y:=by
 have sq:∀ z:Int,0≤z*z∧(z≠0→0<z*z):=by
  intro z;rcases Int.lt_trichotomy z 0 with g | g | g
  ·have:=Int.mul_pos_of_neg_of_neg g g; omega
  ·subst g; simp
  ·have:=Int.mul_pos g g; omega
 have a:=sq x;have b:=sq y;rcases h with h | h
 ·have:=a.2 h; omega
 ·have:=b.2 h; omega
theorem kk {N u v e tc td:Int} (hN:0<N) (h1:N*u=tc*e) (h2:N*v=td*e):td*u=tc*v:=by
 have:N*(td*u - tc*v)=td*(N*u) - tc*(N*v):=by grind
 rw [h1,h2] at this;have:=uD hN (this.trans (by grind));omega
theorem DP {a b:aB}:Ea a b a.1 a.2.1 1∧Ea a b b.1 b.2.1 1 :=
 ⟨⟨1,0,1,by decide,by decide,by decide,by decide,by omega,by omega⟩,⟨0,1,1,by decide,by decide,by decide,by decide,by omega,by omega⟩⟩
theorem CY {l:List aB} (he:iz l) {X Y w i:Int} (i0:0≤i) (i1:i<len l) (h:Ea (q l i) (q l (nx (len l) i)) X Y w):x6 l X Y w:=by
 obtain ⟨α,β,D,h1,h2,h3,e1,e2,e3⟩:=h;intro j j0 j1;have hn:=dK i0 i1;refine mo h3 ?_
 have a:=Int.mul_nonneg h1 (nU he j i j0 j1 i0 i1);have b:=Int.mul_nonneg h2 (nU he j (nx (len l) i) j0 j1 hn.1 hn.2);generalize q l i=u at *
 generalize q l (nx (len l) i)=v at *
 generalize q l j=c at *
 generalize q l (nx (len l) j)=d at *
 have:D*hs c d X Y w=α*fb c d u+β*fb c d v:=by
  have:D*hs c d X Y w=(d.1 - c.1)*(D*Y - D*w*c.2.1) - (d.2.1 - c.2.1)*(D*X - D*w*c.1):=by unfold hs; grind
  rw [this,e1,e2,e3];unfold fb;grind
 rw [this]; omega
theorem DR {l:List aB} (he:iz l) (h3:3≤len l) {i:Int} (i0:0≤i) (i1:i<len l):q l i≠q l (nx (len l) i):=by
 have hn:=dK i0 i1;exact qH he h3 hn.1 hn.2 i0 i1 (by unfold nx; split <;> omega)
end Go.Proofs.T1
