import Derived.Test.YtipddonkkhjegaaGreatPlPoly
namespace Go.Proofs.T1
open Go Go.Sx
def sb (a b:ay):ay:=(a.1 - b.1,a.2.1 - b.2.1,())
def pl (a b:ay):ay:=(a.1+b.1,a.2.1+b.2.1,())
def ng (v:ay):ay:=(-v.1,-v.2.1,())
theorem oL {a b:ay} (h:a.1=b.1) (g:a.2.1=b.2.1):a=b:=by
 obtain ⟨x,y,_⟩:=a;obtain ⟨u,v,_⟩:=b;dsimp only at h g;rw [h,g]
theorem tE (a b p:ay):cV a b p=cr (sb b a) (sb p a):=rfl
def Up (v:ay):Prop:=0<v.2.1∨(v.2.1=0∧0<v.1)
def Dn (v:ay):Prop:=v.2.1<0∨(v.2.1=0∧v.1<0)
theorem gq {v:ay} (h:Up v) (g:Dn v):False:=by unfold Up at h; unfold Dn at g; omega
theorem nB {v:ay} (h:Dn v):Up (ng v):=by unfold Dn at h; unfold Up ng; dsimp only; omega
theorem qm {v:ay} (h:Up v):Dn (ng v):=by unfold Up at h; unfold Dn ng; dsimp only; omega
theorem gU (u v:ay):cr v u=- cr u v:=by unfold cr; grind
theorem kL (u v:ay):cr (ng u) v=- cr u v:=by unfold cr ng; grind
theorem sL (u v:ay):cr u (ng v)=- cr u v:=by unfold cr ng; grind
theorem jM (u v:ay):cr (ng u) (ng v)=cr u v:=by unfold cr ng; grind
theorem yj (u:ay):cr u u=0:=by unfold cr; grind
theorem pJ (u v w:ay):cr (pl u v) w=cr u w+cr v w:=by unfold cr pl; grind
theorem yz (u v w:ay):cr w (pl u v)=cr w u+cr w v:=by unfold cr pl; grind
theorem Gc {a b c d e f:Int} (hu:0<b∨(b=0∧0<a)) (hv:0<d∨(d=0∧0<c)) (hw:0<f∨(f=0∧0<e)) (h1:0≤a*d - b*c) (h2:0≤c*f - d*e) (h3:0<a*d - b*c∨0<c*f - d*e):0<a*f - b*e:=by
 have key:d*(a*f - b*e)=(c*f - d*e)*b+(a*d - b*c)*f:=by grind
 rcases hv with hd | ⟨hd,hc⟩
 ·rcases hu with hb | ⟨hb,ha⟩
  ·rcases hw with hf | ⟨hf,he⟩
   ·refine jJ hd ?_
    rw [key];rcases h3 with h3 | h3
    ·have:=Int.mul_nonneg h2 (Int.le_of_lt hb); have:=Int.mul_pos h3 hf; omega
    ·have:=Int.mul_pos h3 hb; have:=Int.mul_nonneg h1 (Int.le_of_lt hf); omega
   ·subst hf
    have:=Int.mul_pos hd he;simp at h2 h3;omega
  ·subst hb
   rcases hw with hf | ⟨hf,he⟩
   ·have:=Int.mul_pos ha hf; simp; omega
   ·subst hf
    have:=Int.mul_pos hd he;simp at h2 h3;omega
 ·subst hd
  rcases hu with hb | ⟨hb,ha⟩
  ·have:=Int.mul_pos hb hc; simp at h1; omega
  ·subst hb
   rcases hw with hf | ⟨hf,he⟩
   ·have:=Int.mul_pos ha hf; simp; omega
   ·subst hf
    simp at h3
theorem xY {u v w:ay} (hu:Up u) (hv:Up v) (hw:Up w) (h1:0≤cr u v) (h2:0≤cr v w) (h3:0<cr u v∨0<cr v w):0<cr u w:=Gc hu hv hw h1 h2 h3
theorem Cf {u v w:ay} (hu:Dn u) (hv:Dn v) (hw:Dn w) (h1:0≤cr u v) (h2:0≤cr v w) (h3:0<cr u v∨0<cr v w):0<cr u w:=by
 have:=xY (nB hu) (nB hv) (nB hw) (by rw [jM]; exact h1) (by rw [jM]; exact h2) (by rw [jM,jM]; exact h3)
 rwa [jM] at this
theorem K2 {f e g:ay} (hf:Up f) (he:Up e) (hg:Dn g) (h1:0≤cr f e) (h2:0<cr f g):0<cr e g:=by
 have:=xY (nB hg) hf he (by rw [kL,← gU]; omega) h1 (Or.inl (by rw [kL,← gU]; omega));rw [kL,← gU] at this; exact this
theorem Hu {f e g:ay} (hf:Dn f) (he:Dn e) (hg:Up g) (h1:0≤cr f e) (h2:0<cr f g):0<cr e g:=by
 have:=K2 (nB hf) (nB he) (qm hg) (by rw [jM]; exact h1) (by rw [jM]; exact h2)
 rwa [jM] at this
theorem K3 {f e g:ay} (hf:Up f) (he:Dn e) (hg:Dn g) (h1:0<cr f g) (h2:0≤cr e g):0<cr f e:=by
 have:=Cf he hg (qm hf) h2 (by rw [sL,← gU]; omega) (Or.inr (by rw [sL,← gU]; omega));rw [sL,← gU] at this; exact this
theorem HA {f e g:ay} (hf:Dn f) (he:Up e) (hg:Up g) (h1:0<cr f g) (h2:0≤cr e g):0<cr f e:=by
 have:=K3 (nB hf) (qm he) (qm hg) (by rw [jM]; exact h1) (by rw [jM]; exact h2)
 rwa [jM] at this
def Lt (u v:ay):Prop:=(Up u∧Dn v)∨(Up u∧Up v∧0<cr u v)∨(Dn u∧Dn v∧0<cr u v)
def Le (u v:ay):Prop:=(Up u∧Dn v)∨(Up u∧Up v∧0≤cr u v)∨(Dn u∧Dn v∧0≤cr u v)
theorem Gj {u v:ay} (h:Lt u v):Le u v:=by
 rcases h with h | ⟨a,b,c⟩ | ⟨a,b,c⟩
 ·exact Or.inl h
 ·exact Or.inr (Or.inl ⟨a,b,by omega⟩)
 ·exact Or.inr (Or.inr ⟨a,b,by omega⟩)
theorem B4 {u v w:ay} (h:Le u v) (g:Lt v w):Lt u w:=by
 rcases h with ⟨a,b⟩ | ⟨a,b,c⟩ | ⟨a,b,c⟩ <;> rcases g with ⟨x,y⟩ | ⟨x,y,z⟩ | ⟨x,y,z⟩
 ·exact (gq x b).elim
 ·exact (gq x b).elim
 ·exact Or.inl ⟨a,y⟩
 ·exact Or.inl ⟨a,y⟩
 ·exact Or.inr (Or.inl ⟨a,y,xY a b y c (by omega) (Or.inr z)⟩)
 ·exact (gq b x).elim
 ·exact (gq x b).elim
 ·exact (gq x b).elim
 ·exact Or.inr (Or.inr ⟨a,y,Cf a b y c (by omega) (Or.inr z)⟩)
theorem EI {u v w:ay} (h:Lt u v) (g:Lt v w):Lt u w:=B4 (Gj h) g
theorem yb {u v w:ay} (h1:Lt u w) (h2:Lt v w) (h:(Up u∧Up v)∨(Dn u∧Dn v)):Lt (pl u v) w:=by
 rcases h with ⟨a,b⟩ | ⟨a,b⟩
 ·have hu:Up (pl u v):=by unfold Up at *; unfold pl; dsimp only; omega
  rcases h1 with ⟨_,y⟩ | ⟨_,y,z⟩ | ⟨x,_,_⟩
  ·exact Or.inl ⟨hu,y⟩
  ·refine Or.inr (Or.inl ⟨hu,y,?_⟩)
   rcases h2 with ⟨_,g⟩ | ⟨_,_,g⟩ | ⟨g,_,_⟩
   ·exact (gq y g).elim
   ·rw [pJ]; omega
   ·exact (gq b g).elim
  ·exact (gq a x).elim
 ·have hu:Dn (pl u v):=by unfold Dn at *; unfold pl; dsimp only; omega
  rcases h1 with ⟨y,_⟩ | ⟨y,_,z⟩ | ⟨x,y,z⟩
  ·exact (gq y a).elim
  ·exact (gq y a).elim
  ·refine Or.inr (Or.inr ⟨hu,y,?_⟩)
   rcases h2 with ⟨g,_⟩ | ⟨g,_,_⟩ | ⟨_,_,g⟩
   ·exact (gq g b).elim
   ·exact (gq g b).elim
   ·rw [pJ]; omega
theorem D0 {u v w:ay} (h1:Lt w u) (h2:Lt w v) (h:(Up u∧Up v)∨(Dn u∧Dn v)):Lt w (pl u v):=by
 rcases h with ⟨a,b⟩ | ⟨a,b⟩
 ·have hu:Up (pl u v):=by unfold Up at *; unfold pl; dsimp only; omega
  rcases h1 with ⟨_,y⟩ | ⟨x,y,z⟩ | ⟨x,y,_⟩
  ·exact (gq a y).elim
  ·refine Or.inr (Or.inl ⟨x,hu,?_⟩)
   rcases h2 with ⟨_,g⟩ | ⟨_,_,g⟩ | ⟨_,g,_⟩
   ·exact (gq b g).elim
   ·rw [yz]; omega
   ·exact (gq b g).elim
  ·exact (gq a y).elim
 ·have hu:Dn (pl u v):=by unfold Dn at *; unfold pl; dsimp only; omega
  rcases h1 with ⟨y,_⟩ | ⟨_,y,z⟩ | ⟨x,y,z⟩
  ·exact Or.inl ⟨y,hu⟩
  ·exact (gq y a).elim
  ·refine Or.inr (Or.inr ⟨x,hu,?_⟩)
   rcases h2 with ⟨g,_⟩ | ⟨_,g,_⟩ | ⟨_,_,g⟩
   ·exact (gq g x).elim
   ·exact (gq g b).elim
   ·rw [yz]; omega
theorem CG {u p r:ay} (h1:Lt u p) (h2:Lt p r) (h:0<cr p r) (a:0≤cr p u) (b:0≤cr u r):False:=by
 rcases h1 with ⟨x,y⟩ | ⟨_,_,z⟩ | ⟨_,_,z⟩
 ·have hr:Dn r:=by
   rcases h2 with ⟨g,_⟩ | ⟨g,_,_⟩ | ⟨_,g,_⟩
   ·exact (gq g y).elim
   ·exact (gq g y).elim
   ·exact g
  have:=K3 x y hr;have t:=Cf (qm x) y hr (by rw [kL,← gU]; exact a) (by omega) (Or.inr h);rw [kL] at t;omega
 ·rw [gU] at a; omega
 ·rw [gU] at a; omega
theorem CO {u p r:ay} (h1:Lt r u) (h2:Lt p r) (h:0<cr p r) (a:0≤cr p u) (b:0≤cr u r):False:=by
 rcases h1 with ⟨x,y⟩ | ⟨_,_,z⟩ | ⟨_,_,z⟩
 ·have hp:Up p:=by
   rcases h2 with ⟨_,g⟩ | ⟨g,_,_⟩ | ⟨_,g,_⟩
   ·exact (gq x g).elim
   ·exact g
   ·exact (gq x g).elim
  have t:=xY (nB y) hp x (by rw [kL,← gU]; exact a) (by omega) (Or.inr h);rw [kL] at t;omega
 ·rw [gU] at b; omega
 ·rw [gU] at b; omega
end Go.Proofs.T1
namespace Go.Proofs.T1
open Go Go.Sx
structure Cv (n:Nat) (A:Nat→ay):Prop where
 n3:3≤n
 per:A n=A 0
 edge:∀ i j,i<n→j<n→j≠i→(j=0→i+1≠n)→j≠i+1→0<cV (A i) (A (i+1)) (A j)
 low:∀ j,0<j→j<n→Up (sb (A j) (A 0))
def ed (A:Nat→ay) (i:Nat):ay:=sb (A (i+1)) (A i)
section
variable {n:Nat} {A:Nat→ay}
theorem Cv.nn (h:Cv n A) {i j:Nat} (hi:i<n) (hj:j≤n):0≤cr (ed A i) (sb (A j) (A i)):=by
 have H:∀ j,j<n→0≤cr (ed A i) (sb (A j) (A i)):=by
  intro j hj
  by_cases a:j=i
  ·subst a; unfold cr sb; dsimp only; grind
  by_cases b:j=i+1
  ·subst b; exact Int.le_of_eq (yj _).symm
  by_cases c:j=0∧i+1=n
  ·have:A (i+1)=A j:=by rw [c.2,c.1,h.per]
   unfold ed; rw [this]; exact Int.le_of_eq (yj _).symm
  ·exact Int.le_of_lt (h.edge i j hi hj a (fun x y=>c ⟨x,y⟩) b)
 by_cases e:j=n
 ·rw [e,h.per]; exact H 0 (by have:=h.n3; omega)
 ·exact H j (by omega)
theorem pU (e a b p:ay) (h:e=sb b a):cr e (sb p b)=cr e (sb p a):=by subst h; unfold cr sb; dsimp only; grind
theorem Cv.Hd (h:Cv n A) {i j:Nat} (hi:i<n) (hj:j≤n):0≤cr (ed A i) (sb (A j) (A (i+1))):=by
 rw [pU (ed A i) (A i) (A (i+1)) (A j) rfl]; exact h.nn hi hj
theorem Cv.oa (h:Cv n A) {i:Nat} (hi:i+1<n):0<cr (ed A i) (ed A (i+1)):=by
 have e:cr (ed A i) (ed A (i+1))=cV (A i) (A (i+1)) (A (i+2)):=pU _ _ _ _ rfl;rw [e];have:=h.n3
 by_cases c:i+2=n
 ·rw [c,h.per]; exact h.edge i 0 (by omega) (by omega) (by omega) (by omega) (by omega)
 ·exact h.edge i (i+2) (by omega) (by omega) (by omega) (by omega) (by omega)
theorem Cv.wrap (h:Cv n A):0<cr (ed A (n - 1)) (ed A 0):=by
 have h3:=h.n3;have e:ed A 0=sb (A 1) (A (n - 1+1)):=by rw [show n - 1+1=n by omega,h.per]; rfl
 rw [e,pU (ed A (n - 1)) (A (n - 1)) (A (n - 1+1)) (A 1) rfl];exact h.edge (n - 1) 1 (by omega) (by omega) (by omega) (by omega) (by omega)
theorem Cv.first (h:Cv n A):Up (ed A 0):=h.low 1 (by omega) (by have:=h.n3; omega)
theorem Cv.last (h:Cv n A):Dn (ed A (n - 1)):=by
 have h3:=h.n3;have e:ed A (n - 1)=ng (sb (A (n - 1)) (A 0)):=by
  unfold ed; rw [show n - 1+1=n by omega,h.per]; unfold sb ng; refine oL ?_ ?_ <;> dsimp only <;> omega
 rw [e]; exact qm (h.low (n - 1) (by omega) (by omega))
theorem half {u v:ay} (h:0<cr u v):(Up u∨Dn u)∧(Up v∨Dn v):=by
 constructor
 ·by_cases a:u.2.1=0∧u.1=0
  ·unfold cr at h; rw [a.1,a.2] at h; simp at h
  ·unfold Up Dn; omega
 ·by_cases a:v.2.1=0∧v.1=0
  ·unfold cr at h; rw [a.1,a.2] at h; simp at h
  ·unfold Up Dn; omega
theorem yR {al x y:Int} (h:0≤al) (hu:0<y∨(y=0∧0<x)):0<al*y∨(al*y=0∧0≤al*x):=by
 rcases hu with g | ⟨g,f⟩
 ·rcases Int.lt_or_le 0 al with c | c
  ·exact Or.inl (Int.mul_pos c g)
  ·have:al=0:=by omega
   subst this; exact Or.inr ⟨by simp,by simp⟩
 ·subst g; exact Or.inr ⟨by simp,Int.mul_nonneg h (by omega)⟩
theorem Dp {al be D ux uy vx vy wx wy:Int} (h1:0≤al) (h2:0≤be) (hD:0<D) (hu:0<uy∨(uy=0∧0<ux)) (hv:0<vy∨(vy=0∧0<vx))
  (ey:D*wy=al*uy+be*vy) (ex:D*wx=al*ux+be*vx) (hw:wy<0∨(wy=0∧wx<0)):False:=by
 have a:=yR h1 hu;have b:=yR h2 hv;rcases hw with g | ⟨g,f⟩
 ·have:=Int.mul_neg_of_pos_of_neg hD g; omega
 ·subst g
  have:=Int.mul_neg_of_pos_of_neg hD f;simp at ey;omega
theorem Cv.lt (h:Cv n A) {i:Nat} (hi:i+1<n):Lt (ed A i) (ed A (i+1)):=by
 have t:=h.oa hi;obtain ⟨a,b⟩:=half t;rcases a with a | a <;> rcases b with b | b
 ·exact Or.inr (Or.inl ⟨a,b,t⟩)
 ·exact Or.inl ⟨a,b⟩
 ·exfalso
  have l:=qm (h.low (i+1) (by omega) hi);have n1:=h.Hd (i:=i) (j:=0) (by omega) (by omega);have n2:=h.nn (i:=i+1) (j:=0) hi (by omega);have a':=nB a;generalize hw:sb (A 0) (A (i+1))=w at n1 n2;have l':Dn w:=by
   rw [← hw]; unfold Dn ng sb at l; unfold Dn sb; dsimp only at l ⊢; omega
  generalize ed A i=p at *
  generalize ed A (i+1)=r at *
  refine Dp (al:=cr p w) (be:=cr r w) (D:=cr p r) (ux:=r.1) (uy:=r.2.1) (vx:=(ng p).1) (vy:=(ng p).2.1) (wx:=w.1) (wy:=w.2.1) n1 n2 t b a' ?_ ?_ l'
  ·unfold cr ng; dsimp only; grind
  ·unfold cr ng; dsimp only; grind
 ·exact Or.inr (Or.inr ⟨a,b,t⟩)
end
section
variable {n m:Nat} {A C:Nat→ay}
def Fi (n m:Nat) (A C:Nat→ay) (x y:Nat):Prop:=x<n∧(y=m∨0≤cr (ed A x) (ed C y))
instance (n m:Nat) (A C:Nat→ay) (x y:Nat):Decidable (Fi n m A C x y):=by unfold Fi; infer_instance
structure Inv (n m:Nat) (A C:Nat→ay) (x y:Nat):Prop where
 xn:x≤n
 ym:y≤m
 a:0<x→y<m→Lt (ed A (x - 1)) (ed C y)
 b:0<y→x<n→Lt (ed C (y - 1)) (ed A x)
theorem Inv.sym {x y:Nat} (h:Inv n m A C x y):Inv m n C A y x:=⟨h.ym,h.xn,h.b,h.a⟩
theorem Hj (hA:Cv n A) (hC:Cv m C) {x y:Nat} (h:Inv n m A C x y) (hx:x<n) (hy:y<m) (a:Up (ed A x)) (b:Dn (ed C y)):0<cr (ed A x) (ed C y):=by
 by_cases c:y=0
 ·subst c; exact (gq hC.first b).elim
 ·have l:=h.b (by omega) hx
  have t:=hC.oa (i:=y - 1) (by omega);rw [show y - 1+1=y by omega] at t;rcases l with ⟨_,g⟩ | ⟨f,_,z⟩ | ⟨_,g,_⟩
  ·exact (gq a g).elim
  ·exact K2 f a b (by omega) t
  ·exact (gq a g).elim
theorem Cv.half (hA:Cv n A) {x:Nat} (hx:x<n):Up (ed A x)∨Dn (ed A x):=by
 by_cases c:x+1<n
 ·exact (Go.Proofs.T1.half (hA.oa c)).1
 ·have:x=n - 1:=by omega
  rw [this]; exact Or.inr hA.last
theorem wH (hA:Cv n A) (hC:Cv m C) {x y:Nat} (h:Inv n m A C x y) (hx:x<n) (hy:y<m) (c:0≤cr (ed A x) (ed C y)):Le (ed A x) (ed C y):=by
 rcases hA.half hx with a | a <;> rcases hC.half hy with b | b
 ·exact Or.inr (Or.inl ⟨a,b,c⟩)
 ·exact Or.inl ⟨a,b⟩
 ·have:=Hj hC hA h.sym hy hx b a
  rw [gU] at this; omega
 ·exact Or.inr (Or.inr ⟨a,b,c⟩)
theorem GJ {u v:ay} (h:Le u v) (g:0<cr u v):Lt u v:=by
 rcases h with h | ⟨a,b,c⟩ | ⟨a,b,c⟩
 ·exact Or.inl h
 ·exact Or.inr (Or.inl ⟨a,b,g⟩)
 ·exact Or.inr (Or.inr ⟨a,b,g⟩)
theorem ext (hA:Cv n A) (hC:Cv m C) {x y:Nat} (h:Inv n m A C x y) (f:Fi n m A C x y) {j:Nat} (hj:j≤m):0≤cr (ed A x) (sb (C j) (C y)):=by
 have h3:=hC.n3;have key:∀ p r:ay,0<cr p r→0≤cr p (sb (C j) (C y))→0≤cr r (sb (C j) (C y))→0≤cr (ed A x) r→0≤cr p (ed A x)→0≤cr (ed A x) (sb (C j) (C y)):=by
  intro p r hD h1 h2 h4 h5;refine mf hD ?_
  have e:cr p r*cr (ed A x) (sb (C j) (C y))=cr p (sb (C j) (C y))*cr (ed A x) r+cr r (sb (C j) (C y))*cr p (ed A x):=by
   generalize ed A x=e;generalize sb (C j) (C y)=v;unfold cr; grind
  rw [e];have:=Int.mul_nonneg h1 h4;have:=Int.mul_nonneg h2 h5;omega
 obtain ⟨hx,f⟩:=f
 by_cases y0:y=0
 ·subst y0
  have f:0≤cr (ed A x) (ed C 0):=by
   rcases f with f | f
   ·omega
   ·exact f
  have l:=wH hA hC h hx (by omega) f;have w:=hC.wrap;have up:Up (ed A x):=by
   rcases l with ⟨g,_⟩ | ⟨g,_,_⟩ | ⟨_,g,_⟩
   ·exact g
   ·exact g
   ·exact (gq hC.first g).elim
  have k:=HA hC.last up hC.first w f
  have n1:=hC.Hd (i:=m - 1) (j:=j) (by omega) hj;rw [show m - 1+1=m by omega,hC.per] at n1;exact key _ _ w n1 (hC.nn (by omega) hj) f (by omega)
 ·have l:=h.b (by omega) hx
  have n1:=hC.Hd (i:=y - 1) (j:=j) (by have:=h.ym; omega) hj;rw [show y - 1+1=y by omega] at n1
  by_cases ym:y=m
  ·subst ym
   have w:=hC.wrap;have dn:Dn (ed A x)∧0<cr (ed C (y - 1)) (ed A x):=by
    rcases l with ⟨g,_⟩ | ⟨g,_,_⟩ | ⟨_,g,z⟩
    ·exact (gq g hC.last).elim
    ·exact (gq g hC.last).elim
    ·exact ⟨g,z⟩
   have k:=Hu hC.last dn.1 hC.first (by omega) w
   have n2:=hC.nn (i:=0) (j:=j) (by omega) hj;rw [← hC.per] at n2;exact key _ _ w n1 n2 (by omega) (by omega)
  ·have f:0≤cr (ed A x) (ed C y):=by
    rcases f with f | f
    ·omega
    ·exact f
   have hy:y<m:=by have:=h.ym; omega
   have t:=hC.oa (i:=y - 1) (by omega);rw [show y - 1+1=y by omega] at t;refine key _ _ t n1 (hC.nn hy hj) f ?_
   rcases l with ⟨a,b⟩ | ⟨_,_,z⟩ | ⟨_,_,z⟩
   ·rcases wH hA hC h hx hy f with ⟨g,_⟩ | ⟨g,_,_⟩ | ⟨_,g,_⟩
    ·exact (gq g b).elim
    ·exact (gq g b).elim
    ·exact Int.le_of_lt (K3 a b g t f)
   ·omega
   ·omega
def fi (n m:Nat) (A C:Nat→ay) (x y:Nat):Nat:=if Fi n m A C x y then 1 else 0
def kF:ay:=(0,0,())
def dd (n m:Nat) (A C:Nat→ay) (x y:Nat):ay:=pl (if Fi n m A C x y then ed A x else kF) (if Fi m n C A y x then ed C y else kF)
theorem tQ {x y:Nat} (hx:x≤n) (hy:y≤m) (h:¬ (x=n∧y=m)):Fi n m A C x y∨Fi m n C A y x:=by
 unfold Fi
 by_cases a:x=n
 ·exact Or.inr ⟨by omega,Or.inl a⟩
 ·by_cases b:y=m
  ·exact Or.inl ⟨by omega,Or.inl b⟩
  ·rcases Int.le_total 0 (cr (ed A x) (ed C y)) with c | c
   ·exact Or.inl ⟨by omega,Or.inr c⟩
   ·exact Or.inr ⟨by omega,Or.inr (by rw [gU]; omega)⟩
theorem only {x y:Nat} (f:Fi n m A C x y) (g:¬ Fi m n C A y x) (hy:y<m):0<cr (ed A x) (ed C y):=by
 unfold Fi at f g;rcases Int.lt_or_le 0 (cr (ed A x) (ed C y)) with c | c
 ·exact c
 ·exact absurd ⟨hy,Or.inr (by rw [gU]; omega)⟩ g
theorem uq (hA:Cv n A) (hC:Cv m C) {x y:Nat} (h:Inv n m A C x y) (hne:¬ (x=n∧y=m)) :
  Inv n m A C (x+fi n m A C x y) (y+fi m n C A y x) ∧
  (x+fi n m A C x y<n→Lt (dd n m A C x y) (ed A (x+fi n m A C x y)))∧(y+fi m n C A y x<m→Lt (dd n m A C x y) (ed C (y+fi m n C A y x))):=by
 have z1:∀ v:ay,pl v kF=v:=by intro v; unfold pl kF; dsimp only; rw [Int.add_zero,Int.add_zero]
 have z2:∀ v:ay,pl kF v=v:=by intro v; unfold pl kF; dsimp only; rw [Int.zero_add,Int.zero_add]
 have one:∀ {n m:Nat} {A C:Nat→ay} {x y:Nat},Cv n A→Cv m C→Inv n m A C x y→Fi n m A C x y→¬ Fi m n C A y x →
   Inv n m A C (x+1) y∧(x+1<n→Lt (ed A x) (ed A (x+1)))∧(y<m→Lt (ed A x) (ed C y)):=by
  intro n m A C x y hA hC h f g;have l:y<m→Lt (ed A x) (ed C y):=fun hy=>GJ (wH hA hC h f.1 hy (by have:=only f g hy; omega)) (only f g hy);exact ⟨⟨f.1,h.ym,fun _ hy=>l hy,fun hy hx=>EI (h.b hy f.1) (hA.lt hx)⟩,fun hx=>hA.lt hx,l⟩
 unfold dd fi
 by_cases f:Fi n m A C x y <;> by_cases g:Fi m n C A y x
 ·rw [if_pos f,if_pos g,if_pos f,if_pos g]
  have hx:=f.1;have hy:=g.1;have c1:0≤cr (ed A x) (ed C y):=f.2.resolve_left (by omega);have c2:0≤cr (ed C y) (ed A x):=g.2.resolve_left (by omega);have l1:=wH hA hC h hx hy c1;have l2:=wH hC hA h.sym hy hx c2;have hh:(Up (ed A x)∧Up (ed C y))∨(Dn (ed A x)∧Dn (ed C y)):=by
   rcases l1 with ⟨a,b⟩ | ⟨a,b,_⟩ | ⟨a,b,_⟩
   ·rcases l2 with ⟨c,_⟩ | ⟨c,_,_⟩ | ⟨_,c,_⟩
    ·exact (gq c b).elim
    ·exact (gq c b).elim
    ·exact (gq a c).elim
   ·exact Or.inl ⟨a,b⟩
   ·exact Or.inr ⟨a,b⟩
  exact ⟨⟨hx,hy,fun _ hy'=>B4 l1 (hC.lt hy'),fun _ hx'=>B4 l2 (hA.lt hx')⟩,
   fun hx'=>yb (hA.lt hx') (B4 l2 (hA.lt hx')) hh,fun hy'=>yb (B4 l1 (hC.lt hy')) (hC.lt hy') hh⟩
 ·rw [if_pos f,if_neg g,if_pos f,if_neg g,z1]
  exact one hA hC h f g
 ·rw [if_neg f,if_pos g,if_neg f,if_pos g,z2]
  have:=one hC hA h.sym g f;exact ⟨this.1.sym,this.2.2,this.2.1⟩
 ·rcases tQ (A:=A) (C:=C) h.xn h.ym hne with c | c
  ·exact absurd c f
  ·exact absurd c g
end
end Go.Proofs.T1
namespace Go.Proofs.T1
open Go Go.Sx
theorem zf {T:Nat} {M D:Nat→ay} (hT:3≤T) (S:∀ t,t<T→D t=sb (M (t+1)) (M t)) (per:M T=M 0) (W:∀ t j,t<T→j≤T→0≤cr (D t) (sb (M j) (M t)))
  (O:∀ t,t+1<T→Lt (D t) (D (t+1))) (tn:∀ t,t+1<T→0<cr (D t) (D (t+1))) (u0:Up (D 0)) (dl:Dn (D (T - 1))) :
  ∀ t j,t<T→j<T→j≠t→(j=0→t+1≠T)→j≠t+1→0<cV (M t) (M (t+1)) (M j):=by
 have ch:∀ t s,s<t→t<T→Lt (D s) (D t):=by
  intro t
  induction t with
  | zero=>intro s h; omega
  | succ t ih =>
   intro s h g
   by_cases e:s=t
   ·rw [e]; exact O t g
   ·exact EI (ih s (by omega) (by omega)) (O t g)
 intro t j ht hj n1 n2 n3;rw [tE,← S t ht];rcases Int.lt_or_le 0 (cr (D t) (sb (M j) (M t))) with c | c
 ·exact c
 exfalso;have c0:cr (D t) (sb (M j) (M t))=0:=by have:=W t j ht (by omega); omega
 have a:0≤cr (D t) (D j):=by
  have h1:=W t (j+1) ht (by omega);rw [S j hj];unfold cr sb at *
  dsimp only at *
  grind
 have b:∀ p,p<T→M (p+1)=M j→0≤cr (D p) (D t):=by
  intro p hp e;have h1:=W t p ht (by omega);rw [gU,S p hp,e];unfold cr sb at *
  dsimp only at *
  grind
 by_cases j0:j=0
 ·subst j0
  have n4:=n2 rfl;have b':=b (T - 1) (by omega) (by rw [show T - 1+1=T by omega,per]);rcases ch t 0 (by omega) ht with ⟨_,g⟩ | ⟨_,_,z⟩ | ⟨g,_,_⟩
  ·rcases ch (T - 1) t (by omega) (by omega) with ⟨f,_⟩ | ⟨f,_,_⟩ | ⟨_,_,z⟩
   ·exact gq f g
   ·exact gq f g
   ·rw [gU] at b'; omega
  ·rw [gU] at a; omega
  ·exact gq u0 g
 ·have b':=b (j - 1) (by omega) (by rw [show j - 1+1=j by omega])
  have l:=O (j - 1) (by omega);have t1:=tn (j - 1) (by omega);rw [show j - 1+1=j by omega] at l t1;rcases Nat.lt_or_ge t j with g | g
  ·exact CG (ch (j - 1) t (by omega) (by omega)) l t1 b' a
  ·exact CO (ch t j (by omega) ht) l t1 b' a
section
variable {n m:Nat} {A C:Nat→ay}
def Gg (n m:Nat) (A C:Nat→ay) (s:Nat × Nat):Nat × Nat:=(s.1+fi n m A C s.1 s.2,s.2+fi m n C A s.2 s.1)
def kj (n m:Nat) (A C:Nat→ay):Nat→Nat × Nat
 | 0=>(0,0)
 | t+1=>Gg n m A C (kj n m A C t)
def mp (A C:Nat→ay) (s:Nat × Nat):ay:=pl (A s.1) (C s.2)
def Dt (n m:Nat) (A C:Nat→ay) (t:Nat):ay:=dd n m A C (kj n m A C t).1 (kj n m A C t).2
def Mt (n m:Nat) (A C:Nat→ay) (t:Nat):ay:=mp A C (kj n m A C t)
structure Path (n m:Nat) (A C:Nat→ay) (T:Nat):Prop where
 le:T≤n+m
 ge:n≤T
 fin:kj n m A C T=(n,m)
 ne:∀ t,t<T→¬ ((kj n m A C t).1=n∧(kj n m A C t).2=m)
 inv:∀ t,t≤T→Inv n m A C (kj n m A C t).1 (kj n m A C t).2
theorem Gq (x y:Nat):fi n m A C x y≤1:=by unfold fi; split <;> omega
theorem path (hA:Cv n A) (hC:Cv m C):∃ T,Path n m A C T:=by
 have H:∀ k t,n+m≤(kj n m A C t).1+(kj n m A C t).2+k→t≤(kj n m A C t).1+(kj n m A C t).2→(∀ s,s≤t→Inv n m A C (kj n m A C s).1 (kj n m A C s).2) →
   (∀ s,s<t→¬ ((kj n m A C s).1=n∧(kj n m A C s).2=m))→(kj n m A C t).1≤t→∃ T,Path n m A C T:=by
  intro k
  induction k with
  | zero =>
   intro t h1 h2 h3 h4 h5;have i:=h3 t (Nat.le_refl t);have:=i.xn;have:=i.ym;exact ⟨t,by omega,by omega,Prod.ext (by omega) (by omega),h4,h3⟩
  | succ k ih =>
   intro t h1 h2 h3 h4 h5;have i:=h3 t (Nat.le_refl t)
   by_cases e:(kj n m A C t).1=n∧(kj n m A C t).2=m
   ·have:=i.xn
    have:=i.ym;exact ⟨t,by omega,by omega,Prod.ext e.1 e.2,h4,h3⟩
   ·have q1:(kj n m A C (t+1)).1=(kj n m A C t).1+fi n m A C (kj n m A C t).1 (kj n m A C t).2:=rfl
    have q2:(kj n m A C (t+1)).2=(kj n m A C t).2+fi m n C A (kj n m A C t).2 (kj n m A C t).1:=rfl;have f1:=Gq (n:=n) (m:=m) (A:=A) (C:=C) (kj n m A C t).1 (kj n m A C t).2;have s1:1≤fi n m A C (kj n m A C t).1 (kj n m A C t).2+fi m n C A (kj n m A C t).2 (kj n m A C t).1:=by
     rcases tQ (A:=A) (C:=C) i.xn i.ym e with c | c
     ·unfold fi; rw [if_pos c]; omega
     ·unfold fi; rw [if_pos c]; omega
    refine ih (t+1) (by omega) (by omega) ?_ ?_ (by omega)
    ·intro s hs
     by_cases c:s=t+1
     ·subst c; exact (uq hA hC i e).1
     ·exact h3 s (by omega)
    ·intro s hs
     by_cases c:s=t
     ·subst c; exact e
     ·exact h4 s (by omega)
 refine H (n+m) 0 (by omega) (Nat.zero_le _) ?_ (fun s h=>by omega) (Nat.le_refl 0)
 intro s hs;have:s=0:=by omega
 subst this;exact ⟨Nat.zero_le _,Nat.zero_le _,fun h=>absurd h (Nat.lt_irrefl 0),fun h=>absurd h (Nat.lt_irrefl 0)⟩
theorem pZ (t:Nat):Dt n m A C t=sb (Mt n m A C (t+1)) (Mt n m A C t):=by
 have e:kj n m A C (t+1)=Gg n m A C (kj n m A C t):=rfl;unfold Dt Mt mp;rw [e];generalize kj n m A C t=s;obtain ⟨x,y⟩:=s;unfold Gg dd fi;dsimp only
 by_cases f:Fi n m A C x y <;> by_cases g:Fi m n C A y x
 ·rw [if_pos f,if_pos g,if_pos f,if_pos g]; unfold ed pl sb; refine oL ?_ ?_ <;> dsimp only <;> (try simp only [Nat.add_zero]) <;> omega
 ·rw [if_pos f,if_neg g,if_pos f,if_neg g]; unfold ed pl sb kF; refine oL ?_ ?_ <;> dsimp only <;> (try simp only [Nat.add_zero]) <;> omega
 ·rw [if_neg f,if_pos g,if_neg f,if_pos g]; unfold ed pl sb kF; refine oL ?_ ?_ <;> dsimp only <;> (try simp only [Nat.add_zero]) <;> omega
 ·rw [if_neg f,if_neg g,if_neg f,if_neg g]; unfold pl sb kF; refine oL ?_ ?_ <;> dsimp only <;> (try simp only [Nat.add_zero]) <;> omega
theorem x9 (hA:Cv n A) (hC:Cv m C) {x y:Nat} (h:Inv n m A C x y) (f:Fi n m A C x y) {i j:Nat} (hi:i≤n) (hj:j≤m):0≤cr (ed A x) (sb (pl (A i) (C j)) (pl (A x) (C y))):=by
 have a:=hA.nn f.1 hi;have b:=ext hA hC h f hj;have e:cr (ed A x) (sb (pl (A i) (C j)) (pl (A x) (C y)))=cr (ed A x) (sb (A i) (A x))+cr (ed A x) (sb (C j) (C y)):=by
  generalize ed A x=e;unfold cr sb pl; dsimp only; grind
 rw [e]; omega
theorem yG (u v:ay):pl u v=pl v u:=by unfold pl; rw [Int.add_comm,Int.add_comm u.2.1]
theorem tM (v:ay):cr kF v=0:=by unfold cr kF; simp
theorem D3 (hA:Cv n A) (hC:Cv m C) {T:Nat} (P:Path n m A C T) {t:Nat} (ht:t≤T) {i j:Nat} (hi:i≤n) (hj:j≤m):0≤cr (Dt n m A C t) (sb (pl (A i) (C j)) (Mt n m A C t)):=by
 have h:=P.inv t ht;unfold Dt Mt mp dd;generalize kj n m A C t=s at *
 obtain ⟨x,y⟩:=s;dsimp only at *
 rw [pJ];have a:0≤cr (if Fi n m A C x y then ed A x else kF) (sb (pl (A i) (C j)) (pl (A x) (C y))):=by
  by_cases f:Fi n m A C x y
  ·rw [if_pos f]; exact x9 hA hC h f hi hj
  ·rw [if_neg f,tM]; exact Int.le_refl 0
 have b:0≤cr (if Fi m n C A y x then ed C y else kF) (sb (pl (A i) (C j)) (pl (A x) (C y))):=by
  by_cases f:Fi m n C A y x
  ·rw [if_pos f,yG (A i),yG (A x)]; exact x9 hC hA h.sym f hj hi
  ·rw [if_neg f,tM]; exact Int.le_refl 0
 omega
theorem Bw (hA:Cv n A) (hC:Cv m C) {x y:Nat} (h:Inv n m A C x y) (f:Fi n m A C x y) (g:Fi m n C A y x):(Up (ed A x)∧Up (ed C y))∨(Dn (ed A x)∧Dn (ed C y)):=by
 have hx:=f.1;have hy:=g.1;have c1:0≤cr (ed A x) (ed C y):=f.2.resolve_left (by omega);have c2:0≤cr (ed C y) (ed A x):=g.2.resolve_left (by omega);have l1:=wH hA hC h hx hy c1;have l2:=wH hC hA h.sym hy hx c2;rcases l1 with ⟨a,b⟩ | ⟨a,b,_⟩ | ⟨a,b,_⟩
 ·rcases l2 with ⟨c,_⟩ | ⟨c,_,_⟩ | ⟨_,c,_⟩
  ·exact (gq c b).elim
  ·exact (gq c b).elim
  ·exact (gq a c).elim
 ·exact Or.inl ⟨a,b⟩
 ·exact Or.inr ⟨a,b⟩
theorem FF (v:ay):pl v kF=v:=by unfold pl kF; dsimp only; rw [Int.add_zero,Int.add_zero]
theorem FR (v:ay):pl kF v=v:=by unfold pl kF; dsimp only; rw [Int.zero_add,Int.zero_add]
theorem GF {u v:ay} (a:Up u) (b:Up v):Up (pl u v):=by unfold Up at *; unfold pl; dsimp only; omega
theorem Gt {u v:ay} (a:Dn u) (b:Dn v):Dn (pl u v):=by unfold Dn at *; unfold pl; dsimp only; omega
theorem qf (hA:Cv n A) (hC:Cv m C) {x y:Nat} (h:Inv n m A C x y) (hne:¬ (x=n∧y=m)) {Q:ay→Prop} (q1:x<n→Q (ed A x)) (q2:y<m→Q (ed C y))
  (q3:x<n→y<m→(Up (ed A x)∧Up (ed C y))∨(Dn (ed A x)∧Dn (ed C y))→Q (pl (ed A x) (ed C y))):Q (dd n m A C x y):=by
 unfold dd
 by_cases f:Fi n m A C x y <;> by_cases g:Fi m n C A y x
 ·rw [if_pos f,if_pos g]; exact q3 f.1 g.1 (Bw hA hC h f g)
 ·rw [if_pos f,if_neg g,FF]; exact q1 f.1
 ·rw [if_neg f,if_pos g,FR]; exact q2 g.1
 ·rcases tQ (A:=A) (C:=C) h.xn h.ym hne with c | c
  ·exact absurd c f
  ·exact absurd c g
theorem GG (hA:Cv n A) (hC:Cv m C) {T:Nat} (P:Path n m A C T) {t:Nat} (ht:t+1<T):Lt (Dt n m A C t) (Dt n m A C (t+1)):=by
 have h:=uq hA hC (P.inv t (by omega)) (P.ne t (by omega));have h1:=P.inv (t+1) (by omega);have h2:=P.ne (t+1) ht;exact qf hA hC h1 h2 (Q:=fun v=>Lt (Dt n m A C t) v) h.2.1 h.2.2 (fun hx hy hh=>D0 (h.2.1 hx) (h.2.2 hy) hh)
theorem DE (hA:Cv n A) (hC:Cv m C) {T:Nat} (P:Path n m A C T):Up (Dt n m A C 0) :=
 qf hA hC (P.inv 0 (Nat.zero_le _)) (P.ne 0 (by have:=P.ge; have:=hA.n3; omega)) (Q:=Up) (fun _=>hA.first) (fun _=>hC.first) (fun _ _ _=>GF hA.first hC.first)
theorem E7 (hA:Cv n A) (hC:Cv m C) {T:Nat} (P:Path n m A C T):Dn (Dt n m A C (T - 1)):=by
 have h3:=hA.n3;have g3:=P.ge;have h:=P.inv (T - 1) (by omega);have e:kj n m A C T=Gg n m A C (kj n m A C (T - 1)):=by
  have:T=T - 1+1:=by omega
  rw [this]; rfl
 rw [P.fin] at e;unfold Dt;have hne:=P.ne (T - 1) (by omega);generalize kj n m A C (T - 1)=s at *
 obtain ⟨x,y⟩:=s;dsimp only at *
 unfold Gg fi at e;dsimp only at e;have e1:=congrArg Prod.fst e;have e2:=congrArg Prod.snd e;dsimp only at e1 e2;refine qf hA hC h hne (Q:=Dn) (fun hx=>?_) (fun hy=>?_) (fun hx hy _=>?_)
 ·have:x=n - 1:=by split at e1 <;> omega
  rw [this]; exact hA.last
 ·have:y=m - 1:=by split at e2 <;> omega
  rw [this]; exact hC.last
 ·have a1:x=n - 1:=by split at e1 <;> omega
  have a2:y=m - 1:=by split at e2 <;> omega
  rw [a1,a2]; exact Gt hA.last hC.last
theorem flat {u v w:ay} (hu:Up u) (hv:Dn v) (h:cr u v=0) (a:0≤cr u w) (b:0≤cr v w):cr u w=0:=by
 have i1:cr u w*v.2.1=cr v w*u.2.1+cr u v*w.2.1:=by unfold cr; grind
 have i2:cr u w*v.1=cr v w*u.1+cr u v*w.1:=by unfold cr; grind
 rw [h] at i1 i2;simp only [Int.zero_mul,Int.add_zero] at i1 i2;rcases Int.lt_or_le 0 (cr u w) with c | c
 ·exfalso
  rcases hv with d | ⟨d,e⟩
  ·have:=Int.mul_neg_of_pos_of_neg c d
   have:0≤cr v w*u.2.1:=Int.mul_nonneg b (by unfold Up at hu; omega);omega
  ·have:=Int.mul_neg_of_pos_of_neg c e
   rcases hu with f | ⟨f,g⟩
   ·unfold cr at h
    rw [d] at h;have:=Int.mul_neg_of_pos_of_neg f e;simp at h;omega
   ·have:0≤cr v w*u.1:=Int.mul_nonneg b (by omega)
    omega
 ·omega
theorem Cv.HH (hA:Cv n A) {u:ay} (hu:Up u) (h1:cr u (ed A 0)=0) (h2:cr u (ed A 1)=0):False:=by
 have t:=hA.oa (i:=0) (by have:=hA.n3; omega);rw [show 0+1=1 from rfl] at t;generalize ed A 0=a at *
 generalize ed A 1=b at *
 have i1:cr a b*u.2.1=cr u b*a.2.1 - cr u a*b.2.1:=by unfold cr; grind
 have i2:cr a b*u.1=cr u b*a.1 - cr u a*b.1:=by unfold cr; grind
 rw [h1,h2] at i1 i2;simp only [Int.zero_mul,Int.sub_self] at i1 i2;rcases hu with f | ⟨f,g⟩
 ·have:=Int.mul_pos t f; omega
 ·have:=Int.mul_pos t g; omega
theorem DZ (hA:Cv n A) (hC:Cv m C) {T:Nat} (P:Path n m A C T) {s t:Nat} (hs:s≤T) (ht:t≤T) (hu:Up (Dt n m A C s)) (hv:Dn (Dt n m A C t)) (h:cr (Dt n m A C s) (Dt n m A C t)=0)
  (e:cr (Dt n m A C t) (sb (Mt n m A C s) (Mt n m A C t))=0):False:=by
 have z:∀ i,i≤n→cr (Dt n m A C s) (sb (pl (A i) (C 0)) (Mt n m A C s))=0:=by
  intro i hi;refine flat hu hv h (D3 hA hC P hs hi (Nat.zero_le _)) ?_
  have:=D3 hA hC P ht hi (j:=0) (Nat.zero_le _);generalize Dt n m A C t=v at *
  unfold cr sb at *
  dsimp only at *
  grind
 have h3:=hA.n3;have z0:=z 0 (by omega);have z1:=z 1 (by omega);have z2:=z 2 (by omega);generalize Mt n m A C s=M at *
 refine hA.HH hu ?_ ?_
 ·unfold ed
  generalize Dt n m A C s=u at *
  unfold cr sb pl at *
  dsimp only at *
  grind
 ·unfold ed
  generalize Dt n m A C s=u at *
  unfold cr sb pl at *
  dsimp only at *
  grind
theorem Gr (hA:Cv n A) (hC:Cv m C) {T:Nat} (P:Path n m A C T) {t j:Nat} (ht:t≤T) (hj:j≤T):0≤cr (Dt n m A C t) (sb (Mt n m A C j) (Mt n m A C t)):=by
 have h:=P.inv j hj;exact D3 hA hC P ht h.xn h.ym
theorem Fb (hA:Cv n A) (hC:Cv m C) {T:Nat} (P:Path n m A C T) {t:Nat} (ht:t+1<T):0<cr (Dt n m A C t) (Dt n m A C (t+1)):=by
 rcases GG hA hC P ht with ⟨a,b⟩ | ⟨_,_,z⟩ | ⟨_,_,z⟩
 ·have w:=Gr hA hC P (t:=t) (j:=t+2) (by omega) (by omega)
  have e1:=pZ (n:=n) (m:=m) (A:=A) (C:=C) t;have e2:=pZ (n:=n) (m:=m) (A:=A) (C:=C) (t+1);have w2:0≤cr (Dt n m A C t) (Dt n m A C (t+1)):=by
   rw [e2,pU _ (Mt n m A C t) _ _ e1]; exact w
  rcases Int.lt_or_le 0 (cr (Dt n m A C t) (Dt n m A C (t+1))) with c | c
  ·exact c
  ·exfalso
   have c0:cr (Dt n m A C t) (Dt n m A C (t+1))=0:=by omega
   refine DZ hA hC P (by omega) (by omega) a b c0 ?_
   have:cr (Dt n m A C (t+1)) (sb (Mt n m A C t) (Mt n m A C (t+1)))=cr (Dt n m A C t) (Dt n m A C (t+1)):=by
    rw [e1]; generalize Dt n m A C (t+1)=v; unfold cr sb; dsimp only; grind
   rw [this,c0]
 ·exact z
 ·exact z
theorem yW (hA:Cv n A) (hC:Cv m C) {T:Nat} (P:Path n m A C T):Mt n m A C T=Mt n m A C 0:=by
 unfold Mt mp;rw [P.fin];show pl (A n) (C m)=pl (A 0) (C 0);rw [hA.per,hC.per]
theorem F0 (hA:Cv n A) (hC:Cv m C) {T:Nat} (P:Path n m A C T):∀ t j,t<T→j<T→j≠t→(j=0→t+1≠T)→j≠t+1→0<cV (Mt n m A C t) (Mt n m A C (t+1)) (Mt n m A C j) :=
 zf (by have:=P.ge; have:=hA.n3; omega) (fun t _=>pZ t) (yW hA hC P) (fun t j ht hj=>Gr hA hC P (by omega) hj) (fun t ht=>GG hA hC P ht) (fun t ht=>Fb hA hC P ht) (DE hA hC P) (E7 hA hC P)
end
end Go.Proofs.T1
namespace Go.Proofs.T1
open Go Go.Sx
def jz (l:List ay) (i0 i:Nat):ay:=q l (if (i0:Int)+i<len l then (i0:Int)+i else (i0:Int)+i - len l)
def Du (l:List ay) (i0:Nat):Prop:=(i0:Int)<len l∧∀ j,0≤j→j<len l→j≠i0→Up (sb (q l j) (q l i0))
theorem uU {l:List ay} (he:gR l) (h3:3≤len l) {i j:Int} (i0:0≤i) (i1:i<len l) (j0:0≤j) (j1:j<len l) (h:j≠i):q l j≠q l i:=by
 intro e
 by_cases c:j=nx (len l) i
 ·-- any third corner
  have hz:∀ r,0≤r→r<len l→r≠i→r≠nx (len l) i→False:=by
   intro r r0 r1 a b;have:=he i r i0 i1 r0 r1 a b;rw [← c,e] at this;unfold cV at this;simp at this
  by_cases c2:nx (len l) j=i
  ·unfold nx at c c2
   split at c <;> split at c2 <;> omega
  ·exact hz (nx (len l) j) (dK j0 j1).1 (dK j0 j1).2 c2 (by rw [← c]; unfold nx; split <;> omega)
 ·have:=he i j i0 i1 j0 j1 h c
  rw [e,rW] at this;omega
theorem Fy {u v:ay} (h:v≠u):Up (sb v u)∨Up (sb u v):=by
 obtain ⟨a,b,_⟩:=u;obtain ⟨c,d,_⟩:=v;have:¬ (c=a∧d=b):=fun g=>h (by rw [g.1,g.2]);unfold Up sb; dsimp only; omega
theorem Ff {u v w:ay} (h:Up (sb u v)) (g:Up (sb v w)):Up (sb u w):=by
 unfold Up sb at *; dsimp only at *; omega
theorem Bh {l:List ay} (he:gR l) (h3:3≤len l):∃ i0,Du l i0:=by
 have H:∀ d:Nat,0<d→(d:Int)≤len l→∃ i0:Nat,i0<d∧∀ j:Int,0≤j→j<d→j≠i0→Up (sb (q l j) (q l i0)):=by
  intro d
  induction d with
  | zero=>intro h; omega
  | succ d ih =>
   intro _ hd
   by_cases d0:d=0
   ·subst d0
    exact ⟨0,by omega,fun j a b c=>by omega⟩
   ·obtain ⟨i0,a,b⟩:=ih (by omega) (by omega)
    rcases Fy (uU he h3 (i:=(i0:Int)) (j:=(d:Int)) (by omega) (by omega) (by omega) (by omega) (by omega)) with c | c
    ·refine ⟨i0,by omega,fun j j0 j1 j2=>?_⟩
     by_cases e:j=d
     ·rw [e]; exact c
     ·exact b j j0 (by omega) j2
    ·refine ⟨d,by omega,fun j j0 j1 j2=>?_⟩
     by_cases e:j=i0
     ·rw [e]; exact c
     ·exact Ff (b j j0 (by omega) e) c
 obtain ⟨i0,a,b⟩:=H l.length (by unfold len at h3; omega) (Int.le_refl _);exact ⟨i0,by unfold len; omega,b⟩
theorem lF (l:List ay) {i0 i:Nat} (h0:(i0:Int)<len l) (hi:(i:Int)<len l) :
  ∃ r,0≤r∧r<len l∧jz l i0 i=q l r∧jz l i0 (i+1)=q l (nx (len l) r)∧r=(if (i0:Int)+i<len l then (i0:Int)+i else (i0:Int)+i - len l):=by
 refine ⟨if (i0:Int)+i<len l then (i0:Int)+i else (i0:Int)+i - len l,by split <;> omega,by split <;> omega,rfl,?_,rfl⟩;unfold jz;congr 1;unfold nx
 push_cast
 split <;> split <;> split <;> omega
theorem tJ {l:List ay} (he:gR l) (h3:3≤len l) {i0:Nat} (h:Du l i0):Cv l.length (jz l i0):=by
 have hl:len l=(l.length:Int):=rfl;obtain ⟨h0,h1⟩:=h;refine ⟨by omega,?_,?_,?_⟩
 ·unfold jz; congr 1; split <;> split <;> omega
 ·intro i j hi hj n1 n2 n3
  obtain ⟨r,r0,r1,e1,e2,e3⟩:=lF l (i0:=i0) (i:=i) h0 (by omega);obtain ⟨s,s0,s1,f1,f2,f3⟩:=lF l (i0:=i0) (i:=j) h0 (by omega);rw [e1,e2,f1];have n4:s≠r:=by split at e3 <;> split at f3 <;> omega
  refine he r s r0 r1 s0 s1 n4 ?_
  unfold nx;split at e3 <;> split at f3 <;> split <;> omega
 ·intro j j0 hj
  obtain ⟨s,s0,s1,f1,f2,f3⟩:=lF l (i0:=i0) (i:=j) h0 (by omega);have e0:jz l i0 0=q l i0:=by unfold jz; congr 1; split <;> omega
  rw [f1,e0];exact h1 s s0 s1 (by split at f3 <;> omega)
theorem pV {l:List ay} {i0:Nat} (h0:(i0:Int)<len l) {r:Int} (r0:0≤r) (r1:r<len l):∃ i:Nat,i<l.length∧jz l i0 i=q l r:=by
 have hl:len l=(l.length:Int):=rfl
 by_cases c:(i0:Int)≤r
 ·refine ⟨(r - i0).toNat,by omega,?_⟩
  unfold jz; congr 1; split <;> omega
 ·refine ⟨(r - i0+len l).toNat,by omega,?_⟩
  unfold jz; congr 1; split <;> omega
def iE (l:List ay):List ay:=l.map ng
theorem iB (l:List ay):len (iE l)=len l:=by unfold len iE; simp
theorem lJ {l:List ay} {i:Int} (h0:0≤i) (h1:i<len l):q (iE l) i=ng (q l i):=by
 obtain ⟨i,rfl⟩:=Int.eq_ofNat_of_zero_le h0;have hi:i<l.length:=by unfold len at h1; omega
 show (iE l).getD i cH=ng (l.getD i cH);rw [List.getD_eq_getElem?_getD,List.getD_eq_getElem?_getD];unfold iE;rw [List.getElem?_map,List.getElem?_eq_getElem hi];rfl
theorem F5 (a b p:ay):cV (ng a) (ng b) (ng p)=cV a b p:=by unfold cV ng; dsimp only; grind
theorem mK {l:List ay} (he:gR l):gR (iE l):=by
 intro i j i0 i1 j0 j1 n1 n2;rw [iB] at *
 rw [lJ i0 i1,lJ j0 j1,lJ (dK i0 i1).1 (dK i0 i1).2,F5];exact he i j i0 i1 j0 j1 n1 n2
def Fx (T:Nat) (M:Nat→ay):List ay:=(List.range T).map M
theorem mr (T:Nat) (M:Nat→ay):len (Fx T M)=T:=by unfold len Fx; simp
theorem pe {T:Nat} {M:Nat→ay} {i:Int} (h0:0≤i) (h1:i<T):q (Fx T M) i=M i.toNat:=by
 obtain ⟨i,rfl⟩:=Int.eq_ofNat_of_zero_le h0;show (Fx T M).getD i cH=_;rw [List.getD_eq_getElem?_getD];unfold Fx;rw [List.getElem?_map,List.getElem?_range (by omega)];rfl
theorem wR {T:Nat} {M:Nat→ay} (hT:1≤T) (per:M T=M 0) (h:∀ t j,t<T→j<T→j≠t→(j=0→t+1≠T)→j≠t+1→0<cV (M t) (M (t+1)) (M j)):gR (Fx T M):=by
 intro i j i0 i1 j0 j1 n1 n2;rw [mr] at *
 have hn:=dK i0 i1;rw [pe i0 i1,pe j0 j1,pe hn.1 hn.2];have e:M (nx (T:Int) i).toNat=M (i.toNat+1):=by
  unfold nx at *
  split
  ·rename_i c
   rw [show i.toNat+1=T by omega,per]; rfl
  ·congr 1; omega
 rw [e];unfold nx at n2;exact h i.toNat j.toNat (by omega) (by omega) (by omega) (by intro a b; split at n2 <;> omega) (by intro a; split at n2 <;> omega)
def hs (a b:ay) (X Y w:Int):Int:=(b.1 - a.1)*(Y - w*a.2.1) - (b.2.1 - a.2.1)*(X - w*a.1)
def sn (l:List ay) (X Y w:Int):Prop:=∀ i,0≤i→i<len l→0≤hs (q l i) (q l (nx (len l) i)) X Y w
theorem BP (a b p:ay):hs a b p.1 p.2.1 1=cV a b p:=by unfold hs cV; grind
theorem Co (a b x y z:ay) (α β γ:Int):hs a b (α*x.1+β*y.1+γ*z.1) (α*x.2.1+β*y.2.1+γ*z.2.1) (α+β+γ)=α*cV a b x+β*cV a b y+γ*cV a b z:=by unfold hs cV; grind
theorem rU {l:List ay} (he:gR l) {x y z:Int} (hx:0≤x∧x<len l) (hy:0≤y∧y<len l) (hz:0≤z∧z<len l) {α β γ:Int} (a:0≤α) (b:0≤β) (c:0≤γ) :
  sn l (α*(q l x).1+β*(q l y).1+γ*(q l z).1) (α*(q l x).2.1+β*(q l y).2.1+γ*(q l z).2.1) (α+β+γ):=by
 intro i i0 i1;rw [Co];have h1:=Int.mul_nonneg a (jE he i x i0 i1 hx.1 hx.2);have h2:=Int.mul_nonneg b (jE he i y i0 i1 hy.1 hy.2);have h3:=Int.mul_nonneg c (jE he i z i0 i1 hz.1 hz.2);omega
def iQ (a b:List ay):Prop:=∀ i,0≤i→i<len a→∃ j,0≤j∧j<len b∧0≤cV (q a i) (q a (nx (len a) i)) (q b j)
structure Hg (a b l:List ay):Prop where
 edge:gR l
 len3:3≤len l
 le:len l≤len a+len b
 dif:∀ t,0≤t→t<len l→∃ i j,(0≤i∧i<len a)∧(0≤j∧j<len b)∧q l t=sb (q a i) (q b j)
 all:∀ t i j,0≤t→t<len l→0≤i→i<len a→0≤j→j<len b→0≤cV (q l t) (q l (nx (len l) t)) (sb (q a i) (q b j))
 zero:iQ a b→iQ b a→lj l kF
theorem Ez (u v:ay):pl u (ng v)=sb u v:=by unfold pl ng sb; rfl
theorem Fp {a b:List ay} (ha:gR a) (a3:3≤len a) (hb:gR b) (b3:3≤len b) {i0 k0:Nat} (hi:Du a i0) (hk:Du (iE b) k0) {T:Nat}
  (P:Path a.length b.length (jz a i0) (jz (iE b) k0) T):Hg a b (Fx T (Mt a.length b.length (jz a i0) (jz (iE b) k0))):=by
 have hA:=tJ ha a3 hi;have lb:(iE b).length=b.length:=by unfold iE; simp
 have hC:=tJ (mK hb) (by rw [iB]; exact b3) hk;rw [lb] at hC;have la:len a=(a.length:Int):=rfl;have lbb:len b=(b.length:Int):=rfl;have hge:=P.ge;have hle:=P.le;have k1:=hk.1;rw [iB] at k1;have eA:∀ i,i≤a.length→∃ r,0≤r∧r<len a∧jz a i0 i=q a r:=by
  intro i h
  by_cases c:i=a.length
  ·rw [c,hA.per]
   obtain ⟨r,r0,r1,e,_⟩:=lF a (i0:=i0) (i:=0) hi.1 (by omega);exact ⟨r,r0,r1,e⟩
  ·obtain ⟨r,r0,r1,e,_⟩:=lF a (i0:=i0) (i:=i) hi.1 (by omega)
   exact ⟨r,r0,r1,e⟩
 have eC:∀ i,i≤b.length→∃ r,0≤r∧r<len b∧jz (iE b) k0 i=ng (q b r):=by
  intro i h;have H:∀ i,i<b.length→∃ r,0≤r∧r<len b∧jz (iE b) k0 i=ng (q b r):=by
   intro i h;obtain ⟨r,r0,r1,e,_⟩:=lF (iE b) (i0:=k0) (i:=i) hk.1 (by rw [iB]; omega);rw [iB] at r1;rw [lJ r0 r1] at e;exact ⟨r,r0,r1,e⟩
  by_cases c:i=b.length
  ·rw [c,hC.per]; exact H 0 (by omega)
  ·exact H i (by omega)
 refine ⟨wR (by omega) (yW hA hC P) (F0 hA hC P),by rw [mr]; omega,by rw [mr]; omega,?_,?_,?_⟩
 ·intro t t0 t1
  rw [mr] at t1;rw [pe t0 t1];have h:=P.inv t.toNat (by omega);obtain ⟨r,r0,r1,e⟩:=eA _ h.xn;obtain ⟨s,s0,s1,f⟩:=eC _ h.ym;refine ⟨r,s,⟨r0,r1⟩,⟨s0,s1⟩,?_⟩;unfold Mt mp;rw [e,f,Ez]
 ·intro t i j t0 t1 i0' i1 j0 j1
  have hn:=dK t0 t1;rw [mr] at *
  rw [pe t0 t1,pe hn.1 hn.2];obtain ⟨r,r1,e⟩:=pV (i0:=i0) hi.1 i0' i1;obtain ⟨s,s1,f⟩:=pV (l:=iE b) (i0:=k0) hk.1 j0 (by rw [iB]; exact j1);rw [lJ j0 j1] at f;have h:=D3 hA hC P (t:=t.toNat) (by omega) (i:=r) (j:=s) (by omega) (by omega);rw [e,f,Ez] at h;have e2:Mt a.length b.length (jz a i0) (jz (iE b) k0) (nx (T:Int) t).toNat=Mt a.length b.length (jz a i0) (jz (iE b) k0) (t.toNat+1):=by
   unfold nx;split
   ·rename_i c
    rw [show t.toNat+1=T by omega,yW hA hC P]; rfl
   ·congr 1; omega
  rw [e2,tE,← pZ];exact h
 ·intro n1 n2 t t0 t1
  have hn:=dK t0 t1;rw [mr] at *
  rw [pe t0 t1,pe hn.1 hn.2];have e2:Mt a.length b.length (jz a i0) (jz (iE b) k0) (nx (T:Int) t).toNat=Mt a.length b.length (jz a i0) (jz (iE b) k0) (t.toNat+1):=by
   unfold nx;split
   ·rename_i c
    rw [show t.toNat+1=T by omega,yW hA hC P]; rfl
   ·congr 1; omega
  rw [e2,tE,← pZ];have h:=P.inv t.toNat (by omega);unfold Dt Mt mp dd;generalize kj a.length b.length (jz a i0) (jz (iE b) k0) t.toNat=s at *
  obtain ⟨x,y⟩:=s;dsimp only at *
  rw [pJ];have p1:0≤cr (if Fi a.length b.length (jz a i0) (jz (iE b) k0) x y then ed (jz a i0) x else kF) (sb kF (pl (jz a i0 x) (jz (iE b) k0 y))):=by
   by_cases f:Fi a.length b.length (jz a i0) (jz (iE b) k0) x y
   ·rw [if_pos f]
    have fx:=f.1;obtain ⟨r,r0,r1,e1,e2,_⟩:=lF a (i0:=i0) (i:=x) hi.1 (by omega);obtain ⟨j,j0,j1,hj⟩:=n1 r r0 r1;obtain ⟨s,s1,g⟩:=pV (l:=iE b) (i0:=k0) hk.1 j0 (by rw [iB]; exact j1);rw [lJ j0 j1] at g;rw [lb] at s1;have x1:=ext hA hC h f (j:=s) (by omega);rw [g] at x1;rw [tE,← e1,← e2] at hj;have hj':0≤cr (ed (jz a i0) x) (sb (q b j) (jz a i0 x)):=hj;generalize ed (jz a i0) x=e at *
    generalize jz a i0 x=u at *
    generalize jz (iE b) k0 y=v at *
    generalize q b j=z at *
    unfold cr sb ng at *
    unfold kF pl;dsimp only at *
    grind
   ·rw [if_neg f,tM]; exact Int.le_refl 0
  have p2:0≤cr (if Fi b.length a.length (jz (iE b) k0) (jz a i0) y x then ed (jz (iE b) k0) y else kF) (sb kF (pl (jz a i0 x) (jz (iE b) k0 y))):=by
   by_cases f:Fi b.length a.length (jz (iE b) k0) (jz a i0) y x
   ·rw [if_pos f]
    have fy:=f.1;obtain ⟨r,r0,r1,e1,e2,_⟩:=lF (iE b) (i0:=k0) (i:=y) hk.1 (by rw [iB]; omega);rw [iB] at r1 e2;have hn:=dK r0 r1;rw [lJ r0 r1] at e1;rw [lJ hn.1 hn.2] at e2;obtain ⟨j,j0,j1,hj⟩:=n2 r r0 r1;obtain ⟨s,s1,g⟩:=pV (i0:=i0) hi.1 j0 j1;have x1:=ext hC hA h.sym f (j:=s) (by omega);rw [g] at x1;have ee:ed (jz (iE b) k0) y=sb (ng (q b (nx (len b) r))) (ng (q b r)):=by unfold ed; rw [e1,e2]
    rw [ee] at x1 ⊢;rw [e1];generalize q b (nx (len b) r)=c at *
    generalize jz a i0 x=u at *
    generalize q b r=v at *
    generalize q a j=z at *
    unfold cV at hj;unfold cr sb ng at *
    unfold kF pl;dsimp only at *
    grind
   ·rw [if_neg f,tM]; exact Int.le_refl 0
  omega
theorem Fm {a b:List ay} (ha:gR a) (a3:3≤len a) (hb:gR b) (b3:3≤len b):∃ l,Hg a b l:=by
 obtain ⟨i0,hi⟩:=Bh ha a3;obtain ⟨k0,hk⟩:=Bh (mK hb) (by rw [iB]; exact b3);have hA:=tJ ha a3 hi;have hC:=tJ (mK hb) (by rw [iB]; exact b3) hk;have lb:(iE b).length=b.length:=by unfold iE; simp
 rw [lb] at hC;obtain ⟨T,P⟩:=path hA hC;exact ⟨_,Fp ha a3 hb b3 hi hk P⟩
theorem common {a b l:List ay} (ha:gR a) (hb:gR b) (h:Hg a b l) (z:lj l kF):∃ X Y w,0<w∧sn a X Y w∧sn b X Y w:=by
 obtain ⟨i,i2,i1,c1,c2,c3⟩:=sM h.len3 z;have ht:=lM h.edge 0 (i - 1) i (by omega) (by omega) (by omega) i1;obtain ⟨x0,y0,hx0,hy0,e0⟩:=h.dif 0 (by omega) (by omega);obtain ⟨x1,y1,hx1,hy1,e1⟩:=h.dif (i - 1) (by omega) (by omega);obtain ⟨x2,y2,hx2,hy2,e2⟩:=h.dif i (by omega) i1;have s:cV (q l (i - 1)) (q l i) kF+cV (q l i) (q l 0) kF+cV (q l 0) (q l (i - 1)) kF=cV (q l 0) (q l (i - 1)) (q l i):=by unfold cV kF; grind
 have sx:cV (q l (i - 1)) (q l i) kF*(q l 0).1+cV (q l i) (q l 0) kF*(q l (i - 1)).1+cV (q l 0) (q l (i - 1)) kF*(q l i).1=0:=by unfold cV kF; grind
 have sy:cV (q l (i - 1)) (q l i) kF*(q l 0).2.1+cV (q l i) (q l 0) kF*(q l (i - 1)).2.1+cV (q l 0) (q l (i - 1)) kF*(q l i).2.1=0:=by unfold cV kF; grind
 have A:=rU ha hx0 hx1 hx2 c2 c3 c1;have B:=rU hb hy0 hy1 hy2 c2 c3 c1;rw [s] at A B;refine ⟨_,_,_,ht,A,?_⟩;rw [e0,e1,e2] at sx sy;rw [e0,e1,e2] at A B ⊢;generalize cV (sb (q a x1) (q b y1)) (sb (q a x2) (q b y2)) kF=α at *
 generalize cV (sb (q a x2) (q b y2)) (sb (q a x0) (q b y0)) kF=β at *
 generalize cV (sb (q a x0) (q b y0)) (sb (q a x1) (q b y1)) kF=γ at *
 unfold sb at sx sy;dsimp only at sx sy;have g1:α*(q a x0).1+β*(q a x1).1+γ*(q a x2).1=α*(q b y0).1+β*(q b y1).1+γ*(q b y2).1:=by grind
 have g2:α*(q a x0).2.1+β*(q a x1).2.1+γ*(q a x2).2.1=α*(q b y0).2.1+β*(q b y1).2.1+γ*(q b y2).2.1:=by grind
 rw [g1,g2];exact B
end Go.Proofs.T1
namespace Go.Proofs.T1
open Go Go.Sx
theorem xI (a b:ay) (s t X Y w U V z:Int):hs a b (s*X+t*U) (s*Y+t*V) (s*w+t*z)=s*hs a b X Y w+t*hs a b U V z:=by unfold hs; grind
theorem kO {a b c:Int} (h:0<c) (g:c*a≤c*b):a≤b:=Int.le_of_mul_le_mul_left g h
theorem zy (f g:Nat→Int) (P:Nat→Prop) (hg:∀ k,P k→0<g k):∀ d:Nat,(∀ k,k<d→¬ P k)∨∃ k,k<d∧P k∧∀ j,j<d→P j→f k*g j≤f j*g k:=by
 intro d
 induction d with
 | zero=>exact Or.inl fun k h=>by omega
 | succ d ih =>
  by_cases p:P d
  ·rcases ih with h | ⟨k,k1,k2,k3⟩
   ·refine Or.inr ⟨d,by omega,p,fun j j1 j2=>?_⟩
    by_cases e:j=d
    ·rw [e]; exact Int.le_refl _
    ·exact absurd j2 (h j (by omega))
   ·rcases Int.lt_or_le (f d*g k) (f k*g d) with c | c
    ·refine Or.inr ⟨d,by omega,p,fun j j1 j2=>?_⟩
     by_cases e:j=d
     ·rw [e]; exact Int.le_refl _
     ·have h1:=k3 j (by omega) j2
      have h2:=Int.mul_le_mul_of_nonneg_right h1 (Int.le_of_lt (hg d p));have h3:=Int.mul_le_mul_of_nonneg_right (Int.le_of_lt c) (Int.le_of_lt (hg j j2));refine kO (hg k k2) ?_
      have e1:g k*(f d*g j)=f d*g k*g j:=by grind
      have e2:g k*(f j*g d)=f j*g k*g d:=by grind
      have e3:f k*g d*g j=f k*g j*g d:=by grind
      omega
    ·refine Or.inr ⟨k,by omega,k2,fun j j1 j2=>?_⟩
     by_cases e:j=d
     ·rw [e]; exact c
     ·exact k3 j (by omega) j2
  ·rcases ih with h | ⟨k,k1,k2,k3⟩
   ·refine Or.inl fun k hk=>?_
    by_cases e:k=d
    ·rw [e]; exact p
    ·exact h k (by omega)
   ·refine Or.inr ⟨k,by omega,k2,fun j j1 j2=>?_⟩
    by_cases e:j=d
    ·rw [e] at j2; exact absurd j2 p
    ·exact k3 j (by omega) j2
theorem n5 {l:List ay} {X Y w U V z:Int} (hw:0<w) (hz:0≤z) (hin:sn l X Y w) (hout:¬ sn l U V z) :
  ∃ k α β,0≤k∧k<len l∧0≤α∧0≤β∧0<α*w+β*z∧sn l (α*X+β*U) (α*Y+β*V) (α*w+β*z)∧hs (q l k) (q l (nx (len l) k)) (α*X+β*U) (α*Y+β*V) (α*w+β*z)=0:=by
 have hl:len l=(l.length:Int):=rfl;rcases zy (fun k=>hs (q l k) (q l (nx (len l) k)) X Y w) (fun k=>- hs (q l k) (q l (nx (len l) k)) U V z) (fun k=>hs (q l k) (q l (nx (len l) k)) U V z<0) (fun k h=>by omega) l.length with h | ⟨k,k1,k2,k3⟩
 ·exfalso
  refine hout fun i i0 i1=>?_
  have:=h i.toNat (by omega);rw [show ((i.toNat:Nat):Int)=i by omega] at this;omega
 ·
  have hk:=hin k (by omega) (by omega);refine ⟨k,- hs (q l k) (q l (nx (len l) k)) U V z,hs (q l k) (q l (nx (len l) k)) X Y w,by omega,by omega,by omega,hk,?_,?_,?_⟩
  ·have:=Int.mul_pos (a:=- hs (q l k) (q l (nx (len l) k)) U V z) (by omega) hw
   have:=Int.mul_nonneg hk hz;omega
  ·intro j j0 j1
   rw [xI];have hj:=hin j j0 j1;rcases Int.lt_or_le (hs (q l j) (q l (nx (len l) j)) U V z) 0 with c | c
   ·have h:=k3 j.toNat (by omega) (by rw [show ((j.toNat:Nat):Int)=j by omega]; exact c)
    rw [show ((j.toNat:Nat):Int)=j by omega] at h;rw [Int.mul_comm (- hs (q l k) (q l (nx (len l) k)) U V z)];rw [Int.mul_neg] at h;omega
   ·have:=Int.mul_nonneg (a:=- hs (q l k) (q l (nx (len l) k)) U V z) (by omega) hj
    have:=Int.mul_nonneg hk c;omega
  ·rw [xI]; rw [Int.neg_mul,Int.mul_comm]; omega
def yF (a b:ay) (X Y w:Int):Prop:=∃ α β D,0≤α∧0≤β∧0<D∧D*w=α+β∧D*X=α*a.1+β*b.1∧D*Y=α*a.2.1+β*b.2.1
def pv (n i:Int):Int:=if i=0 then n - 1 else i - 1
theorem qB {n i:Int} (h0:0≤i) (h1:i<n):0≤pv n i∧pv n i<n∧nx n (pv n i)=i:=by unfold pv nx; split <;> split <;> omega
theorem Cc (p a b c:ay) (X Y w:Int) (z:hs a b X Y w=0) :
  cV p a b*cV a b c*w=hs b c X Y w*cV p a b+hs p a X Y w*cV a b c ∧
  cV p a b*cV a b c*X=hs b c X Y w*cV p a b*a.1+hs p a X Y w*cV a b c*b.1 ∧
  cV p a b*cV a b c*Y=hs b c X Y w*cV p a b*a.2.1+hs p a X Y w*cV a b c*b.2.1:=by
 have k1:cV p a b*cV a b c*w+hs a b X Y w*cr (sb a p) (sb c b)=hs b c X Y w*cV p a b+hs p a X Y w*cV a b c:=by unfold hs cV cr sb; grind
 have kx:cV p a b*(X - w*a.1)=hs p a X Y w*(b.1 - a.1) - hs a b X Y w*(a.1 - p.1):=by unfold hs cV; grind
 have ky:cV p a b*(Y - w*a.2.1)=hs p a X Y w*(b.2.1 - a.2.1) - hs a b X Y w*(a.2.1 - p.2.1):=by unfold hs cV; grind
 rw [z] at k1 kx ky;generalize hs p a X Y w=s at *
 generalize hs b c X Y w=t at *
 generalize cV p a b=d at *
 generalize cV a b c=e at *
 refine ⟨by grind,?_,?_⟩
 ·have:d*e*X=e*(s*(b.1 - a.1))+(d*e*w)*a.1:=by grind
  grind
 ·have:d*e*Y=e*(s*(b.2.1 - a.2.1))+(d*e*w)*a.2.1:=by grind
  grind
theorem tC {l:List ay} (he:gR l) (h3:3≤len l) {X Y w k:Int} (k0:0≤k) (k1:k<len l) (h:sn l X Y w) (z:hs (q l k) (q l (nx (len l) k)) X Y w=0):yF (q l k) (q l (nx (len l) k)) X Y w:=by
 have hp:=qB k0 k1;have hn:=dK k0 k1;have hn2:=dK hn.1 hn.2;have d1:=he (pv (len l) k) (nx (len l) k) hp.1 hp.2.1 hn.1 hn.2 (by unfold pv nx; split <;> split <;> omega) (by rw [hp.2.2]; unfold nx; split <;> omega);rw [hp.2.2] at d1;have d2:=he k (nx (len l) (nx (len l) k)) k0 k1 hn2.1 hn2.2 (by unfold nx; split <;> split <;> omega) (by unfold nx; split <;> split <;> omega);have s1:=h (pv (len l) k) hp.1 hp.2.1;rw [hp.2.2] at s1;have s2:=h (nx (len l) k) hn.1 hn.2;obtain ⟨e1,e2,e3⟩:=Cc (q l (pv (len l) k)) (q l k) (q l (nx (len l) k)) (q l (nx (len l) (nx (len l) k))) X Y w z;exact ⟨_,_,_,Int.mul_nonneg s2 (Int.le_of_lt d1),Int.mul_nonneg s1 (Int.le_of_lt d2),Int.mul_pos d1 d2,e1,e2,e3⟩
theorem jC {l:List ay} {p:ay}:sn l p.1 p.2.1 1↔lj l p :=
 ⟨fun h i i0 i1=>by rw [← BP]; exact h i i0 i1,fun h i i0 i1=>by rw [BP]; exact h i i0 i1⟩
theorem Ej {l:List ay} {X Y w U V z s t:Int} (hs0:0≤s) (ht0:0≤t) (h:sn l X Y w) (g:sn l U V z):sn l (s*X+t*U) (s*Y+t*V) (s*w+t*z):=by
 intro i i0 i1;rw [xI];have:=Int.mul_nonneg hs0 (h i i0 i1);have:=Int.mul_nonneg ht0 (g i i0 i1);omega
theorem qR {l:List ay} (he:gR l) {i:Int} (i0:0≤i) (i1:i<len l):lj l (q l i):=fun j j0 j1=>jE he j i j0 j1 i0 i1
def Ga (a b:List ay):Prop:=∃ i k X Y w,(0≤i∧i<len a)∧(0≤k∧k<len b)∧0<w∧yF (q a i) (q a (nx (len a) i)) X Y w∧yF (q b k) (q b (nx (len b) k)) X Y w
theorem D6 {a b:ay} {s t:Int} (hs0:0≤s) (ht0:0≤t):yF a b (s*a.1+t*b.1) (s*a.2.1+t*b.2.1) (s*1+t*1):=⟨s,t,1,hs0,ht0,by decide,by omega,by omega,by omega⟩
theorem FX {a b:ay} {X Y w s t:Int} (h:yF a b X Y w) (hs0:0≤s) (ht0:0≤t):yF a b (s*X+t*a.1) (s*Y+t*a.2.1) (s*w+t*1):=by
 obtain ⟨α,β,D,h1,h2,h3,e1,e2,e3⟩:=h;refine ⟨s*α+t*D,s*β,D,?_,Int.mul_nonneg hs0 h2,h3,by grind,by grind,by grind⟩;have:=Int.mul_nonneg hs0 h1;have:=Int.mul_nonneg ht0 (Int.le_of_lt h3);omega
theorem Dm {a b:List ay} (hb:gR b) (b3:3≤len b) {i:Int} (i0:0≤i) (i1:i<len a) (h:lj b (q a i)):lj b (q a 0)∨Ga a b:=by
 have step:∀ i,0≤i→i<len a→lj b (q a i)→lj b (q a (nx (len a) i))∨Ga a b:=by
  intro i i0 i1 h
  by_cases c:lj b (q a (nx (len a) i))
  ·exact Or.inl c
  ·obtain ⟨k,α,β,k0,k1,a0,b0,w0,hin,z⟩:=n5 (l:=b) (X:=(q a i).1) (Y:=(q a i).2.1) (w:=1) (U:=(q a (nx (len a) i)).1) (V:=(q a (nx (len a) i)).2.1) (z:=1) (by decide) (by decide) (jC.2 h) (fun g=>c (jC.1 g))
   exact Or.inr ⟨i,k,_,_,_,⟨i0,i1⟩,⟨k0,k1⟩,w0,D6 a0 b0,tC hb b3 k0 k1 hin z⟩
 have H:∀ (d:Nat) (i:Int),i=len a - 1 - d→0≤i→lj b (q a i)→lj b (q a 0)∨Ga a b:=by
  intro d
  induction d with
  | zero =>
   intro i hi i0 h;rcases step i i0 (by omega) h with g | g
   ·left
    have:nx (len a) i=0:=by unfold nx; split <;> omega
    rwa [this] at g
   ·exact Or.inr g
  | succ d ih =>
   intro i hi i0 h;rcases step i i0 (by omega) h with g | g
   ·have:nx (len a) i=i+1:=by unfold nx; split <;> omega
    rw [this] at g;exact ih (i+1) (by omega) (by omega) g
   ·exact Or.inr g
 exact H (len a - 1 - i).toNat i (by omega) i0 h
theorem Ek {a b:List ay} (h:Ga a b):Ga b a:=by
 obtain ⟨i,k,X,Y,w,hi,hk,hw,s1,s2⟩:=h;exact ⟨k,i,X,Y,w,hk,hi,hw,s2,s1⟩
theorem Dz {a b:List ay} (ha:gR a) (a3:3≤len a) (hb:gR b) (b3:3≤len b) {X Y w:Int} (hw:0<w) (h1:sn a X Y w) (h2:sn b X Y w):lj a (q b 0)∨lj b (q a 0)∨Ga a b:=by
 by_cases c:lj b (q a 0)
 ·exact Or.inr (Or.inl c)
 ·obtain ⟨k,α,β,k0,k1,a0,b0,w0,hin,z⟩:=n5 (l:=b) (U:=(q a 0).1) (V:=(q a 0).2.1) (z:=1) hw (by decide) h2 (fun g=>c (jC.1 g))
  have sg:=tC hb b3 k0 k1 hin z;have ina:=Ej a0 b0 h1 (jC.2 (qR ha (i:=0) (by omega) (by omega)))
  by_cases d:lj a (q b k)
  ·rcases Dm ha a3 k0 k1 d with g | g
   ·exact Or.inl g
   ·exact Or.inr (Or.inr (Ek g))
  ·obtain ⟨i,α',β',i0,i1,a0',b0',w0',hin',z'⟩:=n5 (l:=a) (U:=(q b k).1) (V:=(q b k).2.1) (z:=1) w0 (by decide) ina (fun g=>d (jC.1 g))
   exact Or.inr (Or.inr ⟨i,k,_,_,_,⟨i0,i1⟩,⟨k0,k1⟩,w0',tC ha a3 i0 i1 hin' z',FX sg a0' b0'⟩)
def F8 (w:Int) (l:List ay):List ay:=l.map fun p=>(w*p.1,w*p.2.1,())
theorem sT (w:Int) (l:List ay):len (F8 w l)=len l:=by unfold len F8; simp
theorem oN (w:Int) {l:List ay} {i:Int} (h0:0≤i) (h1:i<len l):q (F8 w l) i=(w*(q l i).1,w*(q l i).2.1,()):=by
 obtain ⟨i,rfl⟩:=Int.eq_ofNat_of_zero_le h0;have hi:i<l.length:=by unfold len at h1; omega
 show (F8 w l).getD i cH=(w*(l.getD i cH).1,w*(l.getD i cH).2.1,());rw [List.getD_eq_getElem?_getD,List.getD_eq_getElem?_getD];unfold F8;rw [List.getElem?_map,List.getElem?_eq_getElem hi];rfl
theorem DU (w:Int) (a b:ay) (X Y:Int):cV (w*a.1,w*a.2.1,()) (w*b.1,w*b.2.1,()) (X,Y,())=w*hs a b X Y w:=by unfold cV hs; dsimp only; grind
theorem B0 {l:List ay} (he:gR l) (h3:3≤len l) {X Y w:Int} (hw:0<w) (h:sn l X Y w) :
  ∃ i α β γ,2≤i∧i<len l∧0≤α∧0≤β∧0≤γ∧0<α+β+γ∧(α+β+γ)*X=w*(α*(q l 0).1+β*(q l (i - 1)).1+γ*(q l i).1)∧(α+β+γ)*Y=w*(α*(q l 0).2.1+β*(q l (i - 1)).2.1+γ*(q l i).2.1):=by
 have hin:lj (F8 w l) (X,Y,()):=by
  intro i i0 i1;have hn:=dK i0 i1;rw [sT] at *
  rw [oN w i0 i1,oN w hn.1 hn.2,DU];exact Int.mul_nonneg (Int.le_of_lt hw) (h i i0 i1)
 obtain ⟨i,i2,i1,c1,c2,c3⟩:=sM (by rw [sT]; exact h3) hin;rw [sT] at i1;rw [oN w (by omega) (by omega),oN w (by omega) (by omega)] at c1;rw [oN w (by omega) (by omega),oN w (by omega) (by omega)] at c2;rw [oN w (by omega) (by omega),oN w (by omega) (by omega)] at c3;have ht:=lM he 0 (i - 1) i (by omega) (by omega) (by omega) i1;have S:∀ A B C:ay,cV (w*B.1,w*B.2.1,()) (w*C.1,w*C.2.1,()) (X,Y,())+cV (w*C.1,w*C.2.1,()) (w*A.1,w*A.2.1,()) (X,Y,())+cV (w*A.1,w*A.2.1,()) (w*B.1,w*B.2.1,()) (X,Y,())=w*w*cV A B C:=by intro A B C; unfold cV; dsimp only; grind
 have SX:∀ A B C:ay,(cV (w*B.1,w*B.2.1,()) (w*C.1,w*C.2.1,()) (X,Y,())+cV (w*C.1,w*C.2.1,()) (w*A.1,w*A.2.1,()) (X,Y,())+cV (w*A.1,w*A.2.1,()) (w*B.1,w*B.2.1,()) (X,Y,()))*X =
   w*(cV (w*B.1,w*B.2.1,()) (w*C.1,w*C.2.1,()) (X,Y,())*A.1+cV (w*C.1,w*C.2.1,()) (w*A.1,w*A.2.1,()) (X,Y,())*B.1+cV (w*A.1,w*A.2.1,()) (w*B.1,w*B.2.1,()) (X,Y,())*C.1):=by intro A B C; unfold cV; dsimp only; grind
 have SY:∀ A B C:ay,(cV (w*B.1,w*B.2.1,()) (w*C.1,w*C.2.1,()) (X,Y,())+cV (w*C.1,w*C.2.1,()) (w*A.1,w*A.2.1,()) (X,Y,())+cV (w*A.1,w*A.2.1,()) (w*B.1,w*B.2.1,()) (X,Y,()))*Y =
   w*(cV (w*B.1,w*B.2.1,()) (w*C.1,w*C.2.1,()) (X,Y,())*A.2.1+cV (w*C.1,w*C.2.1,()) (w*A.1,w*A.2.1,()) (X,Y,())*B.2.1+cV (w*A.1,w*A.2.1,()) (w*B.1,w*B.2.1,()) (X,Y,())*C.2.1):=by intro A B C; unfold cV; dsimp only; grind
 exact ⟨i,_,_,_,i2,i1,c2,c3,c1,by rw [S]; exact Int.mul_pos (Int.mul_pos hw hw) ht,SX _ _ _,SY _ _ _⟩
theorem vN {a b:List ay} (hb:gR b) (b3:3≤len b) {X Y w:Int} (hw:0<w) (h1:sn a X Y w) (h2:sn b X Y w):iQ a b:=by
 intro i i0 i1;obtain ⟨m,α,β,γ,m2,m1,a0,b0,c0,s,ex,ey⟩:=B0 hb b3 hw h2;have h:=h1 i i0 i1;generalize q a i=u at *
 generalize q a (nx (len a) i)=v at *
 have e:(α+β+γ)*hs u v X Y w=w*(α*cV u v (q b 0)+β*cV u v (q b (m - 1))+γ*cV u v (q b m)):=by
  have:(α+β+γ)*hs u v X Y w=(v.1 - u.1)*((α+β+γ)*Y - (α+β+γ)*w*u.2.1) - (v.2.1 - u.2.1)*((α+β+γ)*X - (α+β+γ)*w*u.1):=by unfold hs; grind
  rw [this,ex,ey];unfold cV;grind
 have p:=Int.mul_nonneg (Int.le_of_lt s) h;rw [e] at p;have p':=mf hw p
 by_cases c1:0≤cV u v (q b 0)
 ·exact ⟨0,by omega,by omega,c1⟩
 by_cases c2:0≤cV u v (q b (m - 1))
 ·exact ⟨m - 1,by omega,by omega,c2⟩
 by_cases c3:0≤cV u v (q b m)
 ·exact ⟨m,by omega,by omega,c3⟩
 exfalso;have neg:∀ x t:Int,0≤x→¬ 0≤t→x*t≤-x:=by
  intro x t hx ht;have:=Int.mul_le_mul_of_nonneg_left (show t≤-1 by omega) hx;omega
 have:=neg _ _ a0 c1;have:=neg _ _ b0 c2;have:=neg _ _ c0 c3;omega
end Go.Proofs.T1
namespace Go.Proofs.T1
open Go Go.Sx
def GY (a b p:ay):Prop:=gd a.1 b.1≤p.1∧p.1≤imax a.1 b.1∧gd a.2.1 b.2.1≤p.2.1∧p.2.1≤imax a.2.1 b.2.1
def On (a b p:ay):Prop:=cV a b p=0∧GY a b p
def rh (x y:Int):Prop:=(x<0∧0<y)∨(0<x∧y<0)
def tX (a b c d:ay):Prop:=(rh (cV a b c) (cV a b d)∧rh (cV c d a) (cV c d b))∨On a b c∨On a b d∨On c d a∨On c d b
theorem G4 {s t a b p:Int} (h0:0≤s) (h1:0≤t) (h2:0<s+t) (e:(s+t)*p=s*a+t*b):gd a b≤p∧p≤imax a b:=by
 have lo:∀ m,m≤a→m≤b→m≤p:=by
  intro m ha hb;refine kO h2 ?_
  have:=Int.mul_le_mul_of_nonneg_left ha h0;have:=Int.mul_le_mul_of_nonneg_left hb h1;rw [e,Int.add_mul]; omega
 have hi:∀ m,a≤m→b≤m→p≤m:=by
  intro m ha hb;refine kO h2 ?_
  have:=Int.mul_le_mul_of_nonneg_left ha h0;have:=Int.mul_le_mul_of_nonneg_left hb h1;rw [e,Int.add_mul]; omega
 exact ⟨lo _ (by unfold gd; split <;> omega) (by unfold gd; split <;> omega),hi _ (by unfold imax; split <;> omega) (by unfold imax; split <;> omega)⟩
theorem bx {a b p:ay} {s t:Int} (h0:0≤s) (h1:0≤t) (h2:0<s+t) (ex:(s+t)*p.1=s*a.1+t*b.1) (ey:(s+t)*p.2.1=s*a.2.1+t*b.2.1):GY a b p :=
 ⟨(G4 h0 h1 h2 ex).1,(G4 h0 h1 h2 ex).2,(G4 h0 h1 h2 ey).1,(G4 h0 h1 h2 ey).2⟩
theorem ik {a b:Int} (ha:0<a) (h:a*b=0):b=0:=by
 rcases Int.mul_eq_zero.1 h with g | g
 ·omega
 ·exact g
theorem pG {a b:ay} (h:a≠b):b.1 - a.1≠0∨b.2.1 - a.2.1≠0:=by
 rcases Int.decEq (b.1 - a.1) 0 with g | g
 ·exact Or.inl g
 ·right; intro f; exact h (oL (by omega) (by omega))
theorem sq_pos {x y:Int} (h:x≠0∨y≠0):0<x*x+y*y:=by
 have sq:∀ z:Int,0≤z*z∧(z≠0→0<z*z):=by
  intro z;rcases Int.lt_trichotomy z 0 with g | g | g
  ·have:=Int.mul_pos_of_neg_of_neg g g; omega
  ·subst g; simp
  ·have:=Int.mul_pos g g; omega
 have a:=sq x;have b:=sq y;rcases h with h | h
 ·have:=a.2 h; omega
 ·have:=b.2 h; omega
theorem Gd {c d a b:ay} (h:c≠d) (h1:cV c d a=0) (h2:cV c d b=0):cV a b c=0∧cV a b d=0:=by
 have k:∀ p:ay,(p=c∨p=d)→cV a b p=0:=by
  intro p hp;have ex:cV a b p*(d.1 - c.1)=cV c d b*(a.1 - p.1) - cV c d a*(b.1 - p.1):=by rcases hp with hp | hp <;> subst hp <;> unfold cV <;> grind
  have ey:cV a b p*(d.2.1 - c.2.1)=cV c d b*(a.2.1 - p.2.1) - cV c d a*(b.2.1 - p.2.1):=by rcases hp with hp | hp <;> subst hp <;> unfold cV <;> grind
  rw [h1,h2] at ex ey;simp only [Int.zero_mul,Int.sub_self] at ex ey;rcases Int.mul_eq_zero.1 ex with g | g
  ·exact g
  ·rcases Int.mul_eq_zero.1 ey with f | f
   ·exact f
   ·rcases pG h with x | x
    ·exact absurd g x
    ·exact absurd f x
 exact ⟨k c (Or.inl rfl),k d (Or.inr rfl)⟩
theorem kk {N u v e tc td:Int} (hN:0<N) (h1:N*u=tc*e) (h2:N*v=td*e):td*u=tc*v:=by
 have:N*(td*u - tc*v)=td*(N*u) - tc*(N*v):=by grind
 rw [h1,h2] at this;have:=ik hN (this.trans (by grind));omega
theorem Gf {a b c d:ay} {A B C E:Int} (hA:0≤A) (hB:0≤B) (hC:0≤C) (hE:0≤E) (s:A+B=C+E) (s0:0<A+B)
  (ex:A*a.1+B*b.1=C*c.1+E*d.1) (ey:A*a.2.1+B*b.2.1=C*c.2.1+E*d.2.1) (nab:a≠b) (ncd:c≠d):tX a b c d:=by
 have F1:C*cV a b c+E*cV a b d=0:=by
  have:C*cV a b c+E*cV a b d=(b.1 - a.1)*(C*c.2.1+E*d.2.1 - (C+E)*a.2.1) - (b.2.1 - a.2.1)*(C*c.1+E*d.1 - (C+E)*a.1):=by unfold cV; grind
  rw [this,← ex,← ey,← s]; grind
 have F2:A*cV c d a+B*cV c d b=0:=by
  have:A*cV c d a+B*cV c d b=(d.1 - c.1)*(A*a.2.1+B*b.2.1 - (A+B)*c.2.1) - (d.2.1 - c.2.1)*(A*a.1+B*b.1 - (A+B)*c.1):=by unfold cV; grind
  rw [this,ex,ey,s]; grind
 by_cases e0:E=0
 ·subst e0
  refine Or.inr (Or.inl ⟨ik (a:=C) (by omega) (by omega),bx hA hB s0 ?_ ?_⟩)
  ·rw [ex,s]; grind
  ·rw [ey,s]; grind
 by_cases c0:C=0
 ·subst c0
  refine Or.inr (Or.inr (Or.inl ⟨ik (a:=E) (by omega) (by omega),bx hA hB s0 ?_ ?_⟩))
  ·rw [ex,s]; grind
  ·rw [ey,s]; grind
 by_cases b0:B=0
 ·subst b0
  refine Or.inr (Or.inr (Or.inr (Or.inl ⟨ik (a:=A) (by omega) (by omega),bx hC hE (by omega) ?_ ?_⟩)))
  ·rw [← ex,← s]; grind
  ·rw [← ey,← s]; grind
 by_cases a0:A=0
 ·subst a0
  refine Or.inr (Or.inr (Or.inr (Or.inr ⟨ik (a:=B) (by omega) (by omega),bx hC hE (by omega) ?_ ?_⟩)))
  ·rw [← ex,← s]; grind
  ·rw [← ey,← s]; grind
 have opp:∀ {s t x y:Int},0<s→0<t→s*x+t*y=0→x≠0→rh x y:=by
  intro s t x y hs ht h hx;rcases Int.lt_trichotomy y 0 with g | g | g
  ·have h1:=Int.mul_neg_of_pos_of_neg ht g
   have h2:0<x:=jJ hs (by omega);exact Or.inr ⟨h2,g⟩
  ·subst g
   exact absurd (ik hs (by omega)) hx
  ·have h1:=Int.mul_pos ht g
   have h2:0 < -x:=jJ hs (by rw [Int.mul_neg]; omega);exact Or.inl ⟨by omega,g⟩
 have flat1:cV a b c=0→cV a b d=0→tX a b c d:=by
  intro z1 z2;have hN:=sq_pos (pG nab);have x1:∀ p:ay,cV a b p=0→((b.1 - a.1)*(b.1 - a.1)+(b.2.1 - a.2.1)*(b.2.1 - a.2.1))*(p.1 - a.1)=((p.1 - a.1)*(b.1 - a.1)+(p.2.1 - a.2.1)*(b.2.1 - a.2.1))*(b.1 - a.1) ∧
    ((b.1 - a.1)*(b.1 - a.1)+(b.2.1 - a.2.1)*(b.2.1 - a.2.1))*(p.2.1 - a.2.1)=((p.1 - a.1)*(b.1 - a.1)+(p.2.1 - a.2.1)*(b.2.1 - a.2.1))*(b.2.1 - a.2.1):=by
   intro p hp;unfold cV at hp;constructor <;> grind
  have xc:=x1 c z1;have xd:=x1 d z2;have tot:C*((c.1 - a.1)*(b.1 - a.1)+(c.2.1 - a.2.1)*(b.2.1 - a.2.1))+E*((d.1 - a.1)*(b.1 - a.1)+(d.2.1 - a.2.1)*(b.2.1 - a.2.1))=B*((b.1 - a.1)*(b.1 - a.1)+(b.2.1 - a.2.1)*(b.2.1 - a.2.1)):=by
   have:C*((c.1 - a.1)*(b.1 - a.1)+(c.2.1 - a.2.1)*(b.2.1 - a.2.1))+E*((d.1 - a.1)*(b.1 - a.1)+(d.2.1 - a.2.1)*(b.2.1 - a.2.1))=(C*c.1+E*d.1 - (C+E)*a.1)*(b.1 - a.1)+(C*c.2.1+E*d.2.1 - (C+E)*a.2.1)*(b.2.1 - a.2.1):=by grind
   rw [this,← ex,← ey,← s]; grind
  have zz:cV c d a=0:=by
   have h1:cV c d a*(b.1 - a.1)=0:=by
    have:cV c d a*(b.1 - a.1)=cV a b d*(c.1 - a.1) - cV a b c*(d.1 - a.1):=by unfold cV; grind
    rw [this,z1,z2]; simp
   have h2:cV c d a*(b.2.1 - a.2.1)=0:=by
    have:cV c d a*(b.2.1 - a.2.1)=cV a b d*(c.2.1 - a.2.1) - cV a b c*(d.2.1 - a.2.1):=by unfold cV; grind
    rw [this,z1,z2]; simp
   rcases Int.mul_eq_zero.1 h1 with g | g
   ·exact g
   ·rcases Int.mul_eq_zero.1 h2 with f | f
    ·exact f
    ·rcases pG nab with x | x
     ·exact absurd g x
     ·exact absurd f x
  generalize (c.1 - a.1)*(b.1 - a.1)+(c.2.1 - a.2.1)*(b.2.1 - a.2.1)=tc at *
  generalize (d.1 - a.1)*(b.1 - a.1)+(d.2.1 - a.2.1)*(b.2.1 - a.2.1)=td at *
  generalize (b.1 - a.1)*(b.1 - a.1)+(b.2.1 - a.2.1)*(b.2.1 - a.2.1)=N at *
  have onab:∀ (p:ay) (t:Int),cV a b p=0→0≤t→t≤N→N*(p.1 - a.1)=t*(b.1 - a.1)→N*(p.2.1 - a.2.1)=t*(b.2.1 - a.2.1)→On a b p:=by
   intro p t z t0 t1 e1 e2;refine ⟨z,bx (s:=N - t) (t:=t) (by omega) t0 (by omega) ?_ ?_⟩
   ·rw [show N - t+t=N by omega]; grind
   ·rw [show N - t+t=N by omega]; grind
  by_cases c1:0≤tc∧tc≤N
  ·exact Or.inr (Or.inl (onab c tc z1 c1.1 c1.2 xc.1 xc.2))
  by_cases d1:0≤td∧td≤N
  ·exact Or.inr (Or.inr (Or.inl (onab d td z2 d1.1 d1.2 xd.1 xd.2)))
  have hBN:=Int.mul_nonneg hB (Int.le_of_lt hN);have k1:td*(c.1 - a.1)=tc*(d.1 - a.1):=kk hN xc.1 xd.1;have k2:td*(c.2.1 - a.2.1)=tc*(d.2.1 - a.2.1):=kk hN xc.2 xd.2;rcases Int.lt_or_le tc 0 with c2 | c2
  ·rcases Int.lt_or_le td 0 with d2 | d2
   ·have:=Int.mul_neg_of_pos_of_neg (a:=C) (by omega) c2
    have:=Int.mul_neg_of_pos_of_neg (a:=E) (by omega) d2;omega
   ·refine Or.inr (Or.inr (Or.inr (Or.inl ⟨zz,bx (s:=td) (t:=-tc) (by omega) (by omega) (by omega) ?_ ?_⟩)))
    ·grind
    ·grind
  ·rcases Int.lt_or_le td 0 with d2 | d2
   ·refine Or.inr (Or.inr (Or.inr (Or.inl ⟨zz,bx (s:=-td) (t:=tc) (by omega) (by omega) (by omega) ?_ ?_⟩)))
    ·grind
    ·grind
   ·have h1:=Int.mul_lt_mul_of_pos_left (show N<tc by omega) (show 0<C by omega)
    have h2:=Int.mul_lt_mul_of_pos_left (show N<td by omega) (show 0<E by omega);have h3:C*N+E*N=A*N+B*N:=by rw [← Int.add_mul,← Int.add_mul,s]
    have h4:=Int.mul_nonneg hA (Int.le_of_lt hN);omega
 by_cases t1:cV a b c=0
 ·rw [t1] at F1
  exact flat1 t1 (ik (a:=E) (by omega) (by omega))
 by_cases r1:cV c d a=0
 ·rw [r1] at F2
  have r2:cV c d b=0:=ik (a:=B) (by omega) (by omega);have:=Gd ncd r1 r2;exact flat1 this.1 this.2
 exact Or.inl ⟨opp (by omega) (by omega) F1 t1,opp (by omega) (by omega) F2 r1⟩
theorem Am {a b c d:ay} {X Y w:Int} (hw:0<w) (h:yF a b X Y w) (g:yF c d X Y w) (nab:a≠b) (ncd:c≠d):tX a b c d:=by
 obtain ⟨α,β,D,h1,h2,h3,e1,e2,e3⟩:=h;obtain ⟨γ,δ,F,g1,g2,g3,f1,f2,f3⟩:=g;have nn:=fun {x y:Int} (p:0≤x) (r:0<y)=>Int.mul_nonneg p (Int.le_of_lt r);refine Gf (A:=α*F) (B:=β*F) (C:=γ*D) (E:=δ*D) (nn h1 g3) (nn h2 g3) (nn g1 h3) (nn g2 h3) ?_ ?_ ?_ ?_ nab ncd
 ·rw [← Int.add_mul,← Int.add_mul,← e1,← f1]; grind
 ·rw [← Int.add_mul,← e1]; exact Int.mul_pos (Int.mul_pos h3 hw) g3
 ·grind
 ·grind
theorem tw {a b p:ay} (nab:a≠b) (h:On a b p):yF a b p.1 p.2.1 1:=by
 obtain ⟨z,b1,b2,b3,b4⟩:=h;have hN:=sq_pos (pG nab);have m:∀ {x u v:Int},gd u v≤x→x≤imax u v→0≤(x - u)*(v - u)∧(x - u)*(v - u)≤(v - u)*(v - u):=by
  intro x u v h1 h2;unfold gd at h1;unfold imax at h2;rcases Int.le_total u v with c | c
  ·have a1:0≤x - u:=by split at h1 <;> split at h2 <;> omega
   have a2:x - u≤v - u:=by split at h1 <;> split at h2 <;> omega
   exact ⟨Int.mul_nonneg a1 (by omega),Int.mul_le_mul_of_nonneg_right a2 (by omega)⟩
  ·have a1:x - u≤0:=by split at h1 <;> split at h2 <;> omega
   have a2:v - u≤x - u:=by split at h1 <;> split at h2 <;> omega
   exact ⟨Int.mul_nonneg_of_nonpos_of_nonpos a1 (by omega),Int.mul_le_mul_of_nonpos_right a2 (by omega)⟩
 have m1:=m b1 b2;have m2:=m b3 b4;unfold cV at z;refine ⟨((b.1 - a.1)*(b.1 - a.1)+(b.2.1 - a.2.1)*(b.2.1 - a.2.1)) - ((p.1 - a.1)*(b.1 - a.1)+(p.2.1 - a.2.1)*(b.2.1 - a.2.1)),(p.1 - a.1)*(b.1 - a.1)+(p.2.1 - a.2.1)*(b.2.1 - a.2.1),(b.1 - a.1)*(b.1 - a.1)+(b.2.1 - a.2.1)*(b.2.1 - a.2.1),by omega,by omega,hN,by omega,?_,?_⟩
 ·grind
 ·grind
theorem pC {a b:ay}:yF a b a.1 a.2.1 1∧yF a b b.1 b.2.1 1 :=
 ⟨⟨1,0,1,by decide,by decide,by decide,by decide,by omega,by omega⟩,⟨0,1,1,by decide,by decide,by decide,by decide,by omega,by omega⟩⟩
theorem AL {a b c d:ay} (nab:a≠b) (ncd:c≠d) (h:tX a b c d):∃ X Y w,0<w∧yF a b X Y w∧yF c d X Y w:=by
 rcases h with ⟨h1,h2⟩ | h | h | h | h
 ·have e:cV a b c - cV a b d=cV c d b - cV c d a:=by unfold cV; grind
  have ex:cV c d b*a.1 - cV c d a*b.1=cV a b c*d.1 - cV a b d*c.1:=by unfold cV; grind
  have ey:cV c d b*a.2.1 - cV c d a*b.2.1=cV a b c*d.2.1 - cV a b d*c.2.1:=by unfold cV; grind
  generalize cV a b c=t1 at *
  generalize cV a b d=t2 at *
  generalize cV c d a=r1 at *
  generalize cV c d b=r2 at *
  unfold rh at h1 h2;rcases h1 with ⟨x,y⟩ | ⟨x,y⟩
  ·refine ⟨t2*c.1 - t1*d.1,t2*c.2.1 - t1*d.2.1,t2 - t1,by omega,⟨-r2,r1,1,by omega,by omega,by decide,by omega,by grind,by grind⟩,⟨t2,-t1,1,by omega,by omega,by decide,by omega,by grind,by grind⟩⟩
  ·refine ⟨t1*d.1 - t2*c.1,t1*d.2.1 - t2*c.2.1,t1 - t2,by omega,⟨r2,-r1,1,by omega,by omega,by decide,by omega,by grind,by grind⟩,⟨-t2,t1,1,by omega,by omega,by decide,by omega,by grind,by grind⟩⟩
 ·exact ⟨_,_,_,by decide,tw nab h,pC.1⟩
 ·exact ⟨_,_,_,by decide,tw nab h,pC.2⟩
 ·exact ⟨_,_,_,by decide,pC.1,tw ncd h⟩
 ·exact ⟨_,_,_,by decide,pC.2,tw ncd h⟩
theorem yE {l:List ay} (he:gR l) {X Y w i:Int} (i0:0≤i) (i1:i<len l) (h:yF (q l i) (q l (nx (len l) i)) X Y w):sn l X Y w:=by
 obtain ⟨α,β,D,h1,h2,h3,e1,e2,e3⟩:=h;intro j j0 j1;have hn:=dK i0 i1;refine mf h3 ?_
 have a:=Int.mul_nonneg h1 (jE he j i j0 j1 i0 i1);have b:=Int.mul_nonneg h2 (jE he j (nx (len l) i) j0 j1 hn.1 hn.2);generalize q l i=u at *
 generalize q l (nx (len l) i)=v at *
 generalize q l j=c at *
 generalize q l (nx (len l) j)=d at *
 have:D*hs c d X Y w=α*cV c d u+β*cV c d v:=by
  have:D*hs c d X Y w=(d.1 - c.1)*(D*Y - D*w*c.2.1) - (d.2.1 - c.2.1)*(D*X - D*w*c.1):=by unfold hs; grind
  rw [this,e1,e2,e3];unfold cV;grind
 rw [this]; omega
def EC (a b:List ay):Prop:=lj a (q b 0)∨lj b (q a 0)∨∃ i k,(0≤i∧i<len a)∧(0≤k∧k<len b)∧tX (q a i) (q a (nx (len a) i)) (q b k) (q b (nx (len b) k))
theorem nI {l:List ay} (he:gR l) (h3:3≤len l) {i:Int} (i0:0≤i) (i1:i<len l):q l i≠q l (nx (len l) i):=by
 have hn:=dK i0 i1;exact uU he h3 hn.1 hn.2 i0 i1 (by unfold nx; split <;> omega)
theorem Cb {a b:List ay} (ha:gR a) (a3:3≤len a) (hb:gR b) (b3:3≤len b):EC a b↔iQ a b∧iQ b a:=by
 constructor
 ·intro h
  have hc:∃ X Y w,0<w∧sn a X Y w∧sn b X Y w:=by
   rcases h with h | h | ⟨i,k,hi,hk,h⟩
   ·exact ⟨_,_,1,by decide,jC.2 h,jC.2 (qR hb (by omega) (by omega))⟩
   ·exact ⟨_,_,1,by decide,jC.2 (qR ha (by omega) (by omega)),jC.2 h⟩
   ·obtain ⟨X,Y,w,hw,s1,s2⟩:=AL (nI ha a3 hi.1 hi.2) (nI hb b3 hk.1 hk.2) h
    exact ⟨X,Y,w,hw,yE ha hi.1 hi.2 s1,yE hb hk.1 hk.2 s2⟩
  obtain ⟨X,Y,w,hw,h1,h2⟩:=hc;exact ⟨vN hb b3 hw h1 h2,vN ha a3 hw h2 h1⟩
 ·intro ⟨n1,n2⟩
  obtain ⟨l,hl⟩:=Fm ha a3 hb b3;obtain ⟨X,Y,w,hw,h1,h2⟩:=common ha hb hl (hl.zero n1 n2);rcases Dz ha a3 hb b3 hw h1 h2 with h | h | ⟨i,k,X,Y,w,hi,hk,hw,s1,s2⟩
  ·exact Or.inl h
  ·exact Or.inr (Or.inl h)
  ·exact Or.inr (Or.inr ⟨i,k,hi,hk,Am hw s1 s2 (nI ha a3 hi.1 hi.2) (nI hb b3 hk.1 hk.2)⟩)
end Go.Proofs.T1
