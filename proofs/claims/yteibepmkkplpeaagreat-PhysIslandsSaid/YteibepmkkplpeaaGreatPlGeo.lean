import Derived.Test.YteibepmkkplpeaaGreatPlPoly
namespace Go.Proofs.T1
open Go Go.Sx
def sb (a b:aV):aV:=(a.1 - b.1,a.2.1 - b.2.1,())
def pl (a b:aV):aV:=(a.1+b.1,a.2.1+b.2.1,())
def ng (v:aV):aV:=(-v.1,-v.2.1,())
theorem Cp {a b:aV} (h:a.1=b.1) (g:a.2.1=b.2.1):a=b:=by
 obtain ⟨x,y,_⟩:=a;obtain ⟨u,v,_⟩:=b;dsimp only at h g;rw [h,g]
def Up (v:aV):Prop:=0<v.2.1∨(v.2.1=0∧0<v.1)
def Dn (v:aV):Prop:=v.2.1<0∨(v.2.1=0∧v.1<0)
theorem Eg {v:aV} (h:Dn v):Up (ng v):=by unfold Dn at h; unfold Up ng; dsimp only; omega
theorem Cw {v:aV} (h:Up v):Dn (ng v):=by unfold Up at h; unfold Dn ng; dsimp only; omega
theorem B9 (u v:aV):cr v u=- cr u v:=by unfold cr; grind
theorem wN (u:aV):cr u u=0:=by unfold cr; grind
def Lt (u v:aV):Prop:=(Up u∧Dn v)∨(Up u∧Up v∧0<cr u v)∨(Dn u∧Dn v∧0<cr u v)
end Go.Proofs.T1
namespace Go.Proofs.T1
open Go Go.Sx
structure Cv (n:Nat) (A:Nat→aV):Prop where
 n3:3≤n
 per:A n=A 0
 edge:∀ i j,i<n→j<n→j≠i→(j=0→i+1≠n)→j≠i+1→0<im (A i) (A (i+1)) (A j)
 low:∀ j,0<j→j<n→Up (sb (A j) (A 0))
def ed (A:Nat→aV) (i:Nat):aV:=sb (A (i+1)) (A i)
section
variable {n:Nat} {A:Nat→aV}
theorem Cv.nn (h:Cv n A) {i j:Nat} (hi:i<n) (hj:j≤n):0≤cr (ed A i) (sb (A j) (A i)):=by
 have H:∀ j,j<n→0≤cr (ed A i) (sb (A j) (A i)):=by
  intro j hj
  by_cases a:j=i
  ·subst a; unfold cr sb; dsimp only; grind
  by_cases b:j=i+1
  ·subst b; exact Int.le_of_eq (wN _).symm
  by_cases c:j=0∧i+1=n
  ·have:A (i+1)=A j:=by rw [c.2,c.1,h.per]
   unfold ed; rw [this]; exact Int.le_of_eq (wN _).symm
  ·exact Int.le_of_lt (h.edge i j hi hj a (fun x y=>c ⟨x,y⟩) b)
 by_cases e:j=n
 ·rw [e,h.per]; exact H 0 (by have:=h.n3; omega)
 ·exact H j (by omega)
theorem q8 (e a b p:aV) (h:e=sb b a):cr e (sb p b)=cr e (sb p a):=by subst h; unfold cr sb; dsimp only; grind
theorem Cv.Fb (h:Cv n A) {i j:Nat} (hi:i<n) (hj:j≤n):0≤cr (ed A i) (sb (A j) (A (i+1))):=by
 rw [q8 (ed A i) (A i) (A (i+1)) (A j) rfl]; exact h.nn hi hj
theorem Cv.qm (h:Cv n A) {i:Nat} (hi:i+1<n):0<cr (ed A i) (ed A (i+1)):=by
 have e:cr (ed A i) (ed A (i+1))=im (A i) (A (i+1)) (A (i+2)):=q8 _ _ _ _ rfl;rw [e];have:=h.n3
 by_cases c:i+2=n
 ·rw [c,h.per]; exact h.edge i 0 (by omega) (by omega) (by omega) (by omega) (by omega)
 ·exact h.edge i (i+2) (by omega) (by omega) (by omega) (by omega) (by omega)
theorem Cv.wrap (h:Cv n A):0<cr (ed A (n - 1)) (ed A 0):=by
 have h3:=h.n3;have e:ed A 0=sb (A 1) (A (n - 1+1)):=by rw [show n - 1+1=n by omega,h.per]; rfl
 rw [e,q8 (ed A (n - 1)) (A (n - 1)) (A (n - 1+1)) (A 1) rfl];exact h.edge (n - 1) 1 (by omega) (by omega) (by omega) (by omega) (by omega)
theorem Cv.first (h:Cv n A):Up (ed A 0):=h.low 1 (by omega) (by have:=h.n3; omega)
theorem Cv.last (h:Cv n A):Dn (ed A (n - 1)):=by
 have h3:=h.n3;have e:ed A (n - 1)=ng (sb (A (n - 1)) (A 0)):=by
  unfold ed; rw [show n - 1+1=n by omega,h.per]; unfold sb ng; refine Cp ?_ ?_ <;> dsimp only <;> omega
 rw [e]; exact Cw (h.low (n - 1) (by omega) (by omega))
theorem half {u v:aV} (h:0<cr u v):(Up u∨Dn u)∧(Up v∨Dn v):=by
 constructor
 ·by_cases a:u.2.1=0∧u.1=0
  ·unfold cr at h; rw [a.1,a.2] at h; simp at h
  ·unfold Up Dn; omega
 ·by_cases a:v.2.1=0∧v.1=0
  ·unfold cr at h; rw [a.1,a.2] at h; simp at h
  ·unfold Up Dn; omega
theorem wj {al x y:Int} (h:0≤al) (hu:0<y∨(y=0∧0<x)):0<al*y∨(al*y=0∧0≤al*x):=by
 rcases hu with g | ⟨g,f⟩
 ·rcases Int.lt_or_le 0 al with c | c
  ·exact Or.inl (Int.mul_pos c g)
  ·have:al=0:=by omega
   subst this; exact Or.inr ⟨by simp,by simp⟩
 ·subst g; exact Or.inr ⟨by simp,Int.mul_nonneg h (by omega)⟩
theorem BF {al be D ux uy vx vy wx wy:Int} (h1:0≤al) (h2:0≤be) (hD:0<D) (hu:0<uy∨(uy=0∧0<ux)) (hv:0<vy∨(vy=0∧0<vx))
  (ey:D*wy=al*uy+be*vy) (ex:D*wx=al*ux+be*vx) (hw:wy<0∨(wy=0∧wx<0)):False:=by
 have a:=wj h1 hu;have b:=wj h2 hv;rcases hw with g | ⟨g,f⟩
 ·have:=Int.mul_neg_of_pos_of_neg hD g; omega
 ·subst g
  have:=Int.mul_neg_of_pos_of_neg hD f;simp at ey;omega
theorem Cv.lt (h:Cv n A) {i:Nat} (hi:i+1<n):Lt (ed A i) (ed A (i+1)):=by
 have t:=h.qm hi;obtain ⟨a,b⟩:=half t;rcases a with a | a <;> rcases b with b | b
 ·exact Or.inr (Or.inl ⟨a,b,t⟩)
 ·exact Or.inl ⟨a,b⟩
 ·exfalso
  have l:=Cw (h.low (i+1) (by omega) hi);have n1:=h.Fb (i:=i) (j:=0) (by omega) (by omega);have n2:=h.nn (i:=i+1) (j:=0) hi (by omega);have a':=Eg a;generalize hw:sb (A 0) (A (i+1))=w at n1 n2;have l':Dn w:=by
   rw [← hw]; unfold Dn ng sb at l; unfold Dn sb; dsimp only at l ⊢; omega
  generalize ed A i=p at *
  generalize ed A (i+1)=r at *
  refine BF (al:=cr p w) (be:=cr r w) (D:=cr p r) (ux:=r.1) (uy:=r.2.1) (vx:=(ng p).1) (vy:=(ng p).2.1) (wx:=w.1) (wy:=w.2.1) n1 n2 t b a' ?_ ?_ l'
  ·unfold cr ng; dsimp only; grind
  ·unfold cr ng; dsimp only; grind
 ·exact Or.inr (Or.inr ⟨a,b,t⟩)
end
section
variable {n m:Nat} {A C:Nat→aV}
def Fi (n m:Nat) (A C:Nat→aV) (x y:Nat):Prop:=x<n∧(y=m∨0≤cr (ed A x) (ed C y))
instance (n m:Nat) (A C:Nat→aV) (x y:Nat):Decidable (Fi n m A C x y):=by unfold Fi; infer_instance
theorem Cv.half (hA:Cv n A) {x:Nat} (hx:x<n):Up (ed A x)∨Dn (ed A x):=by
 by_cases c:x+1<n
 ·exact (Go.Proofs.T1.half (hA.qm c)).1
 ·have:x=n - 1:=by omega
  rw [this]; exact Or.inr hA.last
def E4:aV:=(0,0,())
def dd (n m:Nat) (A C:Nat→aV) (x y:Nat):aV:=pl (if Fi n m A C x y then ed A x else E4) (if Fi m n C A y x then ed C y else E4)
theorem only {x y:Nat} (f:Fi n m A C x y) (g:¬ Fi m n C A y x) (hy:y<m):0<cr (ed A x) (ed C y):=by
 unfold Fi at f g;rcases Int.lt_or_le 0 (cr (ed A x) (ed C y)) with c | c
 ·exact c
 ·exact absurd ⟨hy,Or.inr (by rw [B9]; omega)⟩ g
end
end Go.Proofs.T1
namespace Go.Proofs.T1
open Go Go.Sx
section
variable {n m:Nat} {A C:Nat→aV}
theorem flat {u v w:aV} (hu:Up u) (hv:Dn v) (h:cr u v=0) (a:0≤cr u w) (b:0≤cr v w):cr u w=0:=by
 have i1:cr u w*v.2.1=cr v w*u.2.1+cr u v*w.2.1:=by unfold cr; grind
 have i2:cr u w*v.1=cr v w*u.1+cr u v*w.1:=by unfold cr; grind
 rw [h] at i1 i2;simp only [Int.zero_mul,Int.add_zero] at i1 i2;rcases Int.lt_or_le 0 (cr u w) with c | c
 ·exfalso
  rcases hv with d | ⟨d,e⟩
  ·have:=Int.mul_neg_of_pos_of_neg c d
   have:0≤cr v w*u.2.1:=Int.mul_nonneg b (by unfold Up at hu; omega);omega
  ·have:=Int.mul_neg_of_pos_of_neg c e
   rcases hu with f | ⟨f,g⟩
   ·unfold cr at h
    rw [d] at h;have:=Int.mul_neg_of_pos_of_neg f e;simp at h;omega
   ·have:0≤cr v w*u.1:=Int.mul_nonneg b (by omega)
    omega
 ·omega
end
end Go.Proofs.T1
namespace Go.Proofs.T1
open Go Go.Sx
def ET (l:List aV) (i0 i:Nat):aV:=q l (if (i0:Int)+i<len l then (i0:Int)+i else (i0:Int)+i - len l)
theorem zt {l:List aV} (he:mD l) (h3:3≤len l) {i j:Int} (i0:0≤i) (i1:i<len l) (j0:0≤j) (j1:j<len l) (h:j≠i):q l j≠q l i:=by
 intro e
 by_cases c:j=nx (len l) i
 ·-- any third corner
  have hz:∀ r,0≤r→r<len l→r≠i→r≠nx (len l) i→False:=by
   intro r r0 r1 a b;have:=he i r i0 i1 r0 r1 a b;rw [← c,e] at this;unfold im at this;simp at this
  by_cases c2:nx (len l) j=i
  ·unfold nx at c c2
   split at c <;> split at c2 <;> omega
  ·exact hz (nx (len l) j) (fB j0 j1).1 (fB j0 j1).2 c2 (by rw [← c]; unfold nx; split <;> omega)
 ·have:=he i j i0 i1 j0 j1 h c
  rw [e,xC] at this;omega
def hs (a b:aV) (X Y w:Int):Int:=(b.1 - a.1)*(Y - w*a.2.1) - (b.2.1 - a.2.1)*(X - w*a.1)
def mj (a b:List aV):Prop:=∀ i,0≤i→i<len a→∃ j,0≤j∧j<len b∧0≤im (q a i) (q a (nx (len a) i)) (q b j)
end Go.Proofs.T1
namespace Go.Proofs.T1
open Go Go.Sx
theorem mi {a b c:Int} (h:0<c) (g:c*a≤c*b):a≤b:=Int.le_of_mul_le_mul_left g h
def pv (n i:Int):Int:=if i=0 then n - 1 else i - 1
theorem sB {n i:Int} (h0:0≤i) (h1:i<n):0≤pv n i∧pv n i<n∧nx n (pv n i)=i:=by unfold pv nx; split <;> split <;> omega
end Go.Proofs.T1
namespace Go.Proofs.T1
open Go Go.Sx
def Er (a b p:aV):Prop:=fH a.1 b.1≤p.1∧p.1≤imax a.1 b.1∧fH a.2.1 b.2.1≤p.2.1∧p.2.1≤imax a.2.1 b.2.1
def On (a b p:aV):Prop:=im a b p=0∧Er a b p
def Eo (x y:Int):Prop:=(x<0∧0<y)∨(0<x∧y<0)
def EZ (a b c d:aV):Prop:=(Eo (im a b c) (im a b d)∧Eo (im c d a) (im c d b))∨On a b c∨On a b d∨On c d a∨On c d b
theorem Ep {s t a b p:Int} (h0:0≤s) (h1:0≤t) (h2:0<s+t) (e:(s+t)*p=s*a+t*b):fH a b≤p∧p≤imax a b:=by
 have lo:∀ m,m≤a→m≤b→m≤p:=by
  intro m ha hb;refine mi h2 ?_
  have:=Int.mul_le_mul_of_nonneg_left ha h0;have:=Int.mul_le_mul_of_nonneg_left hb h1;rw [e,Int.add_mul]; omega
 have hi:∀ m,a≤m→b≤m→p≤m:=by
  intro m ha hb;refine mi h2 ?_
  have:=Int.mul_le_mul_of_nonneg_left ha h0;have:=Int.mul_le_mul_of_nonneg_left hb h1;rw [e,Int.add_mul]; omega
 exact ⟨lo _ (by unfold fH; split <;> omega) (by unfold fH; split <;> omega),hi _ (by unfold imax; split <;> omega) (by unfold imax; split <;> omega)⟩
theorem bx {a b p:aV} {s t:Int} (h0:0≤s) (h1:0≤t) (h2:0<s+t) (ex:(s+t)*p.1=s*a.1+t*b.1) (ey:(s+t)*p.2.1=s*a.2.1+t*b.2.1):Er a b p :=
 ⟨(Ep h0 h1 h2 ex).1,(Ep h0 h1 h2 ex).2,(Ep h0 h1 h2 ey).1,(Ep h0 h1 h2 ey).2⟩
theorem tP {a b:Int} (ha:0<a) (h:a*b=0):b=0:=by
 rcases Int.mul_eq_zero.1 h with g | g
 ·omega
 ·exact g
theorem sq_pos {x y:Int} (h:x≠0∨y≠0):0<x*x+y*y:=by
 have sq:∀ z:Int,0≤z*z∧(z≠0→0<z*z):=by
  intro z;rcases Int.lt_trichotomy z 0 with g | g | g
  ·have:=Int.mul_pos_of_neg_of_neg g g; omega
  ·subst g; simp
  ·have:=Int.mul_pos g g; omega
 have a:=sq x;have b:=sq y;rcases h with h | h
 ·have:=a.2 h; omega
 ·have:=b.2 h; omega
theorem kk {N u v e tc td:Int} (hN:0<N) (h1:N*u=tc*e) (h2:N*v=td*e):td*u=tc*v:=by
 have:N*(td*u - tc*v)=td*(N*u) - tc*(N*v):=by grind
 rw [h1,h2] at this;have:=tP hN (this.trans (by grind));omega
theorem Bb {l:List aV} (he:mD l) (h3:3≤len l) {i:Int} (i0:0≤i) (i1:i<len l):q l i≠q l (nx (len l) i):=by
 have hn:=fB i0 i1;exact zt he h3 hn.1 hn.2 i0 i1 (by unfold nx; split <;> omega)
end Go.Proofs.T1
