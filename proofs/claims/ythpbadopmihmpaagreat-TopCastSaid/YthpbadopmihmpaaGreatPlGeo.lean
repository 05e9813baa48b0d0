import Derived.Test.YthpbadopmihmpaaGreatPlPoly
namespace Go.Proofs.T1
open Go Go.Sx
def sb (a b:V26):V26:=(a.1 - b.1,a.2.1 - b.2.1,())
def pl (a b:V26):V26:=(a.1+b.1,a.2.1+b.2.1,())
def ng (v:V26):V26:=(-v.1,-v.2.1,())
theorem v_ext {a b:V26} (h:a.1=b.1) (g:a.2.1=b.2.1):a=b:=by
 obtain ⟨x,y,_⟩:=a
 obtain ⟨u,v,_⟩:=b
 dsimp only at h g
 rw [h,g]
theorem tri_cr (a b p:V26):tri a b p=cr (sb b a) (sb p a):=rfl
def Up (v:V26):Prop:=0<v.2.1∨(v.2.1=0∧0<v.1)
def Dn (v:V26):Prop:=v.2.1<0∨(v.2.1=0∧v.1<0)
theorem Up_Dn {v:V26} (h:Up v) (g:Dn v):False:=by unfold Up at h; unfold Dn at g; omega
theorem Dn_ng {v:V26} (h:Dn v):Up (ng v):=by unfold Dn at h; unfold Up ng; dsimp only; omega
theorem Up_ng {v:V26} (h:Up v):Dn (ng v):=by unfold Up at h; unfold Dn ng; dsimp only; omega
theorem cr_anti (u v:V26):cr v u=- cr u v:=by unfold cr; grind
theorem cr_ng_l (u v:V26):cr (ng u) v=- cr u v:=by unfold cr ng; grind
theorem cr_ng_r (u v:V26):cr u (ng v)=- cr u v:=by unfold cr ng; grind
theorem cr_ng2 (u v:V26):cr (ng u) (ng v)=cr u v:=by unfold cr ng; grind
theorem cr_self (u:V26):cr u u=0:=by unfold cr; grind
theorem cr_pl_l (u v w:V26):cr (pl u v) w=cr u w+cr v w:=by unfold cr pl; grind
theorem cr_pl_r (u v w:V26):cr w (pl u v)=cr w u+cr w v:=by unfold cr pl; grind
theorem up_tr {a b c d e f:Int} (hu:0<b∨(b=0∧0<a)) (hv:0<d∨(d=0∧0<c)) (hw:0<f∨(f=0∧0<e)) (h1:0≤a*d - b*c) (h2:0≤c*f - d*e) (h3:0<a*d - b*c∨0<c*f - d*e):0<a*f - b*e:=by
 have key:d*(a*f - b*e)=(c*f - d*e)*b+(a*d - b*c)*f:=by grind
 rcases hv with hd | ⟨hd,hc⟩
 ·rcases hu with hb | ⟨hb,ha⟩
  ·rcases hw with hf | ⟨hf,he⟩
   ·refine pos_of_mul hd ?_
    rw [key]
    rcases h3 with h3 | h3
    ·have:=Int.mul_nonneg h2 (Int.le_of_lt hb); have:=Int.mul_pos h3 hf; omega
    ·have:=Int.mul_pos h3 hb; have:=Int.mul_nonneg h1 (Int.le_of_lt hf); omega
   ·subst hf
    have:=Int.mul_pos hd he
    simp at h2 h3
    omega
  ·subst hb
   rcases hw with hf | ⟨hf,he⟩
   ·have:=Int.mul_pos ha hf; simp; omega
   ·subst hf
    have:=Int.mul_pos hd he
    simp at h2 h3
    omega
 ·subst hd
  rcases hu with hb | ⟨hb,ha⟩
  ·have:=Int.mul_pos hb hc; simp at h1; omega
  ·subst hb
   rcases hw with hf | ⟨hf,he⟩
   ·have:=Int.mul_pos ha hf; simp; omega
   ·subst hf
    simp at h3
theorem Up_tr {u v w:V26} (hu:Up u) (hv:Up v) (hw:Up w) (h1:0≤cr u v) (h2:0≤cr v w) (h3:0<cr u v∨0<cr v w):0<cr u w:=up_tr hu hv hw h1 h2 h3
theorem Dn_tr {u v w:V26} (hu:Dn u) (hv:Dn v) (hw:Dn w) (h1:0≤cr u v) (h2:0≤cr v w) (h3:0<cr u v∨0<cr v w):0<cr u w:=by
 have:=Up_tr (Dn_ng hu) (Dn_ng hv) (Dn_ng hw) (by rw [cr_ng2]; exact h1) (by rw [cr_ng2]; exact h2) (by rw [cr_ng2,cr_ng2]; exact h3)
 rwa [cr_ng2] at this
theorem K2 {f e g:V26} (hf:Up f) (he:Up e) (hg:Dn g) (h1:0≤cr f e) (h2:0<cr f g):0<cr e g:=by
 have:=Up_tr (Dn_ng hg) hf he (by rw [cr_ng_l,← cr_anti]; omega) h1 (Or.inl (by rw [cr_ng_l,← cr_anti]; omega))
 rw [cr_ng_l,← cr_anti] at this; exact this
theorem K2' {f e g:V26} (hf:Dn f) (he:Dn e) (hg:Up g) (h1:0≤cr f e) (h2:0<cr f g):0<cr e g:=by
 have:=K2 (Dn_ng hf) (Dn_ng he) (Up_ng hg) (by rw [cr_ng2]; exact h1) (by rw [cr_ng2]; exact h2)
 rwa [cr_ng2] at this
theorem K3 {f e g:V26} (hf:Up f) (he:Dn e) (hg:Dn g) (h1:0<cr f g) (h2:0≤cr e g):0<cr f e:=by
 have:=Dn_tr he hg (Up_ng hf) h2 (by rw [cr_ng_r,← cr_anti]; omega) (Or.inr (by rw [cr_ng_r,← cr_anti]; omega))
 rw [cr_ng_r,← cr_anti] at this; exact this
theorem K3' {f e g:V26} (hf:Dn f) (he:Up e) (hg:Up g) (h1:0<cr f g) (h2:0≤cr e g):0<cr f e:=by
 have:=K3 (Dn_ng hf) (Up_ng he) (Up_ng hg) (by rw [cr_ng2]; exact h1) (by rw [cr_ng2]; exact h2)
 rwa [cr_ng2] at this
def Lt (u v:V26):Prop:=(Up u∧Dn v)∨(Up u∧Up v∧0<cr u v)∨(Dn u∧Dn v∧0<cr u v)
def Le (u v:V26):Prop:=(Up u∧Dn v)∨(Up u∧Up v∧0≤cr u v)∨(Dn u∧Dn v∧0≤cr u v)
theorem Lt_Le {u v:V26} (h:Lt u v):Le u v:=by
 rcases h with h | ⟨a,b,c⟩ | ⟨a,b,c⟩
 ·exact Or.inl h
 ·exact Or.inr (Or.inl ⟨a,b,by omega⟩)
 ·exact Or.inr (Or.inr ⟨a,b,by omega⟩)
theorem LeLt {u v w:V26} (h:Le u v) (g:Lt v w):Lt u w:=by
 rcases h with ⟨a,b⟩ | ⟨a,b,c⟩ | ⟨a,b,c⟩ <;> rcases g with ⟨x,y⟩ | ⟨x,y,z⟩ | ⟨x,y,z⟩
 ·exact (Up_Dn x b).elim
 ·exact (Up_Dn x b).elim
 ·exact Or.inl ⟨a,y⟩
 ·exact Or.inl ⟨a,y⟩
 ·exact Or.inr (Or.inl ⟨a,y,Up_tr a b y c (by omega) (Or.inr z)⟩)
 ·exact (Up_Dn b x).elim
 ·exact (Up_Dn x b).elim
 ·exact (Up_Dn x b).elim
 ·exact Or.inr (Or.inr ⟨a,y,Dn_tr a b y c (by omega) (Or.inr z)⟩)
theorem Lt_tr {u v w:V26} (h:Lt u v) (g:Lt v w):Lt u w:=LeLt (Lt_Le h) g
theorem Lt_pl_l {u v w:V26} (h1:Lt u w) (h2:Lt v w) (h:(Up u∧Up v)∨(Dn u∧Dn v)):Lt (pl u v) w:=by
 rcases h with ⟨a,b⟩ | ⟨a,b⟩
 ·have hu:Up (pl u v):=by unfold Up at *; unfold pl; dsimp only; omega
  rcases h1 with ⟨_,y⟩ | ⟨_,y,z⟩ | ⟨x,_,_⟩
  ·exact Or.inl ⟨hu,y⟩
  ·refine Or.inr (Or.inl ⟨hu,y,?_⟩)
   rcases h2 with ⟨_,g⟩ | ⟨_,_,g⟩ | ⟨g,_,_⟩
   ·exact (Up_Dn y g).elim
   ·rw [cr_pl_l]; omega
   ·exact (Up_Dn b g).elim
  ·exact (Up_Dn a x).elim
 ·have hu:Dn (pl u v):=by unfold Dn at *; unfold pl; dsimp only; omega
  rcases h1 with ⟨y,_⟩ | ⟨y,_,z⟩ | ⟨x,y,z⟩
  ·exact (Up_Dn y a).elim
  ·exact (Up_Dn y a).elim
  ·refine Or.inr (Or.inr ⟨hu,y,?_⟩)
   rcases h2 with ⟨g,_⟩ | ⟨g,_,_⟩ | ⟨_,_,g⟩
   ·exact (Up_Dn g b).elim
   ·exact (Up_Dn g b).elim
   ·rw [cr_pl_l]; omega
theorem Lt_pl_r {u v w:V26} (h1:Lt w u) (h2:Lt w v) (h:(Up u∧Up v)∨(Dn u∧Dn v)):Lt w (pl u v):=by
 rcases h with ⟨a,b⟩ | ⟨a,b⟩
 ·have hu:Up (pl u v):=by unfold Up at *; unfold pl; dsimp only; omega
  rcases h1 with ⟨_,y⟩ | ⟨x,y,z⟩ | ⟨x,y,_⟩
  ·exact (Up_Dn a y).elim
  ·refine Or.inr (Or.inl ⟨x,hu,?_⟩)
   rcases h2 with ⟨_,g⟩ | ⟨_,_,g⟩ | ⟨_,g,_⟩
   ·exact (Up_Dn b g).elim
   ·rw [cr_pl_r]; omega
   ·exact (Up_Dn b g).elim
  ·exact (Up_Dn a y).elim
 ·have hu:Dn (pl u v):=by unfold Dn at *; unfold pl; dsimp only; omega
  rcases h1 with ⟨y,_⟩ | ⟨_,y,z⟩ | ⟨x,y,z⟩
  ·exact Or.inl ⟨y,hu⟩
  ·exact (Up_Dn y a).elim
  ·refine Or.inr (Or.inr ⟨x,hu,?_⟩)
   rcases h2 with ⟨g,_⟩ | ⟨_,g,_⟩ | ⟨_,_,g⟩
   ·exact (Up_Dn g x).elim
   ·exact (Up_Dn g b).elim
   ·rw [cr_pl_r]; omega
theorem Lt_cone1 {u p r:V26} (h1:Lt u p) (h2:Lt p r) (h:0<cr p r) (a:0≤cr p u) (b:0≤cr u r):False:=by
 rcases h1 with ⟨x,y⟩ | ⟨_,_,z⟩ | ⟨_,_,z⟩
 ·have hr:Dn r:=by
   rcases h2 with ⟨g,_⟩ | ⟨g,_,_⟩ | ⟨_,g,_⟩
   ·exact (Up_Dn g y).elim
   ·exact (Up_Dn g y).elim
   ·exact g
  have:=K3 x y hr
  have t:=Dn_tr (Up_ng x) y hr (by rw [cr_ng_l,← cr_anti]; exact a) (by omega) (Or.inr h)
  rw [cr_ng_l] at t
  omega
 ·rw [cr_anti] at a; omega
 ·rw [cr_anti] at a; omega
theorem Lt_cone2 {u p r:V26} (h1:Lt r u) (h2:Lt p r) (h:0<cr p r) (a:0≤cr p u) (b:0≤cr u r):False:=by
 rcases h1 with ⟨x,y⟩ | ⟨_,_,z⟩ | ⟨_,_,z⟩
 ·have hp:Up p:=by
   rcases h2 with ⟨_,g⟩ | ⟨g,_,_⟩ | ⟨_,g,_⟩
   ·exact (Up_Dn x g).elim
   ·exact g
   ·exact (Up_Dn x g).elim
  have t:=Up_tr (Dn_ng y) hp x (by rw [cr_ng_l,← cr_anti]; exact a) (by omega) (Or.inr h)
  rw [cr_ng_l] at t
  omega
 ·rw [cr_anti] at b; omega
 ·rw [cr_anti] at b; omega
end Go.Proofs.T1
namespace Go.Proofs.T1
open Go Go.Sx
structure Cv (n:Nat) (A:Nat→V26):Prop where
 n3:3≤n
 per:A n=A 0
 edge:∀ i j,i<n→j<n→j≠i→(j=0→i+1≠n)→j≠i+1→0<tri (A i) (A (i+1)) (A j)
 low:∀ j,0<j→j<n→Up (sb (A j) (A 0))
def ed (A:Nat→V26) (i:Nat):V26:=sb (A (i+1)) (A i)
section
variable {n:Nat} {A:Nat→V26}
theorem Cv.nn (h:Cv n A) {i j:Nat} (hi:i<n) (hj:j≤n):0≤cr (ed A i) (sb (A j) (A i)):=by
 have H:∀ j,j<n→0≤cr (ed A i) (sb (A j) (A i)):=by
  intro j hj
  by_cases a:j=i
  ·subst a; unfold cr sb; dsimp only; grind
  by_cases b:j=i+1
  ·subst b; exact Int.le_of_eq (cr_self _).symm
  by_cases c:j=0∧i+1=n
  ·have:A (i+1)=A j:=by rw [c.2,c.1,h.per]
   unfold ed; rw [this]; exact Int.le_of_eq (cr_self _).symm
  ·exact Int.le_of_lt (h.edge i j hi hj a (fun x y=>c ⟨x,y⟩) b)
 by_cases e:j=n
 ·rw [e,h.per]; exact H 0 (by have:=h.n3; omega)
 ·exact H j (by omega)
theorem cr_next (e a b p:V26) (h:e=sb b a):cr e (sb p b)=cr e (sb p a):=by subst h; unfold cr sb; dsimp only; grind
theorem Cv.nn2 (h:Cv n A) {i j:Nat} (hi:i<n) (hj:j≤n):0≤cr (ed A i) (sb (A j) (A (i+1))):=by
 rw [cr_next (ed A i) (A i) (A (i+1)) (A j) rfl]; exact h.nn hi hj
theorem Cv.turn (h:Cv n A) {i:Nat} (hi:i+1<n):0<cr (ed A i) (ed A (i+1)):=by
 have e:cr (ed A i) (ed A (i+1))=tri (A i) (A (i+1)) (A (i+2)):=cr_next _ _ _ _ rfl
 rw [e]
 have:=h.n3
 by_cases c:i+2=n
 ·rw [c,h.per]; exact h.edge i 0 (by omega) (by omega) (by omega) (by omega) (by omega)
 ·exact h.edge i (i+2) (by omega) (by omega) (by omega) (by omega) (by omega)
theorem Cv.wrap (h:Cv n A):0<cr (ed A (n - 1)) (ed A 0):=by
 have h3:=h.n3
 have e:ed A 0=sb (A 1) (A (n - 1+1)):=by rw [show n - 1+1=n by omega,h.per]; rfl
 rw [e,cr_next (ed A (n - 1)) (A (n - 1)) (A (n - 1+1)) (A 1) rfl]
 exact h.edge (n - 1) 1 (by omega) (by omega) (by omega) (by omega) (by omega)
theorem Cv.first (h:Cv n A):Up (ed A 0):=h.low 1 (by omega) (by have:=h.n3; omega)
theorem Cv.last (h:Cv n A):Dn (ed A (n - 1)):=by
 have h3:=h.n3
 have e:ed A (n - 1)=ng (sb (A (n - 1)) (A 0)):=by
  unfold ed; rw [show n - 1+1=n by omega,h.per]; unfold sb ng; refine v_ext ?_ ?_ <;> dsimp only <;> omega
 rw [e]; exact Up_ng (h.low (n - 1) (by omega) (by omega))
theorem half {u v:V26} (h:0<cr u v):(Up u∨Dn u)∧(Up v∨Dn v):=by
 constructor
 ·by_cases a:u.2.1=0∧u.1=0
  ·unfold cr at h; rw [a.1,a.2] at h; simp at h
  ·unfold Up Dn; omega
 ·by_cases a:v.2.1=0∧v.1=0
  ·unfold cr at h; rw [a.1,a.2] at h; simp at h
  ·unfold Up Dn; omega
theorem up_part {al x y:Int} (h:0≤al) (hu:0<y∨(y=0∧0<x)):0<al*y∨(al*y=0∧0≤al*x):=by
 rcases hu with g | ⟨g,f⟩
 ·rcases Int.lt_or_le 0 al with c | c
  ·exact Or.inl (Int.mul_pos c g)
  ·have:al=0:=by omega
   subst this; exact Or.inr ⟨by simp,by simp⟩
 ·subst g; exact Or.inr ⟨by simp,Int.mul_nonneg h (by omega)⟩
theorem up_cone {al be D ux uy vx vy wx wy:Int} (h1:0≤al) (h2:0≤be) (hD:0<D) (hu:0<uy∨(uy=0∧0<ux)) (hv:0<vy∨(vy=0∧0<vx))
  (ey:D*wy=al*uy+be*vy) (ex:D*wx=al*ux+be*vx) (hw:wy<0∨(wy=0∧wx<0)):False:=by
 have a:=up_part h1 hu
 have b:=up_part h2 hv
 rcases hw with g | ⟨g,f⟩
 ·have:=Int.mul_neg_of_pos_of_neg hD g; omega
 ·subst g
  have:=Int.mul_neg_of_pos_of_neg hD f
  simp at ey
  omega
theorem Cv.lt (h:Cv n A) {i:Nat} (hi:i+1<n):Lt (ed A i) (ed A (i+1)):=by
 have t:=h.turn hi
 obtain ⟨a,b⟩:=half t
 rcases a with a | a <;> rcases b with b | b
 ·exact Or.inr (Or.inl ⟨a,b,t⟩)
 ·exact Or.inl ⟨a,b⟩
 ·exfalso
  have l:=Up_ng (h.low (i+1) (by omega) hi)
  have n1:=h.nn2 (i:=i) (j:=0) (by omega) (by omega)
  have n2:=h.nn (i:=i+1) (j:=0) hi (by omega)
  have a':=Dn_ng a
  generalize hw:sb (A 0) (A (i+1))=w at n1 n2
  have l':Dn w:=by
   rw [← hw]; unfold Dn ng sb at l; unfold Dn sb; dsimp only at l ⊢; omega
  generalize ed A i=p at *
  generalize ed A (i+1)=r at *
  refine up_cone (al:=cr p w) (be:=cr r w) (D:=cr p r) (ux:=r.1) (uy:=r.2.1) (vx:=(ng p).1) (vy:=(ng p).2.1) (wx:=w.1) (wy:=w.2.1) n1 n2 t b a' ?_ ?_ l'
  ·unfold cr ng; dsimp only; grind
  ·unfold cr ng; dsimp only; grind
 ·exact Or.inr (Or.inr ⟨a,b,t⟩)
end
section
variable {n m:Nat} {A C:Nat→V26}
def Fi (n m:Nat) (A C:Nat→V26) (x y:Nat):Prop:=x<n∧(y=m∨0≤cr (ed A x) (ed C y))
instance (n m:Nat) (A C:Nat→V26) (x y:Nat):Decidable (Fi n m A C x y):=by unfold Fi; infer_instance
structure Inv (n m:Nat) (A C:Nat→V26) (x y:Nat):Prop where
 xn:x≤n
 ym:y≤m
 a:0<x→y<m→Lt (ed A (x - 1)) (ed C y)
 b:0<y→x<n→Lt (ed C (y - 1)) (ed A x)
theorem Inv.sym {x y:Nat} (h:Inv n m A C x y):Inv m n C A y x:=⟨h.ym,h.xn,h.b,h.a⟩
theorem updn (hA:Cv n A) (hC:Cv m C) {x y:Nat} (h:Inv n m A C x y) (hx:x<n) (hy:y<m) (a:Up (ed A x)) (b:Dn (ed C y)):0<cr (ed A x) (ed C y):=by
 by_cases c:y=0
 ·subst c; exact (Up_Dn hC.first b).elim
 ·have l:=h.b (by omega) hx
  have t:=hC.turn (i:=y - 1) (by omega)
  rw [show y - 1+1=y by omega] at t
  rcases l with ⟨_,g⟩ | ⟨f,_,z⟩ | ⟨_,g,_⟩
  ·exact (Up_Dn a g).elim
  ·exact K2 f a b (by omega) t
  ·exact (Up_Dn a g).elim
theorem Cv.half (hA:Cv n A) {x:Nat} (hx:x<n):Up (ed A x)∨Dn (ed A x):=by
 by_cases c:x+1<n
 ·exact (Go.Proofs.T1.half (hA.turn c)).1
 ·have:x=n - 1:=by omega
  rw [this]; exact Or.inr hA.last
theorem cmpL (hA:Cv n A) (hC:Cv m C) {x y:Nat} (h:Inv n m A C x y) (hx:x<n) (hy:y<m) (c:0≤cr (ed A x) (ed C y)):Le (ed A x) (ed C y):=by
 rcases hA.half hx with a | a <;> rcases hC.half hy with b | b
 ·exact Or.inr (Or.inl ⟨a,b,c⟩)
 ·exact Or.inl ⟨a,b⟩
 ·have:=updn hC hA h.sym hy hx b a
  rw [cr_anti] at this; omega
 ·exact Or.inr (Or.inr ⟨a,b,c⟩)
theorem Le_lt {u v:V26} (h:Le u v) (g:0<cr u v):Lt u v:=by
 rcases h with h | ⟨a,b,c⟩ | ⟨a,b,c⟩
 ·exact Or.inl h
 ·exact Or.inr (Or.inl ⟨a,b,g⟩)
 ·exact Or.inr (Or.inr ⟨a,b,g⟩)
theorem ext (hA:Cv n A) (hC:Cv m C) {x y:Nat} (h:Inv n m A C x y) (f:Fi n m A C x y) {j:Nat} (hj:j≤m):0≤cr (ed A x) (sb (C j) (C y)):=by
 have h3:=hC.n3
 have key:∀ p r:V26,0<cr p r→0≤cr p (sb (C j) (C y))→0≤cr r (sb (C j) (C y))→0≤cr (ed A x) r→0≤cr p (ed A x)→0≤cr (ed A x) (sb (C j) (C y)):=by
  intro p r hD h1 h2 h4 h5
  refine nn_of_mul hD ?_
  have e:cr p r*cr (ed A x) (sb (C j) (C y))=cr p (sb (C j) (C y))*cr (ed A x) r+cr r (sb (C j) (C y))*cr p (ed A x):=by
   generalize ed A x=e
   generalize sb (C j) (C y)=v
   unfold cr; grind
  rw [e]
  have:=Int.mul_nonneg h1 h4
  have:=Int.mul_nonneg h2 h5
  omega
 obtain ⟨hx,f⟩:=f
 by_cases y0:y=0
 ·subst y0
  have f:0≤cr (ed A x) (ed C 0):=by
   rcases f with f | f
   ·omega
   ·exact f
  have l:=cmpL hA hC h hx (by omega) f
  have w:=hC.wrap
  have up:Up (ed A x):=by
   rcases l with ⟨g,_⟩ | ⟨g,_,_⟩ | ⟨_,g,_⟩
   ·exact g
   ·exact g
   ·exact (Up_Dn hC.first g).elim
  have k:=K3' hC.last up hC.first w f
  have n1:=hC.nn2 (i:=m - 1) (j:=j) (by omega) hj
  rw [show m - 1+1=m by omega,hC.per] at n1
  exact key _ _ w n1 (hC.nn (by omega) hj) f (by omega)
 ·have l:=h.b (by omega) hx
  have n1:=hC.nn2 (i:=y - 1) (j:=j) (by have:=h.ym; omega) hj
  rw [show y - 1+1=y by omega] at n1
  by_cases ym:y=m
  ·subst ym
   have w:=hC.wrap
   have dn:Dn (ed A x)∧0<cr (ed C (y - 1)) (ed A x):=by
    rcases l with ⟨g,_⟩ | ⟨g,_,_⟩ | ⟨_,g,z⟩
    ·exact (Up_Dn g hC.last).elim
    ·exact (Up_Dn g hC.last).elim
    ·exact ⟨g,z⟩
   have k:=K2' hC.last dn.1 hC.first (by omega) w
   have n2:=hC.nn (i:=0) (j:=j) (by omega) hj
   rw [← hC.per] at n2
   exact key _ _ w n1 n2 (by omega) (by omega)
  ·have f:0≤cr (ed A x) (ed C y):=by
    rcases f with f | f
    ·omega
    ·exact f
   have hy:y<m:=by have:=h.ym; omega
   have t:=hC.turn (i:=y - 1) (by omega)
   rw [show y - 1+1=y by omega] at t
   refine key _ _ t n1 (hC.nn hy hj) f ?_
   rcases l with ⟨a,b⟩ | ⟨_,_,z⟩ | ⟨_,_,z⟩
   ·rcases cmpL hA hC h hx hy f with ⟨g,_⟩ | ⟨g,_,_⟩ | ⟨_,g,_⟩
    ·exact (Up_Dn g b).elim
    ·exact (Up_Dn g b).elim
    ·exact Int.le_of_lt (K3 a b g t f)
   ·omega
   ·omega
def fi (n m:Nat) (A C:Nat→V26) (x y:Nat):Nat:=if Fi n m A C x y then 1 else 0
def zed:V26:=(0,0,())
def dd (n m:Nat) (A C:Nat→V26) (x y:Nat):V26:=pl (if Fi n m A C x y then ed A x else zed) (if Fi m n C A y x then ed C y else zed)
theorem some_Fi {x y:Nat} (hx:x≤n) (hy:y≤m) (h:¬ (x=n∧y=m)):Fi n m A C x y∨Fi m n C A y x:=by
 unfold Fi
 by_cases a:x=n
 ·exact Or.inr ⟨by omega,Or.inl a⟩
 ·by_cases b:y=m
  ·exact Or.inl ⟨by omega,Or.inl b⟩
  ·rcases Int.le_total 0 (cr (ed A x) (ed C y)) with c | c
   ·exact Or.inl ⟨by omega,Or.inr c⟩
   ·exact Or.inr ⟨by omega,Or.inr (by rw [cr_anti]; omega)⟩
theorem only {x y:Nat} (f:Fi n m A C x y) (g:¬ Fi m n C A y x) (hy:y<m):0<cr (ed A x) (ed C y):=by
 unfold Fi at f g
 rcases Int.lt_or_le 0 (cr (ed A x) (ed C y)) with c | c
 ·exact c
 ·exact absurd ⟨hy,Or.inr (by rw [cr_anti]; omega)⟩ g
theorem step_inv (hA:Cv n A) (hC:Cv m C) {x y:Nat} (h:Inv n m A C x y) (hne:¬ (x=n∧y=m)) :
  Inv n m A C (x+fi n m A C x y) (y+fi m n C A y x) ∧
  (x+fi n m A C x y<n→Lt (dd n m A C x y) (ed A (x+fi n m A C x y)))∧(y+fi m n C A y x<m→Lt (dd n m A C x y) (ed C (y+fi m n C A y x))):=by
 have z1:∀ v:V26,pl v zed=v:=by intro v; unfold pl zed; dsimp only; rw [Int.add_zero,Int.add_zero]
 have z2:∀ v:V26,pl zed v=v:=by intro v; unfold pl zed; dsimp only; rw [Int.zero_add,Int.zero_add]
 have one:∀ {n m:Nat} {A C:Nat→V26} {x y:Nat},Cv n A→Cv m C→Inv n m A C x y→Fi n m A C x y→¬ Fi m n C A y x →
   Inv n m A C (x+1) y∧(x+1<n→Lt (ed A x) (ed A (x+1)))∧(y<m→Lt (ed A x) (ed C y)):=by
  intro n m A C x y hA hC h f g
  have l:y<m→Lt (ed A x) (ed C y):=fun hy=>Le_lt (cmpL hA hC h f.1 hy (by have:=only f g hy; omega)) (only f g hy)
  exact ⟨⟨f.1,h.ym,fun _ hy=>l hy,fun hy hx=>Lt_tr (h.b hy f.1) (hA.lt hx)⟩,fun hx=>hA.lt hx,l⟩
 unfold dd fi
 by_cases f:Fi n m A C x y <;> by_cases g:Fi m n C A y x
 ·rw [if_pos f,if_pos g,if_pos f,if_pos g]
  have hx:=f.1
  have hy:=g.1
  have c1:0≤cr (ed A x) (ed C y):=f.2.resolve_left (by omega)
  have c2:0≤cr (ed C y) (ed A x):=g.2.resolve_left (by omega)
  have l1:=cmpL hA hC h hx hy c1
  have l2:=cmpL hC hA h.sym hy hx c2
  have hh:(Up (ed A x)∧Up (ed C y))∨(Dn (ed A x)∧Dn (ed C y)):=by
   rcases l1 with ⟨a,b⟩ | ⟨a,b,_⟩ | ⟨a,b,_⟩
   ·rcases l2 with ⟨c,_⟩ | ⟨c,_,_⟩ | ⟨_,c,_⟩
    ·exact (Up_Dn c b).elim
    ·exact (Up_Dn c b).elim
    ·exact (Up_Dn a c).elim
   ·exact Or.inl ⟨a,b⟩
   ·exact Or.inr ⟨a,b⟩
  exact ⟨⟨hx,hy,fun _ hy'=>LeLt l1 (hC.lt hy'),fun _ hx'=>LeLt l2 (hA.lt hx')⟩,
   fun hx'=>Lt_pl_l (hA.lt hx') (LeLt l2 (hA.lt hx')) hh,fun hy'=>Lt_pl_l (LeLt l1 (hC.lt hy')) (hC.lt hy') hh⟩
 ·rw [if_pos f,if_neg g,if_pos f,if_neg g,z1]
  exact one hA hC h f g
 ·rw [if_neg f,if_pos g,if_neg f,if_pos g,z2]
  have:=one hC hA h.sym g f
  exact ⟨this.1.sym,this.2.2,this.2.1⟩
 ·rcases some_Fi (A:=A) (C:=C) h.xn h.ym hne with c | c
  ·exact absurd c f
  ·exact absurd c g
end
end Go.Proofs.T1
namespace Go.Proofs.T1
open Go Go.Sx
theorem ring_edge {T:Nat} {M D:Nat→V26} (hT:3≤T) (S:∀ t,t<T→D t=sb (M (t+1)) (M t)) (per:M T=M 0) (W:∀ t j,t<T→j≤T→0≤cr (D t) (sb (M j) (M t)))
  (O:∀ t,t+1<T→Lt (D t) (D (t+1))) (tn:∀ t,t+1<T→0<cr (D t) (D (t+1))) (u0:Up (D 0)) (dl:Dn (D (T - 1))) :
  ∀ t j,t<T→j<T→j≠t→(j=0→t+1≠T)→j≠t+1→0<tri (M t) (M (t+1)) (M j):=by
 have ch:∀ t s,s<t→t<T→Lt (D s) (D t):=by
  intro t
  induction t with
  | zero=>intro s h; omega
  | succ t ih =>
   intro s h g
   by_cases e:s=t
   ·rw [e]; exact O t g
   ·exact Lt_tr (ih s (by omega) (by omega)) (O t g)
 intro t j ht hj n1 n2 n3
 rw [tri_cr,← S t ht]
 rcases Int.lt_or_le 0 (cr (D t) (sb (M j) (M t))) with c | c
 ·exact c
 exfalso
 have c0:cr (D t) (sb (M j) (M t))=0:=by have:=W t j ht (by omega); omega
 have a:0≤cr (D t) (D j):=by
  have h1:=W t (j+1) ht (by omega)
  rw [S j hj]
  unfold cr sb at *
  dsimp only at *
  grind
 have b:∀ p,p<T→M (p+1)=M j→0≤cr (D p) (D t):=by
  intro p hp e
  have h1:=W t p ht (by omega)
  rw [cr_anti,S p hp,e]
  unfold cr sb at *
  dsimp only at *
  grind
 by_cases j0:j=0
 ·subst j0
  have n4:=n2 rfl
  have b':=b (T - 1) (by omega) (by rw [show T - 1+1=T by omega,per])
  rcases ch t 0 (by omega) ht with ⟨_,g⟩ | ⟨_,_,z⟩ | ⟨g,_,_⟩
  ·rcases ch (T - 1) t (by omega) (by omega) with ⟨f,_⟩ | ⟨f,_,_⟩ | ⟨_,_,z⟩
   ·exact Up_Dn f g
   ·exact Up_Dn f g
   ·rw [cr_anti] at b'; omega
  ·rw [cr_anti] at a; omega
  ·exact Up_Dn u0 g
 ·have b':=b (j - 1) (by omega) (by rw [show j - 1+1=j by omega])
  have l:=O (j - 1) (by omega)
  have t1:=tn (j - 1) (by omega)
  rw [show j - 1+1=j by omega] at l t1
  rcases Nat.lt_or_ge t j with g | g
  ·exact Lt_cone1 (ch (j - 1) t (by omega) (by omega)) l t1 b' a
  ·exact Lt_cone2 (ch t j (by omega) ht) l t1 b' a
section
variable {n m:Nat} {A C:Nat→V26}
def stp (n m:Nat) (A C:Nat→V26) (s:Nat × Nat):Nat × Nat:=(s.1+fi n m A C s.1 s.2,s.2+fi m n C A s.2 s.1)
def sta (n m:Nat) (A C:Nat→V26):Nat→Nat × Nat
 | 0=>(0,0)
 | t+1=>stp n m A C (sta n m A C t)
def mp (A C:Nat→V26) (s:Nat × Nat):V26:=pl (A s.1) (C s.2)
def Dt (n m:Nat) (A C:Nat→V26) (t:Nat):V26:=dd n m A C (sta n m A C t).1 (sta n m A C t).2
def Mt (n m:Nat) (A C:Nat→V26) (t:Nat):V26:=mp A C (sta n m A C t)
structure Path (n m:Nat) (A C:Nat→V26) (T:Nat):Prop where
 le:T≤n+m
 ge:n≤T
 fin:sta n m A C T=(n,m)
 ne:∀ t,t<T→¬ ((sta n m A C t).1=n∧(sta n m A C t).2=m)
 inv:∀ t,t≤T→Inv n m A C (sta n m A C t).1 (sta n m A C t).2
theorem fi_le (x y:Nat):fi n m A C x y≤1:=by unfold fi; split <;> omega
theorem path (hA:Cv n A) (hC:Cv m C):∃ T,Path n m A C T:=by
 have H:∀ k t,n+m≤(sta n m A C t).1+(sta n m A C t).2+k→t≤(sta n m A C t).1+(sta n m A C t).2→(∀ s,s≤t→Inv n m A C (sta n m A C s).1 (sta n m A C s).2) →
   (∀ s,s<t→¬ ((sta n m A C s).1=n∧(sta n m A C s).2=m))→(sta n m A C t).1≤t→∃ T,Path n m A C T:=by
  intro k
  induction k with
  | zero =>
   intro t h1 h2 h3 h4 h5
   have i:=h3 t (Nat.le_refl t)
   have:=i.xn
   have:=i.ym
   exact ⟨t,by omega,by omega,Prod.ext (by omega) (by omega),h4,h3⟩
  | succ k ih =>
   intro t h1 h2 h3 h4 h5
   have i:=h3 t (Nat.le_refl t)
   by_cases e:(sta n m A C t).1=n∧(sta n m A C t).2=m
   ·have:=i.xn
    have:=i.ym
    exact ⟨t,by omega,by omega,Prod.ext e.1 e.2,h4,h3⟩
   ·have q1:(sta n m A C (t+1)).1=(sta n m A C t).1+fi n m A C (sta n m A C t).1 (sta n m A C t).2:=rfl
    have q2:(sta n m A C (t+1)).2=(sta n m A C t).2+fi m n C A (sta n m A C t).2 (sta n m A C t).1:=rfl
    have f1:=fi_le (n:=n) (m:=m) (A:=A) (C:=C) (sta n m A C t).1 (sta n m A C t).2
    have s1:1≤fi n m A C (sta n m A C t).1 (sta n m A C t).2+fi m n C A (sta n m A C t).2 (sta n m A C t).1:=by
     rcases some_Fi (A:=A) (C:=C) i.xn i.ym e with c | c
     ·unfold fi; rw [if_pos c]; omega
     ·unfold fi; rw [if_pos c]; omega
    refine ih (t+1) (by omega) (by omega) ?_ ?_ (by omega)
    ·intro s hs
     by_cases c:s=t+1
     ·subst c; exact (step_inv hA hC i e).1
     ·exact h3 s (by omega)
    ·intro s hs
     by_cases c:s=t
     ·subst c; exact e
     ·exact h4 s (by omega)
 refine H (n+m) 0 (by omega) (Nat.zero_le _) ?_ (fun s h=>by omega) (Nat.le_refl 0)
 intro s hs
 have:s=0:=by omega
 subst this
 exact ⟨Nat.zero_le _,Nat.zero_le _,fun h=>absurd h (Nat.lt_irrefl 0),fun h=>absurd h (Nat.lt_irrefl 0)⟩
theorem M_step (t:Nat):Dt n m A C t=sb (Mt n m A C (t+1)) (Mt n m A C t):=by
 have e:sta n m A C (t+1)=stp n m A C (sta n m A C t):=rfl
 unfold Dt Mt mp
 rw [e]
 generalize sta n m A C t=s
 obtain ⟨x,y⟩:=s
 unfold stp dd fi
 dsimp only
 by_cases f:Fi n m A C x y <;> by_cases g:Fi m n C A y x
 ·rw [if_pos f,if_pos g,if_pos f,if_pos g]; unfold ed pl sb; refine v_ext ?_ ?_ <;> dsimp only <;> (try simp only [Nat.add_zero]) <;> omega
 ·rw [if_pos f,if_neg g,if_pos f,if_neg g]; unfold ed pl sb zed; refine v_ext ?_ ?_ <;> dsimp only <;> (try simp only [Nat.add_zero]) <;> omega
 ·rw [if_neg f,if_pos g,if_neg f,if_pos g]; unfold ed pl sb zed; refine v_ext ?_ ?_ <;> dsimp only <;> (try simp only [Nat.add_zero]) <;> omega
 ·rw [if_neg f,if_neg g,if_neg f,if_neg g]; unfold pl sb zed; refine v_ext ?_ ?_ <;> dsimp only <;> (try simp only [Nat.add_zero]) <;> omega
theorem part_nn (hA:Cv n A) (hC:Cv m C) {x y:Nat} (h:Inv n m A C x y) (f:Fi n m A C x y) {i j:Nat} (hi:i≤n) (hj:j≤m):0≤cr (ed A x) (sb (pl (A i) (C j)) (pl (A x) (C y))):=by
 have a:=hA.nn f.1 hi
 have b:=ext hA hC h f hj
 have e:cr (ed A x) (sb (pl (A i) (C j)) (pl (A x) (C y)))=cr (ed A x) (sb (A i) (A x))+cr (ed A x) (sb (C j) (C y)):=by
  generalize ed A x=e
  unfold cr sb pl; dsimp only; grind
 rw [e]; omega
theorem pl_comm (u v:V26):pl u v=pl v u:=by unfold pl; rw [Int.add_comm,Int.add_comm u.2.1]
theorem cr_zed (v:V26):cr zed v=0:=by unfold cr zed; simp
theorem M_nn (hA:Cv n A) (hC:Cv m C) {T:Nat} (P:Path n m A C T) {t:Nat} (ht:t≤T) {i j:Nat} (hi:i≤n) (hj:j≤m):0≤cr (Dt n m A C t) (sb (pl (A i) (C j)) (Mt n m A C t)):=by
 have h:=P.inv t ht
 unfold Dt Mt mp dd
 generalize sta n m A C t=s at *
 obtain ⟨x,y⟩:=s
 dsimp only at *
 rw [cr_pl_l]
 have a:0≤cr (if Fi n m A C x y then ed A x else zed) (sb (pl (A i) (C j)) (pl (A x) (C y))):=by
  by_cases f:Fi n m A C x y
  ·rw [if_pos f]; exact part_nn hA hC h f hi hj
  ·rw [if_neg f,cr_zed]; exact Int.le_refl 0
 have b:0≤cr (if Fi m n C A y x then ed C y else zed) (sb (pl (A i) (C j)) (pl (A x) (C y))):=by
  by_cases f:Fi m n C A y x
  ·rw [if_pos f,pl_comm (A i),pl_comm (A x)]; exact part_nn hC hA h.sym f hj hi
  ·rw [if_neg f,cr_zed]; exact Int.le_refl 0
 omega
theorem par_half (hA:Cv n A) (hC:Cv m C) {x y:Nat} (h:Inv n m A C x y) (f:Fi n m A C x y) (g:Fi m n C A y x):(Up (ed A x)∧Up (ed C y))∨(Dn (ed A x)∧Dn (ed C y)):=by
 have hx:=f.1
 have hy:=g.1
 have c1:0≤cr (ed A x) (ed C y):=f.2.resolve_left (by omega)
 have c2:0≤cr (ed C y) (ed A x):=g.2.resolve_left (by omega)
 have l1:=cmpL hA hC h hx hy c1
 have l2:=cmpL hC hA h.sym hy hx c2
 rcases l1 with ⟨a,b⟩ | ⟨a,b,_⟩ | ⟨a,b,_⟩
 ·rcases l2 with ⟨c,_⟩ | ⟨c,_,_⟩ | ⟨_,c,_⟩
  ·exact (Up_Dn c b).elim
  ·exact (Up_Dn c b).elim
  ·exact (Up_Dn a c).elim
 ·exact Or.inl ⟨a,b⟩
 ·exact Or.inr ⟨a,b⟩
theorem pl_zed (v:V26):pl v zed=v:=by unfold pl zed; dsimp only; rw [Int.add_zero,Int.add_zero]
theorem zed_pl (v:V26):pl zed v=v:=by unfold pl zed; dsimp only; rw [Int.zero_add,Int.zero_add]
theorem Up_pl {u v:V26} (a:Up u) (b:Up v):Up (pl u v):=by unfold Up at *; unfold pl; dsimp only; omega
theorem Dn_pl {u v:V26} (a:Dn u) (b:Dn v):Dn (pl u v):=by unfold Dn at *; unfold pl; dsimp only; omega
theorem dd_cases (hA:Cv n A) (hC:Cv m C) {x y:Nat} (h:Inv n m A C x y) (hne:¬ (x=n∧y=m)) {Q:V26→Prop} (q1:x<n→Q (ed A x)) (q2:y<m→Q (ed C y))
  (q3:x<n→y<m→(Up (ed A x)∧Up (ed C y))∨(Dn (ed A x)∧Dn (ed C y))→Q (pl (ed A x) (ed C y))):Q (dd n m A C x y):=by
 unfold dd
 by_cases f:Fi n m A C x y <;> by_cases g:Fi m n C A y x
 ·rw [if_pos f,if_pos g]; exact q3 f.1 g.1 (par_half hA hC h f g)
 ·rw [if_pos f,if_neg g,pl_zed]; exact q1 f.1
 ·rw [if_neg f,if_pos g,zed_pl]; exact q2 g.1
 ·rcases some_Fi (A:=A) (C:=C) h.xn h.ym hne with c | c
  ·exact absurd c f
  ·exact absurd c g
theorem D_lt (hA:Cv n A) (hC:Cv m C) {T:Nat} (P:Path n m A C T) {t:Nat} (ht:t+1<T):Lt (Dt n m A C t) (Dt n m A C (t+1)):=by
 have h:=step_inv hA hC (P.inv t (by omega)) (P.ne t (by omega))
 have h1:=P.inv (t+1) (by omega)
 have h2:=P.ne (t+1) ht
 exact dd_cases hA hC h1 h2 (Q:=fun v=>Lt (Dt n m A C t) v) h.2.1 h.2.2 (fun hx hy hh=>Lt_pl_r (h.2.1 hx) (h.2.2 hy) hh)
theorem D_first (hA:Cv n A) (hC:Cv m C) {T:Nat} (P:Path n m A C T):Up (Dt n m A C 0) :=
 dd_cases hA hC (P.inv 0 (Nat.zero_le _)) (P.ne 0 (by have:=P.ge; have:=hA.n3; omega)) (Q:=Up) (fun _=>hA.first) (fun _=>hC.first) (fun _ _ _=>Up_pl hA.first hC.first)
theorem D_last (hA:Cv n A) (hC:Cv m C) {T:Nat} (P:Path n m A C T):Dn (Dt n m A C (T - 1)):=by
 have h3:=hA.n3
 have g3:=P.ge
 have h:=P.inv (T - 1) (by omega)
 have e:sta n m A C T=stp n m A C (sta n m A C (T - 1)):=by
  have:T=T - 1+1:=by omega
  rw [this]; rfl
 rw [P.fin] at e
 unfold Dt
 have hne:=P.ne (T - 1) (by omega)
 generalize sta n m A C (T - 1)=s at *
 obtain ⟨x,y⟩:=s
 dsimp only at *
 unfold stp fi at e
 dsimp only at e
 have e1:=congrArg Prod.fst e
 have e2:=congrArg Prod.snd e
 dsimp only at e1 e2
 refine dd_cases hA hC h hne (Q:=Dn) (fun hx=>?_) (fun hy=>?_) (fun hx hy _=>?_)
 ·have:x=n - 1:=by split at e1 <;> omega
  rw [this]; exact hA.last
 ·have:y=m - 1:=by split at e2 <;> omega
  rw [this]; exact hC.last
 ·have a1:x=n - 1:=by split at e1 <;> omega
  have a2:y=m - 1:=by split at e2 <;> omega
  rw [a1,a2]; exact Dn_pl hA.last hC.last
theorem flat {u v w:V26} (hu:Up u) (hv:Dn v) (h:cr u v=0) (a:0≤cr u w) (b:0≤cr v w):cr u w=0:=by
 have i1:cr u w*v.2.1=cr v w*u.2.1+cr u v*w.2.1:=by unfold cr; grind
 have i2:cr u w*v.1=cr v w*u.1+cr u v*w.1:=by unfold cr; grind
 rw [h] at i1 i2
 simp only [Int.zero_mul,Int.add_zero] at i1 i2
 rcases Int.lt_or_le 0 (cr u w) with c | c
 ·exfalso
  rcases hv with d | ⟨d,e⟩
  ·have:=Int.mul_neg_of_pos_of_neg c d
   have:0≤cr v w*u.2.1:=Int.mul_nonneg b (by unfold Up at hu; omega)
   omega
  ·have:=Int.mul_neg_of_pos_of_neg c e
   rcases hu with f | ⟨f,g⟩
   ·unfold cr at h
    rw [d] at h
    have:=Int.mul_neg_of_pos_of_neg f e
    simp at h
    omega
   ·have:0≤cr v w*u.1:=Int.mul_nonneg b (by omega)
    omega
 ·omega
theorem Cv.fat (hA:Cv n A) {u:V26} (hu:Up u) (h1:cr u (ed A 0)=0) (h2:cr u (ed A 1)=0):False:=by
 have t:=hA.turn (i:=0) (by have:=hA.n3; omega)
 rw [show 0+1=1 from rfl] at t
 generalize ed A 0=a at *
 generalize ed A 1=b at *
 have i1:cr a b*u.2.1=cr u b*a.2.1 - cr u a*b.2.1:=by unfold cr; grind
 have i2:cr a b*u.1=cr u b*a.1 - cr u a*b.1:=by unfold cr; grind
 rw [h1,h2] at i1 i2
 simp only [Int.zero_mul,Int.sub_self] at i1 i2
 rcases hu with f | ⟨f,g⟩
 ·have:=Int.mul_pos t f; omega
 ·have:=Int.mul_pos t g; omega
theorem no_flat (hA:Cv n A) (hC:Cv m C) {T:Nat} (P:Path n m A C T) {s t:Nat} (hs:s≤T) (ht:t≤T) (hu:Up (Dt n m A C s)) (hv:Dn (Dt n m A C t)) (h:cr (Dt n m A C s) (Dt n m A C t)=0)
  (e:cr (Dt n m A C t) (sb (Mt n m A C s) (Mt n m A C t))=0):False:=by
 have z:∀ i,i≤n→cr (Dt n m A C s) (sb (pl (A i) (C 0)) (Mt n m A C s))=0:=by
  intro i hi
  refine flat hu hv h (M_nn hA hC P hs hi (Nat.zero_le _)) ?_
  have:=M_nn hA hC P ht hi (j:=0) (Nat.zero_le _)
  generalize Dt n m A C t=v at *
  unfold cr sb at *
  dsimp only at *
  grind
 have h3:=hA.n3
 have z0:=z 0 (by omega)
 have z1:=z 1 (by omega)
 have z2:=z 2 (by omega)
 generalize Mt n m A C s=M at *
 refine hA.fat hu ?_ ?_
 ·unfold ed
  generalize Dt n m A C s=u at *
  unfold cr sb pl at *
  dsimp only at *
  grind
 ·unfold ed
  generalize Dt n m A C s=u at *
  unfold cr sb pl at *
  dsimp only at *
  grind
theorem M_in (hA:Cv n A) (hC:Cv m C) {T:Nat} (P:Path n m A C T) {t j:Nat} (ht:t≤T) (hj:j≤T):0≤cr (Dt n m A C t) (sb (Mt n m A C j) (Mt n m A C t)):=by
 have h:=P.inv j hj
 exact M_nn hA hC P ht h.xn h.ym
theorem D_turn (hA:Cv n A) (hC:Cv m C) {T:Nat} (P:Path n m A C T) {t:Nat} (ht:t+1<T):0<cr (Dt n m A C t) (Dt n m A C (t+1)):=by
 rcases D_lt hA hC P ht with ⟨a,b⟩ | ⟨_,_,z⟩ | ⟨_,_,z⟩
 ·have w:=M_in hA hC P (t:=t) (j:=t+2) (by omega) (by omega)
  have e1:=M_step (n:=n) (m:=m) (A:=A) (C:=C) t
  have e2:=M_step (n:=n) (m:=m) (A:=A) (C:=C) (t+1)
  have w2:0≤cr (Dt n m A C t) (Dt n m A C (t+1)):=by
   rw [e2,cr_next _ (Mt n m A C t) _ _ e1]; exact w
  rcases Int.lt_or_le 0 (cr (Dt n m A C t) (Dt n m A C (t+1))) with c | c
  ·exact c
  ·exfalso
   have c0:cr (Dt n m A C t) (Dt n m A C (t+1))=0:=by omega
   refine no_flat hA hC P (by omega) (by omega) a b c0 ?_
   have:cr (Dt n m A C (t+1)) (sb (Mt n m A C t) (Mt n m A C (t+1)))=cr (Dt n m A C t) (Dt n m A C (t+1)):=by
    rw [e1]; generalize Dt n m A C (t+1)=v; unfold cr sb; dsimp only; grind
   rw [this,c0]
 ·exact z
 ·exact z
theorem M_per (hA:Cv n A) (hC:Cv m C) {T:Nat} (P:Path n m A C T):Mt n m A C T=Mt n m A C 0:=by
 unfold Mt mp
 rw [P.fin]
 show pl (A n) (C m)=pl (A 0) (C 0)
 rw [hA.per,hC.per]
theorem M_edge (hA:Cv n A) (hC:Cv m C) {T:Nat} (P:Path n m A C T):∀ t j,t<T→j<T→j≠t→(j=0→t+1≠T)→j≠t+1→0<tri (Mt n m A C t) (Mt n m A C (t+1)) (Mt n m A C j) :=
 ring_edge (by have:=P.ge; have:=hA.n3; omega) (fun t _=>M_step t) (M_per hA hC P) (fun t j ht hj=>M_in hA hC P (by omega) hj) (fun t ht=>D_lt hA hC P ht) (fun t ht=>D_turn hA hC P ht) (D_first hA hC P) (D_last hA hC P)
end
end Go.Proofs.T1
namespace Go.Proofs.T1
open Go Go.Sx
def rot (l:List V26) (i0 i:Nat):V26:=q l (if (i0:Int)+i<len l then (i0:Int)+i else (i0:Int)+i - len l)
def LowP (l:List V26) (i0:Nat):Prop:=(i0:Int)<len l∧∀ j,0≤j→j<len l→j≠i0→Up (sb (q l j) (q l i0))
theorem EdgeP_ne {l:List V26} (he:EdgeP l) (h3:3≤len l) {i j:Int} (i0:0≤i) (i1:i<len l) (j0:0≤j) (j1:j<len l) (h:j≠i):q l j≠q l i:=by
 intro e
 by_cases c:j=nx (len l) i
 ·-- any third corner
  have hz:∀ r,0≤r→r<len l→r≠i→r≠nx (len l) i→False:=by
   intro r r0 r1 a b
   have:=he i r i0 i1 r0 r1 a b
   rw [← c,e] at this
   unfold tri at this
   simp at this
  by_cases c2:nx (len l) j=i
  ·unfold nx at c c2
   split at c <;> split at c2 <;> omega
  ·exact hz (nx (len l) j) (nx_range j0 j1).1 (nx_range j0 j1).2 c2 (by rw [← c]; unfold nx; split <;> omega)
 ·have:=he i j i0 i1 j0 j1 h c
  rw [e,tri_self2] at this
  omega
theorem Up_tot {u v:V26} (h:v≠u):Up (sb v u)∨Up (sb u v):=by
 obtain ⟨a,b,_⟩:=u
 obtain ⟨c,d,_⟩:=v
 have:¬ (c=a∧d=b):=fun g=>h (by rw [g.1,g.2])
 unfold Up sb; dsimp only; omega
theorem Up_add {u v w:V26} (h:Up (sb u v)) (g:Up (sb v w)):Up (sb u w):=by
 unfold Up sb at *; dsimp only at *; omega
theorem rot_at (l:List V26) {i0 i:Nat} (h0:(i0:Int)<len l) (hi:(i:Int)<len l) :
  ∃ r,0≤r∧r<len l∧rot l i0 i=q l r∧rot l i0 (i+1)=q l (nx (len l) r)∧r=(if (i0:Int)+i<len l then (i0:Int)+i else (i0:Int)+i - len l):=by
 refine ⟨if (i0:Int)+i<len l then (i0:Int)+i else (i0:Int)+i - len l,by split <;> omega,by split <;> omega,rfl,?_,rfl⟩
 unfold rot
 congr 1
 unfold nx
 push_cast
 split <;> split <;> split <;> omega
theorem rot_Cv {l:List V26} (he:EdgeP l) (h3:3≤len l) {i0:Nat} (h:LowP l i0):Cv l.length (rot l i0):=by
 have hl:len l=(l.length:Int):=rfl
 obtain ⟨h0,h1⟩:=h
 refine ⟨by omega,?_,?_,?_⟩
 ·unfold rot; congr 1; split <;> split <;> omega
 ·intro i j hi hj n1 n2 n3
  obtain ⟨r,r0,r1,e1,e2,e3⟩:=rot_at l (i0:=i0) (i:=i) h0 (by omega)
  obtain ⟨s,s0,s1,f1,f2,f3⟩:=rot_at l (i0:=i0) (i:=j) h0 (by omega)
  rw [e1,e2,f1]
  have n4:s≠r:=by split at e3 <;> split at f3 <;> omega
  refine he r s r0 r1 s0 s1 n4 ?_
  unfold nx
  split at e3 <;> split at f3 <;> split <;> omega
 ·intro j j0 hj
  obtain ⟨s,s0,s1,f1,f2,f3⟩:=rot_at l (i0:=i0) (i:=j) h0 (by omega)
  have e0:rot l i0 0=q l i0:=by unfold rot; congr 1; split <;> omega
  rw [f1,e0]
  exact h1 s s0 s1 (by split at f3 <;> omega)
theorem rot_all {l:List V26} {i0:Nat} (h0:(i0:Int)<len l) {r:Int} (r0:0≤r) (r1:r<len l):∃ i:Nat,i<l.length∧rot l i0 i=q l r:=by
 have hl:len l=(l.length:Int):=rfl
 by_cases c:(i0:Int)≤r
 ·refine ⟨(r - i0).toNat,by omega,?_⟩
  unfold rot; congr 1; split <;> omega
 ·refine ⟨(r - i0+len l).toNat,by omega,?_⟩
  unfold rot; congr 1; split <;> omega
def negl (l:List V26):List V26:=l.map ng
theorem len_negl (l:List V26):len (negl l)=len l:=by unfold len negl; simp
theorem q_negl {l:List V26} {i:Int} (h0:0≤i) (h1:i<len l):q (negl l) i=ng (q l i):=by
 obtain ⟨i,rfl⟩:=Int.eq_ofNat_of_zero_le h0
 have hi:i<l.length:=by unfold len at h1; omega
 show (negl l).getD i Z26=ng (l.getD i Z26)
 rw [List.getD_eq_getElem?_getD,List.getD_eq_getElem?_getD]
 unfold negl
 rw [List.getElem?_map,List.getElem?_eq_getElem hi]
 rfl
theorem tri_ng (a b p:V26):tri (ng a) (ng b) (ng p)=tri a b p:=by unfold tri ng; dsimp only; grind
theorem EdgeP_negl {l:List V26} (he:EdgeP l):EdgeP (negl l):=by
 intro i j i0 i1 j0 j1 n1 n2
 rw [len_negl] at *
 rw [q_negl i0 i1,q_negl j0 j1,q_negl (nx_range i0 i1).1 (nx_range i0 i1).2,tri_ng]
 exact he i j i0 i1 j0 j1 n1 n2
def lst (T:Nat) (M:Nat→V26):List V26:=(List.range T).map M
theorem len_lst (T:Nat) (M:Nat→V26):len (lst T M)=T:=by unfold len lst; simp
theorem q_lst {T:Nat} {M:Nat→V26} {i:Int} (h0:0≤i) (h1:i<T):q (lst T M) i=M i.toNat:=by
 obtain ⟨i,rfl⟩:=Int.eq_ofNat_of_zero_le h0
 show (lst T M).getD i Z26=_
 rw [List.getD_eq_getElem?_getD]
 unfold lst
 rw [List.getElem?_map,List.getElem?_range (by omega)]
 rfl
theorem ring_EdgeP {T:Nat} {M:Nat→V26} (hT:1≤T) (per:M T=M 0) (h:∀ t j,t<T→j<T→j≠t→(j=0→t+1≠T)→j≠t+1→0<tri (M t) (M (t+1)) (M j)):EdgeP (lst T M):=by
 intro i j i0 i1 j0 j1 n1 n2
 rw [len_lst] at *
 have hn:=nx_range i0 i1
 rw [q_lst i0 i1,q_lst j0 j1,q_lst hn.1 hn.2]
 have e:M (nx (T:Int) i).toNat=M (i.toNat+1):=by
  unfold nx at *
  split
  ·rename_i c
   rw [show i.toNat+1=T by omega,per]; rfl
  ·congr 1; omega
 rw [e]
 unfold nx at n2
 exact h i.toNat j.toNat (by omega) (by omega) (by omega) (by intro a b; split at n2 <;> omega) (by intro a; split at n2 <;> omega)
def hs (a b:V26) (X Y w:Int):Int:=(b.1 - a.1)*(Y - w*a.2.1) - (b.2.1 - a.2.1)*(X - w*a.1)
def HIn (l:List V26) (X Y w:Int):Prop:=∀ i,0≤i→i<len l→0≤hs (q l i) (q l (nx (len l) i)) X Y w
def NoSep (a b:List V26):Prop:=∀ i,0≤i→i<len a→∃ j,0≤j∧j<len b∧0≤tri (q a i) (q a (nx (len a) i)) (q b j)
structure Dif (a b l:List V26):Prop where
 edge:EdgeP l
 len3:3≤len l
 le:len l≤len a+len b
 dif:∀ t,0≤t→t<len l→∃ i j,(0≤i∧i<len a)∧(0≤j∧j<len b)∧q l t=sb (q a i) (q b j)
 all:∀ t i j,0≤t→t<len l→0≤i→i<len a→0≤j→j<len b→0≤tri (q l t) (q l (nx (len l) t)) (sb (q a i) (q b j))
 zero:NoSep a b→NoSep b a→InP l zed
theorem sb_ng (u v:V26):pl u (ng v)=sb u v:=by unfold pl ng sb; rfl
theorem dif_of {a b:List V26} (ha:EdgeP a) (a3:3≤len a) (hb:EdgeP b) (b3:3≤len b) {i0 k0:Nat} (hi:LowP a i0) (hk:LowP (negl b) k0) {T:Nat}
  (P:Path a.length b.length (rot a i0) (rot (negl b) k0) T):Dif a b (lst T (Mt a.length b.length (rot a i0) (rot (negl b) k0))):=by
 have hA:=rot_Cv ha a3 hi
 have lb:(negl b).length=b.length:=by unfold negl; simp
 have hC:=rot_Cv (EdgeP_negl hb) (by rw [len_negl]; exact b3) hk
 rw [lb] at hC
 have la:len a=(a.length:Int):=rfl
 have lbb:len b=(b.length:Int):=rfl
 have hge:=P.ge
 have hle:=P.le
 have k1:=hk.1
 rw [len_negl] at k1
 have eA:∀ i,i≤a.length→∃ r,0≤r∧r<len a∧rot a i0 i=q a r:=by
  intro i h
  by_cases c:i=a.length
  ·rw [c,hA.per]
   obtain ⟨r,r0,r1,e,_⟩:=rot_at a (i0:=i0) (i:=0) hi.1 (by omega)
   exact ⟨r,r0,r1,e⟩
  ·obtain ⟨r,r0,r1,e,_⟩:=rot_at a (i0:=i0) (i:=i) hi.1 (by omega)
   exact ⟨r,r0,r1,e⟩
 have eC:∀ i,i≤b.length→∃ r,0≤r∧r<len b∧rot (negl b) k0 i=ng (q b r):=by
  intro i h
  have H:∀ i,i<b.length→∃ r,0≤r∧r<len b∧rot (negl b) k0 i=ng (q b r):=by
   intro i h
   obtain ⟨r,r0,r1,e,_⟩:=rot_at (negl b) (i0:=k0) (i:=i) hk.1 (by rw [len_negl]; omega)
   rw [len_negl] at r1
   rw [q_negl r0 r1] at e
   exact ⟨r,r0,r1,e⟩
  by_cases c:i=b.length
  ·rw [c,hC.per]; exact H 0 (by omega)
  ·exact H i (by omega)
 refine ⟨ring_EdgeP (by omega) (M_per hA hC P) (M_edge hA hC P),by rw [len_lst]; omega,by rw [len_lst]; omega,?_,?_,?_⟩
 ·intro t t0 t1
  rw [len_lst] at t1
  rw [q_lst t0 t1]
  have h:=P.inv t.toNat (by omega)
  obtain ⟨r,r0,r1,e⟩:=eA _ h.xn
  obtain ⟨s,s0,s1,f⟩:=eC _ h.ym
  refine ⟨r,s,⟨r0,r1⟩,⟨s0,s1⟩,?_⟩
  unfold Mt mp
  rw [e,f,sb_ng]
 ·intro t i j t0 t1 i0' i1 j0 j1
  have hn:=nx_range t0 t1
  rw [len_lst] at *
  rw [q_lst t0 t1,q_lst hn.1 hn.2]
  obtain ⟨r,r1,e⟩:=rot_all (i0:=i0) hi.1 i0' i1
  obtain ⟨s,s1,f⟩:=rot_all (l:=negl b) (i0:=k0) hk.1 j0 (by rw [len_negl]; exact j1)
  rw [q_negl j0 j1] at f
  have h:=M_nn hA hC P (t:=t.toNat) (by omega) (i:=r) (j:=s) (by omega) (by omega)
  rw [e,f,sb_ng] at h
  have e2:Mt a.length b.length (rot a i0) (rot (negl b) k0) (nx (T:Int) t).toNat=Mt a.length b.length (rot a i0) (rot (negl b) k0) (t.toNat+1):=by
   unfold nx
   split
   ·rename_i c
    rw [show t.toNat+1=T by omega,M_per hA hC P]; rfl
   ·congr 1; omega
  rw [e2,tri_cr,← M_step]
  exact h
 ·intro n1 n2 t t0 t1
  have hn:=nx_range t0 t1
  rw [len_lst] at *
  rw [q_lst t0 t1,q_lst hn.1 hn.2]
  have e2:Mt a.length b.length (rot a i0) (rot (negl b) k0) (nx (T:Int) t).toNat=Mt a.length b.length (rot a i0) (rot (negl b) k0) (t.toNat+1):=by
   unfold nx
   split
   ·rename_i c
    rw [show t.toNat+1=T by omega,M_per hA hC P]; rfl
   ·congr 1; omega
  rw [e2,tri_cr,← M_step]
  have h:=P.inv t.toNat (by omega)
  unfold Dt Mt mp dd
  generalize sta a.length b.length (rot a i0) (rot (negl b) k0) t.toNat=s at *
  obtain ⟨x,y⟩:=s
  dsimp only at *
  rw [cr_pl_l]
  have p1:0≤cr (if Fi a.length b.length (rot a i0) (rot (negl b) k0) x y then ed (rot a i0) x else zed) (sb zed (pl (rot a i0 x) (rot (negl b) k0 y))):=by
   by_cases f:Fi a.length b.length (rot a i0) (rot (negl b) k0) x y
   ·rw [if_pos f]
    have fx:=f.1
    obtain ⟨r,r0,r1,e1,e2,_⟩:=rot_at a (i0:=i0) (i:=x) hi.1 (by omega)
    obtain ⟨j,j0,j1,hj⟩:=n1 r r0 r1
    obtain ⟨s,s1,g⟩:=rot_all (l:=negl b) (i0:=k0) hk.1 j0 (by rw [len_negl]; exact j1)
    rw [q_negl j0 j1] at g
    rw [lb] at s1
    have x1:=ext hA hC h f (j:=s) (by omega)
    rw [g] at x1
    rw [tri_cr,← e1,← e2] at hj
    have hj':0≤cr (ed (rot a i0) x) (sb (q b j) (rot a i0 x)):=hj
    generalize ed (rot a i0) x=e at *
    generalize rot a i0 x=u at *
    generalize rot (negl b) k0 y=v at *
    generalize q b j=z at *
    unfold cr sb ng at *
    unfold zed pl
    dsimp only at *
    grind
   ·rw [if_neg f,cr_zed]; exact Int.le_refl 0
  have p2:0≤cr (if Fi b.length a.length (rot (negl b) k0) (rot a i0) y x then ed (rot (negl b) k0) y else zed) (sb zed (pl (rot a i0 x) (rot (negl b) k0 y))):=by
   by_cases f:Fi b.length a.length (rot (negl b) k0) (rot a i0) y x
   ·rw [if_pos f]
    have fy:=f.1
    obtain ⟨r,r0,r1,e1,e2,_⟩:=rot_at (negl b) (i0:=k0) (i:=y) hk.1 (by rw [len_negl]; omega)
    rw [len_negl] at r1 e2
    have hn:=nx_range r0 r1
    rw [q_negl r0 r1] at e1
    rw [q_negl hn.1 hn.2] at e2
    obtain ⟨j,j0,j1,hj⟩:=n2 r r0 r1
    obtain ⟨s,s1,g⟩:=rot_all (i0:=i0) hi.1 j0 j1
    have x1:=ext hC hA h.sym f (j:=s) (by omega)
    rw [g] at x1
    have ee:ed (rot (negl b) k0) y=sb (ng (q b (nx (len b) r))) (ng (q b r)):=by unfold ed; rw [e1,e2]
    rw [ee] at x1 ⊢
    rw [e1]
    generalize q b (nx (len b) r)=c at *
    generalize rot a i0 x=u at *
    generalize q b r=v at *
    generalize q a j=z at *
    unfold tri at hj
    unfold cr sb ng at *
    unfold zed pl
    dsimp only at *
    grind
   ·rw [if_neg f,cr_zed]; exact Int.le_refl 0
  omega
end Go.Proofs.T1
namespace Go.Proofs.T1
open Go Go.Sx
theorem le_of_mul_le {a b c:Int} (h:0<c) (g:c*a≤c*b):a≤b:=Int.le_of_mul_le_mul_left g h
def pv (n i:Int):Int:=if i=0 then n - 1 else i - 1
def scl (w:Int) (l:List V26):List V26:=l.map fun p=>(w*p.1,w*p.2.1,())
theorem len_scl (w:Int) (l:List V26):len (scl w l)=len l:=by unfold len scl; simp
theorem q_scl (w:Int) {l:List V26} {i:Int} (h0:0≤i) (h1:i<len l):q (scl w l) i=(w*(q l i).1,w*(q l i).2.1,()):=by
 obtain ⟨i,rfl⟩:=Int.eq_ofNat_of_zero_le h0
 have hi:i<l.length:=by unfold len at h1; omega
 show (scl w l).getD i Z26=(w*(l.getD i Z26).1,w*(l.getD i Z26).2.1,())
 rw [List.getD_eq_getElem?_getD,List.getD_eq_getElem?_getD]
 unfold scl
 rw [List.getElem?_map,List.getElem?_eq_getElem hi]
 rfl
theorem tri_scl (w:Int) (a b:V26) (X Y:Int):tri (w*a.1,w*a.2.1,()) (w*b.1,w*b.2.1,()) (X,Y,())=w*hs a b X Y w:=by unfold tri hs; dsimp only; grind
theorem between3 {l:List V26} (he:EdgeP l) (h3:3≤len l) {X Y w:Int} (hw:0<w) (h:HIn l X Y w) :
  ∃ i α β γ,2≤i∧i<len l∧0≤α∧0≤β∧0≤γ∧0<α+β+γ∧(α+β+γ)*X=w*(α*(q l 0).1+β*(q l (i - 1)).1+γ*(q l i).1)∧(α+β+γ)*Y=w*(α*(q l 0).2.1+β*(q l (i - 1)).2.1+γ*(q l i).2.1):=by
 have hin:InP (scl w l) (X,Y,()):=by
  intro i i0 i1
  have hn:=nx_range i0 i1
  rw [len_scl] at *
  rw [q_scl w i0 i1,q_scl w hn.1 hn.2,tri_scl]
  exact Int.mul_nonneg (Int.le_of_lt hw) (h i i0 i1)
 obtain ⟨i,i2,i1,c1,c2,c3⟩:=In_Fan (by rw [len_scl]; exact h3) hin
 rw [len_scl] at i1
 rw [q_scl w (by omega) (by omega),q_scl w (by omega) (by omega)] at c1
 rw [q_scl w (by omega) (by omega),q_scl w (by omega) (by omega)] at c2
 rw [q_scl w (by omega) (by omega),q_scl w (by omega) (by omega)] at c3
 have ht:=Edge_Trip he 0 (i - 1) i (by omega) (by omega) (by omega) i1
 have S:∀ A B C:V26,tri (w*B.1,w*B.2.1,()) (w*C.1,w*C.2.1,()) (X,Y,())+tri (w*C.1,w*C.2.1,()) (w*A.1,w*A.2.1,()) (X,Y,())+tri (w*A.1,w*A.2.1,()) (w*B.1,w*B.2.1,()) (X,Y,())=w*w*tri A B C:=by intro A B C; unfold tri; dsimp only; grind
 have SX:∀ A B C:V26,(tri (w*B.1,w*B.2.1,()) (w*C.1,w*C.2.1,()) (X,Y,())+tri (w*C.1,w*C.2.1,()) (w*A.1,w*A.2.1,()) (X,Y,())+tri (w*A.1,w*A.2.1,()) (w*B.1,w*B.2.1,()) (X,Y,()))*X =
   w*(tri (w*B.1,w*B.2.1,()) (w*C.1,w*C.2.1,()) (X,Y,())*A.1+tri (w*C.1,w*C.2.1,()) (w*A.1,w*A.2.1,()) (X,Y,())*B.1+tri (w*A.1,w*A.2.1,()) (w*B.1,w*B.2.1,()) (X,Y,())*C.1):=by intro A B C; unfold tri; dsimp only; grind
 have SY:∀ A B C:V26,(tri (w*B.1,w*B.2.1,()) (w*C.1,w*C.2.1,()) (X,Y,())+tri (w*C.1,w*C.2.1,()) (w*A.1,w*A.2.1,()) (X,Y,())+tri (w*A.1,w*A.2.1,()) (w*B.1,w*B.2.1,()) (X,Y,()))*Y =
   w*(tri (w*B.1,w*B.2.1,()) (w*C.1,w*C.2.1,()) (X,Y,())*A.2.1+tri (w*C.1,w*C.2.1,()) (w*A.1,w*A.2.1,()) (X,Y,())*B.2.1+tri (w*A.1,w*A.2.1,()) (w*B.1,w*B.2.1,()) (X,Y,())*C.2.1):=by intro A B C; unfold tri; dsimp only; grind
 exact ⟨i,_,_,_,i2,i1,c2,c3,c1,by rw [S]; exact Int.mul_pos (Int.mul_pos hw hw) ht,SX _ _ _,SY _ _ _⟩
end Go.Proofs.T1
namespace Go.Proofs.T1
open Go Go.Sx
def Box (a b p:V26):Prop:=imin a.1 b.1≤p.1∧p.1≤imax a.1 b.1∧imin a.2.1 b.2.1≤p.2.1∧p.2.1≤imax a.2.1 b.2.1
theorem mid {s t a b p:Int} (h0:0≤s) (h1:0≤t) (h2:0<s+t) (e:(s+t)*p=s*a+t*b):imin a b≤p∧p≤imax a b:=by
 have lo:∀ m,m≤a→m≤b→m≤p:=by
  intro m ha hb
  refine le_of_mul_le h2 ?_
  have:=Int.mul_le_mul_of_nonneg_left ha h0
  have:=Int.mul_le_mul_of_nonneg_left hb h1
  rw [e,Int.add_mul]; omega
 have hi:∀ m,a≤m→b≤m→p≤m:=by
  intro m ha hb
  refine le_of_mul_le h2 ?_
  have:=Int.mul_le_mul_of_nonneg_left ha h0
  have:=Int.mul_le_mul_of_nonneg_left hb h1
  rw [e,Int.add_mul]; omega
 exact ⟨lo _ (by unfold imin; split <;> omega) (by unfold imin; split <;> omega),hi _ (by unfold imax; split <;> omega) (by unfold imax; split <;> omega)⟩
theorem bx {a b p:V26} {s t:Int} (h0:0≤s) (h1:0≤t) (h2:0<s+t) (ex:(s+t)*p.1=s*a.1+t*b.1) (ey:(s+t)*p.2.1=s*a.2.1+t*b.2.1):Box a b p :=
 ⟨(mid h0 h1 h2 ex).1,(mid h0 h1 h2 ex).2,(mid h0 h1 h2 ey).1,(mid h0 h1 h2 ey).2⟩
end Go.Proofs.T1
