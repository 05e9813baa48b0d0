import Derived.Test.YthpbadopmihmpaaGreatPlRing
namespace Go.Proofs.T1
open Go Go.Sx
theorem find_loop {α:Type} (F:Nat→Int→Option (α ⊕ Unit)) (lo N:Int) (P:Int→Prop) (g:Int→α)
  (hstep:∀ n v,lo≤v→v<N→P v→F (n+1) v=some (.inl (g v)))
  (hskip:∀ n v,lo≤v→v<N→¬ P v→F (n+1) v=F n (v+1))
  (hend:∀ n v,lo≤v→N≤v→F (n+1) v=some (.inr ())) :
  ∀ (n:Nat) (v:Int),lo≤v→N - v<(n:Int)→(∃ j,v≤j∧j<N∧P j∧(∀ i,v≤i→i<j→¬ P i)∧F n v=some (.inl (g j))) ∨
   ((∀ j,v≤j→j<N→¬ P j)∧(0<n→F n v=some (.inr ()))):=by
 intro n
 induction n with
 | zero =>
  intro v h1 h2
  exact Or.inr ⟨fun j a b=>by omega,fun h=>absurd h (by decide)⟩
 | succ n ih =>
  intro v h1 h2
  by_cases hv:v<N
  ·by_cases hp:P v
   ·exact Or.inl ⟨v,by omega,hv,hp,fun i a b=>by omega,hstep n v h1 hv hp⟩
   ·have e:=hskip n v h1 hv hp
    have hn:0<n:=by omega
    rcases ih (v+1) (by omega) (by omega) with ⟨j,a,b,c,d,f⟩ | ⟨a,b⟩
    ·refine Or.inl ⟨j,by omega,b,c,?_,e ▸ f⟩
     intro i x y
     by_cases hi:i=v
     ·exact hi ▸ hp
     ·exact d i (by omega) y
    ·refine Or.inr ⟨?_,fun _=>by rw [e,b hn]⟩
     intro i x y
     by_cases hi:i=v
     ·exact hi ▸ hp
     ·exact a i (by omega) y
  ·exact Or.inr ⟨fun j a b=>by omega,fun _=>hend n v h1 (by omega)⟩
theorem inv_loop {σ:Type} (F:Nat→σ→Int→Option σ) (lo N:Int) (I:σ→Int→Prop)
  (hstep:∀ n s v,lo≤v→v<N→I s v→∃ s',I s' (v+1)∧F (n+1) s v=F n s' (v+1))
  (hend:∀ n s v,lo≤v→N≤v→F (n+1) s v=some s) :
  ∀ (n:Nat) (s:σ) (v:Int),lo≤v→v≤N→N - v<(n:Int)→I s v→∃ s',I s' N∧F n s v=some s':=by
 intro n
 induction n with
 | zero=>intro s v h1 h2 h3; omega
 | succ n ih =>
  intro s v h1 h2 h3 h4
  by_cases hv:v<N
  ·obtain ⟨s',a,b⟩:=hstep n s v h1 hv h4
   rw [b]
   exact ih s' (v+1) (by omega) (by omega) (by omega) a
  ·have:v=N:=by omega
   subst this
   exact ⟨s,h4,hend n s v h1 (by omega)⟩
def Dg (a:List Int):Prop:=a.length=8∧∀ i,i<8→0≤a.getD i 0∧a.getD i 0<65536
instance (a:List Int):Decidable (Dg a):=by unfold Dg; infer_instance
end Go.Proofs.T1
namespace Go.Proofs.T1
open Go Go.Sx
end Go.Proofs.T1
namespace Go.Proofs.T1
open Go Go.Sx
def cmpI (x y:Int):Int:=if x<y then -1 else if x=y then 0 else 1
theorem cmpI_lt {x y:Int} (h:x<y):cmpI x y=-1:=if_pos h
theorem cmpI_gt {x y:Int} (h:y<x):cmpI x y=1:=by unfold cmpI; rw [if_neg (by omega),if_neg (by omega)]
def I64 (x:Int):Prop:=-9223372036854775808≤x∧x≤9223372036854775807
def Wn (a:V26):Prop:=-65536000≤a.1∧a.1≤65536000∧-65536000≤a.2.1∧a.2.1≤65536000
instance (a:V26):Decidable (Wn a):=by unfold Wn; infer_instance
def tri (a b p:V26):Int:=(b.1 - a.1)*(p.2.1 - a.2.1) - (b.2.1 - a.2.1)*(p.1 - a.1)
theorem mul_bd {x y M N:Int} (h1:-M≤x) (h2:x≤M) (h3:-N≤y) (h4:y≤N):-(M*N)≤x*y∧x*y≤M*N:=by
 have p1:0≤(M - x)*(N - y):=Int.mul_nonneg (by omega) (by omega)
 have p2:0≤(M+x)*(N+y):=Int.mul_nonneg (by omega) (by omega)
 have p3:0≤(M - x)*(N+y):=Int.mul_nonneg (by omega) (by omega)
 have p4:0≤(M+x)*(N - y):=Int.mul_nonneg (by omega) (by omega)
 have e1:(M - x)*(N - y)=M*N - M*y - x*N+x*y:=by grind
 have e2:(M+x)*(N+y)=M*N+M*y+x*N+x*y:=by grind
 have e3:(M - x)*(N+y)=M*N+M*y - x*N - x*y:=by grind
 have e4:(M+x)*(N - y)=M*N - M*y+x*N - x*y:=by grind
 omega
theorem within_eq (k:Nat) (a:V26):poly_within k a=some (decide (Wn a)):=by
 unfold poly_within Wn
 by_cases h1:a.1 ≥ -65536000 <;> by_cases h2:a.1≤65536000 <;> by_cases h3:a.2.1 ≥ -65536000 <;> by_cases h4:a.2.1≤65536000 <;>
  simp [ige,ile,bif',h1,h2,h3,h4] <;> omega
theorem side_eq (k:Nat) {a b p:V26} (ha:Wn a) (hb:Wn b) (hp:Wn p):poly_side k a b p=some (tri a b p):=by
 unfold poly_side tri Wn at *
 have h1:=mul_bd (x:=b.1 - a.1) (y:=p.2.1 - a.2.1) (M:=131072000) (N:=131072000) (by omega) (by omega) (by omega) (by omega)
 have h2:=mul_bd (x:=b.2.1 - a.2.1) (y:=p.1 - a.1) (M:=131072000) (N:=131072000) (by omega) (by omega) (by omega) (by omega)
 rw [isub_i64 (x:=b.1) (by omega) (by omega),isub_i64 (x:=b.2.1) (by omega) (by omega),isub_i64 (x:=p.1) (by omega) (by omega),isub_i64 (x:=p.2.1) (by omega) (by omega)]
 rw [imul_i64 (by omega) (by omega),imul_i64 (by omega) (by omega),isub_i64 (by omega) (by omega)]
theorem WCmp_eq (k:Nat) {a b:V94} (ha:WOk a) (hb:WOk b):poly_Wide_Cmp k a b=some (cmpI (wv a) (wv b)):=by
 unfold poly_Wide_Cmp poly_Wide_Cmp.c1
 rw [eqb40]
 obtain ⟨a1,a2,u⟩:=a
 obtain ⟨b1,b2,u'⟩:=b
 by_cases h:((a1,a2,u):V94)=(b1,b2,u')
 ·cases h
  simp [cmpI,bif']
 ·have h':¬ (a1=b1∧a2=b2):=fun e=>h (by obtain ⟨e1,e2⟩:=e; subst e1 e2; rfl)
  simp only [h,decide_false,bF]
  have hwa:wv (a1,a2,u)=a1*18446744073709551616+a2:=rfl
  have hwb:wv (b1,b2,u')=b1*18446744073709551616+b2:=rfl
  simp only [WOk] at ha hb
  by_cases c1:a1<b1
  ·have:ilt a1 b1=true:=by simp [ilt,c1]
   rw [this,bT,bS,bT,cmpI_lt (by omega)]
  ·have:ilt a1 b1=false:=by simp [ilt,c1]
   rw [this,bF]
   by_cases c2:a1=b1
   ·have:ieq a1 b1=true:=by simp [ieq,c2]
    rw [this,bT,bS]
    by_cases c3:a2<b2
    ·have:ilt a2 b2=true:=by simp [ilt,c3]
     rw [this,bT,cmpI_lt (by omega)]
    ·have:ilt a2 b2=false:=by simp [ilt,c3]
     rw [this,bF,cmpI_gt (by omega)]
   ·have:ieq a1 b1=false:=by simp [ieq,c2]
    rw [this,bF,bS,bF,cmpI_gt (by omega)]
end Go.Proofs.T1
namespace Go.Proofs.T1
open Go Go.Sx
theorem inL_of {α:Type} {v:Int} {l:List α} (h0:0≤v) (h1:v<len l):inL v l:=⟨h0,h1⟩
theorem ilt_pos {a b:Int} (h:a<b):ilt a b=true:=decide_eq_true h
theorem ilt_neg {a b:Int} (h:b≤a):ilt a b=false:=decide_eq_false (by omega)
theorem ile_pos {a b:Int} (h:a≤b):ile a b=true:=decide_eq_true h
theorem ile_neg {a b:Int} (h:b<a):ile a b=false:=decide_eq_false (by omega)
theorem igt_pos {a b:Int} (h:a > b):igt a b=true:=decide_eq_true h
theorem igt_neg {a b:Int} (h:a≤b):igt a b=false:=decide_eq_false (by omega)
theorem ige_pos {a b:Int} (h:a ≥ b):ige a b=true:=decide_eq_true h
theorem ige_neg {a b:Int} (h:a<b):ige a b=false:=decide_eq_false (by omega)
theorem ine_pos {a b:Int} (h:¬ a=b):ine a b=true:=decide_eq_true h
theorem ine_neg {a b:Int} (h:a=b):ine a b=false:=decide_eq_false (fun g=>g h)
theorem ieq_pos {a b:Int} (h:a=b):ieq a b=true:=decide_eq_true h
theorem ieq_neg {a b:Int} (h:¬ a=b):ieq a b=false:=decide_eq_false h
def q (l:List V26) (i:Int):V26:=el Z26 l i
def nx (n i:Int):Int:=if i+1=n then 0 else i+1
theorem nx_range {n i:Int} (h0:0≤i) (h1:i<n):0≤nx n i∧nx n i<n:=by unfold nx; split <;> omega
theorem irem_nx {n i:Int} (h0:0≤i) (h1:i<n) (h2:n≤1000):irem (iadd .i64 i 1) n=nx n i:=by
 rw [iadd_i64 (by omega) (by omega)]
 unfold irem nx
 rw [Int.tmod_eq_emod_of_nonneg (by omega)]
 split
 ·rename_i h; rw [h,Int.emod_self]
 ·exact Int.emod_eq_of_lt (by omega) (by omega)
def AllW (l:List V26):Prop:=∀ i,0≤i→i<len l→Wn (q l i)
def EdgeP (l:List V26):Prop:=∀ i j,0≤i→i<len l→0≤j→j<len l→j≠i→j≠nx (len l) i→0<tri (q l i) (q l (nx (len l) i)) (q l j)
def TripP (l:List V26):Prop:=∀ i j m,0≤i→i<j→j<m→m<len l→0<tri (q l i) (q l j) (q l m)
theorem tri_cyc (a b c:V26):tri a b c=tri b c a:=by unfold tri; grind
theorem tri_self2 (a b:V26):tri a b a=0:=by unfold tri; grind
theorem tri_swap (a b c:V26):tri b a c=- tri a b c:=by unfold tri; grind
theorem tri_gp (a u x y z:V26):tri a u y*tri a x z=tri a u x*tri a y z+tri a u z*tri a x y:=by unfold tri; grind
theorem pos_of_mul {a b:Int} (hb:0<b) (h:0<b*a):0<a:=by
 rcases Int.lt_or_le 0 a with g | g
 ·exact g
 ·have:b*a≤b*0:=Int.mul_le_mul_of_nonneg_left g (by omega)
  omega
theorem nn_of_mul {a b:Int} (hb:0<b) (h:0≤b*a):0≤a:=by
 rcases Int.lt_or_le a 0 with g | g
 ·have:b*a≤b*(-1):=Int.mul_le_mul_of_nonneg_left (by omega) (by omega)
  omega
 ·exact g
theorem Edge_Trip {l:List V26} (he:EdgeP l):TripP l:=by
 have H:∀ (d:Nat) (i j:Int),0≤i→i<j→j+1+d<len l→0<tri (q l i) (q l j) (q l (j+1+d)):=by
  intro d
  induction d with
  | zero =>
   intro i j h0 h1 h2
   have h:=he j i (by omega) (by omega) (by omega) (by omega) (by omega) (by unfold nx; split <;> omega)
   have hn:nx (len l) j=j+1:=by unfold nx; split <;> omega
   rw [hn] at h
   rw [tri_cyc]
   simpa using h
  | succ d ih =>
   intro i j h0 h1 h2
   have hij:nx (len l) i=i+1:=by unfold nx; split <;> omega
   have e1:j+1+((d+1:Nat):Int)=(j+1+d)+1:=by omega
   by_cases hj:j=i+1
   ·have h:=he i (j+1+((d+1:Nat):Int)) (by omega) (by omega) (by omega) (by omega) (by omega) (by rw [hij]; omega)
    rw [hij] at h
    rw [hj] at h ⊢
    exact h
   ·have a1:=ih i j h0 h1 (by omega)
    have hn:nx (len l) (j+1+d)=j+1+d+1:=by unfold nx; split <;> omega
    have a2:=he (j+1+d) i (by omega) (by omega) (by omega) (by omega) (by omega) (by rw [hn]; omega)
    have a3:=he i j (by omega) (by omega) (by omega) (by omega) (by omega) (by rw [hij]; omega)
    have a4:=he i (j+1+d) (by omega) (by omega) (by omega) (by omega) (by omega) (by rw [hij]; omega)
    have a5:=he i (j+1+d+1) (by omega) (by omega) (by omega) (by omega) (by omega) (by rw [hij]; omega)
    rw [hn,← tri_cyc] at a2
    rw [hij] at a3 a4 a5
    rw [e1]
    refine pos_of_mul a4 ?_
    rw [tri_gp]
    have p1:=Int.mul_pos a3 a2
    have p2:=Int.mul_pos a5 a1
    omega
 intro i j m h0 h1 h2 h3
 have:=H (m - j - 1).toNat i j h0 h1 (by omega)
 rwa [show j+1+((m - j - 1).toNat:Int)=m by omega] at this
theorem Trip_Edge {l:List V26} (ht:TripP l):EdgeP l:=by
 intro i j h0 h1 h2 h3 h4 h5
 unfold nx at *
 split
 ·rename_i h
  rw [if_pos h] at h5
  rw [tri_cyc]
  exact ht 0 j i (by omega) (by omega) (by omega) (by omega)
 ·rename_i h
  rw [if_neg h] at h5
  rcases Int.lt_or_le j i with g | g
  ·rw [← tri_cyc]
   exact ht j i (i+1) (by omega) (by omega) (by omega) (by omega)
  ·exact ht i (i+1) j (by omega) (by omega) (by omega) (by omega)
def InP (l:List V26) (p:V26):Prop:=∀ i,0≤i→i<len l→0≤tri (q l i) (q l (nx (len l) i)) p
def FanP (l:List V26) (p:V26):Prop:=∃ i,2≤i∧i<len l∧0≤tri (q l 0) (q l (i - 1)) p∧0≤tri (q l (i - 1)) (q l i) p∧0≤tri (q l i) (q l 0) p
theorem In_Fan {l:List V26} (hl:3≤len l) {p:V26} (h:InP l p):FanP l p:=by
 have H:∀ (d:Nat) (i:Int),i=len l - 1 - d→2≤i→0≤tri (q l 0) (q l (i - 1)) p→FanP l p:=by
  intro d
  induction d with
  | zero =>
   intro i hi h2 ha
   have e:=h (len l - 1) (by omega) (by omega)
   have hn:nx (len l) (len l - 1)=0:=by unfold nx; split <;> omega
   have e':=h (i - 1) (by omega) (by omega)
   have hn':nx (len l) (i - 1)=i:=by unfold nx; split <;> omega
   rw [hn] at e
   rw [hn'] at e'
   have:len l - 1=i:=by omega
   rw [this] at e
   exact ⟨i,h2,by omega,ha,e',e⟩
  | succ d ih =>
   intro i hi h2 ha
   by_cases c:0≤tri (q l i) (q l 0) p
   ·have e':=h (i - 1) (by omega) (by omega)
    have hn':nx (len l) (i - 1)=i:=by unfold nx; split <;> omega
    rw [hn'] at e'
    exact ⟨i,h2,by omega,ha,e',c⟩
   ·refine ih (i+1) (by omega) (by omega) ?_
    rw [show i+1 - 1=i by omega]
    rw [tri_swap] at c
    omega
 refine H (len l - 3).toNat 2 (by omega) (by omega) ?_
 have e:=h 0 (by omega) (by omega)
 have hn:nx (len l) 0=1:=by unfold nx; split <;> omega
 rw [hn] at e
 exact e
end Go.Proofs.T1
namespace Go.Proofs.T1
open Go Go.Sx
theorem Contains_no {k:Nat} {l:List V26} (hl:len l≤1000) (hk:len l<k) {f:(V26 × Unit)→Option Bool} {g:V26→Bool} (hf:∀ x,f (x,())=some (g x))
  : slices_ContainsFunc k l f=some true∧(∃ i,0≤i∧i<len l∧g (q l i)=true)∨slices_ContainsFunc k l f=some false∧(∀ i,0≤i→i<len l→¬ g (q l i)=true):=by
 have H:=find_loop (fun n v=>slices_IndexFunc.c1 k l f n v) 0 (len l) (fun v=>g (q l v)=true) (fun v=>v)
  (by
   intro n v h0 h1 h2
   show slices_IndexFunc.c1 k l f (n+1) v=_
   rw [slices_IndexFunc.c1,ilt_pos h1,bT,rP (inL_of h0 h1),hf,bS]
   show bif' (g (q l v)) _ _=_
   rw [h2,bT])
  (by
   intro n v h0 h1 h2
   show slices_IndexFunc.c1 k l f (n+1) v=slices_IndexFunc.c1 k l f n (v+1)
   rw [slices_IndexFunc.c1,ilt_pos h1,bT,rP (inL_of h0 h1),hf,bS]
   show bif' (g (q l v)) _ _=_
   rw [Bool.not_eq_true] at h2
   rw [h2,bF,iadd_i64 (by omega) (by omega)])
  (by
   intro n v h0 h1
   show slices_IndexFunc.c1 k l f (n+1) v=_
   rw [slices_IndexFunc.c1,ilt_neg h1,bF])
  k 0 (by omega) (by omega)
 have hk0:0<k:=by unfold len at hk; omega
 rcases H with ⟨j,a,b,c,_,e⟩ | ⟨a,e⟩
 ·refine Or.inl ⟨?_,j,a,b,c⟩
  unfold slices_ContainsFunc slices_IndexFunc
  have e:slices_IndexFunc.c1 k l f k 0=some (.inl j):=e
  rw [e,bS,two_inl,bS,ige_pos (by omega)]
 ·refine Or.inr ⟨?_,a⟩
  unfold slices_ContainsFunc slices_IndexFunc
  have e:slices_IndexFunc.c1 k l f k 0=some (.inr ()):=e hk0
  rw [e,bS,two_inr,bS]
  rfl
def Chk (l:List V26) (e:Int):Prop :=
 (len l > 8∧e=2)∨(len l<3∧e=3)∨(3≤len l∧len l≤8∧¬ AllW l∧e=1) ∨
 (3≤len l∧len l≤8∧AllW l∧¬ EdgeP l∧e=3)∨(3≤len l∧len l≤8∧AllW l∧EdgeP l∧e=0)
theorem Chk_uniq {l:List V26} {e f:Int} (h:Chk l e) (g:Chk l f):e=f:=by
 unfold Chk at *
 rcases h with h | h | h | h | h <;> rcases g with g | g | g | g | g <;> first | omega | (exact absurd h.2.2.1 g.2.2.1) | (exact absurd g.2.2.1 h.2.2.1) | (exact absurd h.2.2.2.1 g.2.2.2.1) | (exact absurd g.2.2.2.1 h.2.2.2.1)
theorem Check_c3 (k:Nat) {l:List V26} (hl:len l≤8) (hw:AllW l) {i j:Int} (h0:0≤i) (h1:i<len l) (h2:0≤j) (h3:j<len l) :
  poly_Check.c3 k l i j=some (decide (j≠i∧j≠nx (len l) i∧tri (q l i) (q l (nx (len l) i)) (q l j)≤0)):=by
 have hn:=nx_range h0 h1
 have hz:nz (len l):=by unfold nz; omega
 unfold poly_Check.c3
 rw [irem_nx h0 h1 (by omega)]
 have hs:poly_side k (el Z26 l i) (el Z26 l (nx (len l) i)) (el Z26 l j)=some (tri (q l i) (q l (nx (len l) i)) (q l j)):=side_eq k (hw i h0 h1) (hw _ hn.1 hn.2) (hw j h2 h3)
 rw [hs,rP hz,bS]
 by_cases a:j=i
 ·rw [ine_neg a,bF]; simp [a]
 ·rw [ine_pos a,bT]
  by_cases b:j=nx (len l) i
  ·rw [ine_neg b,bF]
   have:¬ (j≠i∧j≠nx (len l) i∧tri (q l i) (q l (nx (len l) i)) (q l j)≤0):=fun h=>h.2.1 b
   rw [decide_eq_false this]
  ·rw [ine_pos b,bT]
   unfold ile
   congr 1
   rw [decide_eq_decide]
   exact ⟨fun h=>⟨a,b,h⟩,fun h=>h.2.2⟩
theorem Check_c2 {k:Nat} {l:List V26} (hl:len l≤8) (hk:9≤k) (hw:AllW l) {i:Int} (h0:0≤i) (h1:i<len l) :
  (poly_Check.c2 k l i k 0=some (.inl ())∧∃ j,0≤j∧j<len l∧(j≠i∧j≠nx (len l) i∧tri (q l i) (q l (nx (len l) i)) (q l j)≤0)) ∨
  (poly_Check.c2 k l i k 0=some (.inr ())∧∀ j,0≤j→j<len l→¬ (j≠i∧j≠nx (len l) i∧tri (q l i) (q l (nx (len l) i)) (q l j)≤0)):=by
 have H:=find_loop (fun n v=>poly_Check.c2 k l i n v) 0 (len l) (fun j=>j≠i∧j≠nx (len l) i∧tri (q l i) (q l (nx (len l) i)) (q l j)≤0) (fun _=>())
  (by
   intro n v h2 h3 h4
   show poly_Check.c2 k l i (n+1) v=_
   rw [poly_Check.c2,ilt_pos h3,bT,rP (inL_of h2 h3),Check_c3 k hl hw h0 h1 h2 h3,bS,decide_eq_true h4,bT])
  (by
   intro n v h2 h3 h4
   show poly_Check.c2 k l i (n+1) v=poly_Check.c2 k l i n (v+1)
   rw [poly_Check.c2,ilt_pos h3,bT,rP (inL_of h2 h3),Check_c3 k hl hw h0 h1 h2 h3,bS,decide_eq_false h4,bF,iadd_i64 (by omega) (by omega)])
  (by
   intro n v h2 h3
   show poly_Check.c2 k l i (n+1) v=_
   rw [poly_Check.c2,ilt_neg h3,bF])
  k 0 (by omega) (by omega)
 rcases H with ⟨j,a,b,c,_,e⟩ | ⟨a,e⟩
 ·exact Or.inl ⟨e,j,a,b,c⟩
 ·exact Or.inr ⟨e (by omega),a⟩
theorem Check_eq {k:Nat} (hk:9≤k) (l:List V26):∃ e,poly_Check k l=some e∧Chk l e:=by
 unfold poly_Check
 by_cases c1:len l > 8
 ·rw [igt_pos c1,bT]
  exact ⟨2,rfl,Or.inl ⟨c1,rfl⟩⟩
 rw [igt_neg (by omega),bF]
 by_cases c2:len l<3
 ·rw [ilt_pos c2,bT]
  exact ⟨3,rfl,Or.inr (Or.inl ⟨c2,rfl⟩)⟩
 rw [ilt_neg (by omega),bF]
 have hf:∀ x:V26,(fun x:(V26 × Unit)=>poly_Check_1 k (x.1)) (x,())=some (!decide (Wn x)):=by
  intro x
  show poly_Check_1 k x=_
  unfold poly_Check_1
  rw [within_eq,bS]
 rcases Contains_no (l:=l) (k:=k) (f:=fun x:(V26 × Unit)=>poly_Check_1 k (x.1)) (by omega) (by omega) (g:=fun x=>!decide (Wn x)) hf with ⟨h,i,h0,h1,h2⟩ | ⟨h,h2⟩
 ·rw [h,bS,bT]
  refine ⟨1,rfl,Or.inr (Or.inr (Or.inl ⟨by omega,by omega,?_,rfl⟩))⟩
  intro ha
  have:=ha i h0 h1
  simp [this] at h2
 rw [h,bS,bF]
 have hw:AllW l:=by
  intro i h0 h1
  have:=h2 i h0 h1
  simpa using this
 have H:=find_loop (fun n v=>poly_Check.c1 k l n v) 0 (len l) (fun i=>∃ j,0≤j∧j<len l∧(j≠i∧j≠nx (len l) i∧tri (q l i) (q l (nx (len l) i)) (q l j)≤0)) (fun _=>())
  (by
   intro n v h2 h3 h4
   show poly_Check.c1 k l (n+1) v=_
   have hn:=nx_range h2 h3
   rw [poly_Check.c1,ilt_pos h3,bT,rP (inL_of h2 h3),rP (show nz (len l) by unfold nz; omega),irem_nx h2 h3 (by omega),rP (inL_of hn.1 hn.2)]
   rcases Check_c2 (k:=k) (by omega) hk hw h2 h3 with ⟨e,_⟩ | ⟨_,e⟩
   ·rw [e,bS,two_inl]
   ·obtain ⟨j,a,b,c⟩:=h4
    exact absurd c (e j a b))
  (by
   intro n v h2 h3 h4
   show poly_Check.c1 k l (n+1) v=poly_Check.c1 k l n (v+1)
   have hn:=nx_range h2 h3
   rw [poly_Check.c1,ilt_pos h3,bT,rP (inL_of h2 h3),rP (show nz (len l) by unfold nz; omega),irem_nx h2 h3 (by omega),rP (inL_of hn.1 hn.2)]
   rcases Check_c2 (k:=k) (by omega) hk hw h2 h3 with ⟨_,e⟩ | ⟨e,_⟩
   ·exact absurd e h4
   ·rw [e,bS,two_inr,iadd_i64 (by omega) (by omega)])
  (by
   intro n v h2 h3
   show poly_Check.c1 k l (n+1) v=_
   rw [poly_Check.c1,ilt_neg h3,bF])
  k 0 (by omega) (by omega)
 rcases H with ⟨i,a,b,⟨j,c,d,f⟩,_,e⟩ | ⟨a,e⟩
 ·have e:poly_Check.c1 k l k 0=some (.inl ()):=e
  rw [e,bS,two_inl]
  refine ⟨3,rfl,Or.inr (Or.inr (Or.inr (Or.inl ⟨by omega,by omega,hw,?_,rfl⟩)))⟩
  intro he
  have:=he i j a b c d f.1 f.2.1
  omega
 ·have e:poly_Check.c1 k l k 0=some (.inr ()):=e (by omega)
  rw [e,bS,two_inr]
  refine ⟨0,rfl,Or.inr (Or.inr (Or.inr (Or.inr ⟨by omega,by omega,hw,?_,rfl⟩)))⟩
  intro i j h0 h1 h2 h3 h4 h5
  rcases Int.lt_or_le 0 (tri (q l i) (q l (nx (len l) i)) (q l j)) with g | g
  ·exact g
  ·exact absurd ⟨j,h2,h3,h4,h5,g⟩ (a i h0 h1)
end Go.Proofs.T1
namespace Go.Proofs.T1
open Go Go.Sx
def cr (a b:V26):Int:=a.1*b.2.1 - a.2.1*b.1
def shn (l:List V26):Nat→Int
 | 0=>0
 | n+1=>shn l n+cr (q l n) (q l (n+1))
def sh (l:List V26) (v:Int):Int:=shn l v.toNat
def area (l:List V26):Int:=sh l (len l - 1)+cr (q l (len l - 1)) (q l 0)
def Val (l:List V26):Prop:=3≤len l∧len l≤8∧AllW l∧EdgeP l
theorem Chk_zero {l:List V26} (h:Chk l 0):Val l:=by
 unfold Chk at h
 rcases h with h | h | h | h | h
 ·omega
 ·omega
 ·omega
 ·omega
 ·exact ⟨h.1,h.2.1,h.2.2.1,h.2.2.2.1⟩
theorem Val_chk {l:List V26} (h:Val l):Chk l 0:=Or.inr (Or.inr (Or.inr (Or.inr ⟨h.1,h.2.1,h.2.2.1,h.2.2.2,rfl⟩)))
theorem Check_val {k:Nat} (hk:9≤k) {l:List V26} (h:Val l):poly_Check k l=some 0:=by
 obtain ⟨e,h1,h2⟩:=Check_eq hk l
 rw [h1,Chk_uniq h2 (Val_chk h)]
open Classical in
theorem Has_val {k:Nat} (hk:9≤k) {l:List V26} (hv:Val l) (p:V26):poly_Has k l p=some (decide (Wn p∧InP l p)):=by
 unfold poly_Has poly_Has.c1
 rw [Check_val hk hv,bS,ine_neg rfl,bF,within_eq,bS,bS]
 by_cases hp:Wn p
 ·rw [decide_eq_true hp]
  show bif' false _ _=_
  rw [bF]
  have hs:∀ v,0≤v→v<len l→poly_side k (el Z26 l v) (el Z26 l (nx (len l) v)) p=some (tri (q l v) (q l (nx (len l) v)) p):=by
   intro v a b
   have hn:=nx_range a b
   exact side_eq k (hv.2.2.1 v a b) (hv.2.2.1 _ hn.1 hn.2) hp
  have h8:=hv.2.1
  have H:=find_loop (fun n v=>poly_Has.c2 k l p n v) 0 (len l) (fun v=>tri (q l v) (q l (nx (len l) v)) p<0) (fun _=>())
   (by
    intro n v a b c
    have hn:=nx_range a b
    show poly_Has.c2 k l p (n+1) v=_
    rw [poly_Has.c2,ilt_pos b,bT,rP (inL_of a b),rP (show nz (len l) by unfold nz; omega),irem_nx a b (by omega),rP (inL_of hn.1 hn.2),hs v a b,bS,ilt_pos c,bT])
   (by
    intro n v a b c
    have hn:=nx_range a b
    show poly_Has.c2 k l p (n+1) v=poly_Has.c2 k l p n (v+1)
    rw [poly_Has.c2,ilt_pos b,bT,rP (inL_of a b),rP (show nz (len l) by unfold nz; omega),irem_nx a b (by omega),rP (inL_of hn.1 hn.2),hs v a b,bS,ilt_neg (by omega),bF,iadd_i64 (by omega) (by omega)])
   (by
    intro n v a b
    show poly_Has.c2 k l p (n+1) v=_
    rw [poly_Has.c2,ilt_neg b,bF])
   k 0 (by omega) (by omega)
  rcases H with ⟨i,a,b,c,_,e⟩ | ⟨a,e⟩
  ·have e:poly_Has.c2 k l p k 0=some (.inl ()):=e
   rw [e,bS,two_inl,decide_eq_false]
   intro h
   have:=h.2 i a b
   omega
  ·have e:poly_Has.c2 k l p k 0=some (.inr ()):=e (by omega)
   rw [e,bS,two_inr,decide_eq_true]
   refine ⟨hp,fun i x y=>?_⟩
   have:=a i x y
   omega
 ·rw [decide_eq_false hp]
  show bif' true _ _=_
  rw [bT,decide_eq_false (fun h=>hp h.1)]
end Go.Proofs.T1
namespace Go.Proofs.T1
open Go Go.Sx
end Go.Proofs.T1
