import Derived.Test.YtipddonkkhjegaaGreatPlRoot
import Derived.Test.YtipddonkkhjegaaGreatPlGeo
namespace Go.Proofs.T1
open Go Go.Sx
def mxf (f:Nat→Int):Nat→Int
 | 0=>f 0
 | n+1=>if mxf f n<f (n+1) then f (n+1) else mxf f n
theorem mxf_ge (f:Nat→Int):∀ n j,j≤n→f j≤mxf f n:=by
 intro n
 induction n with
 | zero =>
  intro j h; have:j=0:=by omega
  subst this; exact Int.le_refl _
 | succ n ih =>
  intro j h
  unfold mxf
  by_cases c:j=n+1
  ·subst c; split <;> omega
  ·have:=ih j (by omega)
   split <;> omega
theorem mxf_ex (f:Nat→Int):∀ n,∃ j,j≤n∧mxf f n=f j:=by
 intro n
 induction n with
 | zero=>exact ⟨0,Nat.le_refl 0,rfl⟩
 | succ n ih =>
  unfold mxf
  split
  ·exact ⟨n+1,Nat.le_refl _,rfl⟩
  ·obtain ⟨j,a,b⟩:=ih
   exact ⟨j,by omega,b⟩
def outw (l:List V26) (i:Int):V26:=((q l (nx (len l) i)).2.1 - (q l i).2.1,(q l i).1 - (q l (nx (len l) i)).1,())
def dpf (a b:List V26) (i:Int) (j:Nat):Int:=tri (q a i) (q a (nx (len a) i)) (q b j)
def dp (a b:List V26) (i:Int):Int:=mxf (dpf a b i) (b.length - 1)
theorem outw_bd {l:List V26} (hw:AllW l) {i:Int} (i0:0≤i) (i1:i<len l):-131072000≤(outw l i).1∧(outw l i).1≤131072000∧-131072000≤(outw l i).2.1∧(outw l i).2.1≤131072000:=by
 have hn:=nx_range i0 i1
 have h1:=hw i i0 i1
 have h2:=hw _ hn.1 hn.2
 unfold outw
 unfold Wn at h1 h2
 dsimp only
 omega
theorem Normal_eq (k:Nat) {l:List V26} (hl:len l≤8) (hw:AllW l) {i:Int} (i0:0≤i) (i1:i<len l):sat_Normal k l i=some (outw l i):=by
 have hn:=nx_range i0 i1
 have h1:=hw i i0 i1
 have h2:=hw _ hn.1 hn.2
 unfold Wn at h1 h2
 unfold sat_Normal sat_Normal.c1
 rw [ilt_neg i0,bF,ige_neg i1,bS,bF,rP (inL_of i0 i1),rP (show nz (len l) by unfold nz; omega),irem_nx i0 i1 (by omega),rP (inL_of hn.1 hn.2)]
 show some (isub .i64 (q l (nx (len l) i)).2.1 (q l i).2.1,isub .i64 (q l i).1 (q l (nx (len l) i)).1,())=_
 rw [isub_i64 (by omega) (by omega),isub_i64 (by omega) (by omega)]
 rfl
theorem deep_eq {k:Nat} (hk:9≤k) {a b:List V26} (ha:len a≤8) (wa:AllW a) (hb:len b≤8) (b0:0<len b) (wb:AllW b) {i:Int} (i0:0≤i) (i1:i<len a):sat_deep k a b i=some (dp a b i):=by
 have ob:=outw_bd wa i0 i1
 have ai:=wa i i0 i1
 unfold Wn at ai
 have hd:∀ j:Int,0≤j→j<len b→iadd .i64 (imul .i64 (outw a i).1 (isub .i64 (el Z26 a i).1 (el Z26 b j).1)) (imul .i64 (outw a i).2.1 (isub .i64 (el Z26 a i).2.1 (el Z26 b j).2.1))=dpf a b i j.toNat:=by
  intro j j0 j1
  have bj:=wb j j0 j1
  unfold Wn at bj
  show iadd .i64 (imul .i64 (outw a i).1 (isub .i64 (q a i).1 (q b j).1)) (imul .i64 (outw a i).2.1 (isub .i64 (q a i).2.1 (q b j).2.1))=_
  rw [isub_i64 (by omega) (by omega),isub_i64 (by omega) (by omega)]
  have p1:=mul_bd (x:=(outw a i).1) (y:=(q a i).1 - (q b j).1) (M:=131072000) (N:=131072000) (by omega) (by omega) (by omega) (by omega)
  have p2:=mul_bd (x:=(outw a i).2.1) (y:=(q a i).2.1 - (q b j).2.1) (M:=131072000) (N:=131072000) (by omega) (by omega) (by omega) (by omega)
  rw [imul_i64 (by omega) (by omega),imul_i64 (by omega) (by omega),iadd_i64 (by omega) (by omega)]
  unfold dpf
  rw [show ((j.toNat:Nat):Int)=j by omega]
  unfold outw tri
  dsimp only
  grind
 have H:=inv_loop (fun n s v=>sat_deep.c1 k a b i (outw a i) n s v) 0 (len b) (fun s v=>(v=0→s=0)∧(0<v→s=mxf (dpf a b i) (v.toNat - 1)))
  (by
   intro n s v v0 v1 hs
   show ∃ s',_∧sat_deep.c1 k a b i (outw a i) (n+1) s v=sat_deep.c1 k a b i (outw a i) n s' (v+1)
   rw [sat_deep.c1,ilt_pos v1,bT,rP (inL_of v0 v1),rP (inL_of i0 i1)]
   unfold sat_deep.c2
   rw [hd v v0 v1,iadd_i64 (by omega) (by omega)]
   by_cases c:v=0
   ·subst c
    rw [ieq_pos rfl,bT,bS,bT]
    exact ⟨_,⟨fun h=>by omega,fun _=>rfl⟩,rfl⟩
   ·rw [ieq_neg c,bF,bS]
    have hs':=hs.2 (by omega)
    have e:(v+1).toNat - 1=(v.toNat - 1)+1:=by omega
    have e2:(v.toNat - 1)+1=v.toNat:=by omega
    by_cases g:dpf a b i v.toNat > s
    ·rw [igt_pos g,bT]
     refine ⟨_,⟨fun h=>by omega,fun _=>?_⟩,rfl⟩
     rw [e]
     unfold mxf
     rw [e2,← hs',if_pos g]
    ·rw [igt_neg (by omega),bF]
     refine ⟨_,⟨fun h=>by omega,fun _=>?_⟩,rfl⟩
     rw [e]
     unfold mxf
     rw [e2,← hs',if_neg g])
  (by
   intro n s v v0 v1
   show sat_deep.c1 k a b i (outw a i) (n+1) s v=some s
   rw [sat_deep.c1,ilt_neg v1,bF])
  k 0 0 (by omega) (by omega) (by omega) ⟨fun _=>rfl,fun h=>by omega⟩
 obtain ⟨s',hs,e⟩:=H
 have e:sat_deep.c1 k a b i (outw a i) k 0 0=some s':=e
 unfold sat_deep
 rw [Normal_eq k ha wa i0 i1,bS,e,bS,hs.2 b0]
 unfold dp len
 rfl
theorem dp_ge {a b:List V26} (i:Int) {j:Int} (j0:0≤j) (j1:j<len b):tri (q a i) (q a (nx (len a) i)) (q b j)≤dp a b i:=by
 have:=mxf_ge (dpf a b i) (b.length - 1) j.toNat (by unfold len at j1; omega)
 unfold dpf at this
 rw [show ((j.toNat:Nat):Int)=j by omega] at this
 exact this
theorem dp_ex {a b:List V26} (i:Int) (b0:0<len b):∃ j,0≤j∧j<len b∧dp a b i=tri (q a i) (q a (nx (len a) i)) (q b j):=by
 obtain ⟨j,a1,a2⟩:=mxf_ex (dpf a b i) (b.length - 1)
 exact ⟨(j:Int),by omega,by unfold len at *; omega,a2⟩
theorem NoSep_dp {a b:List V26} (b0:0<len b):NoSep a b↔∀ i,0≤i→i<len a→0≤dp a b i:=by
 constructor
 ·intro h i i0 i1
  obtain ⟨j,j0,j1,g⟩:=h i i0 i1
  have:=dp_ge (a:=a) (b:=b) i j0 j1
  omega
 ·intro h i i0 i1
  obtain ⟨j,j0,j1,g⟩:=dp_ex (a:=a) (b:=b) i b0
  have:=h i i0 i1
  exact ⟨j,j0,j1,by omega⟩
open Classical in
noncomputable def rt (n:Int):Int:=if h:∃ r,Rt n r then Classical.choose h else 0
theorem rt_eq {n r:Int} (h:Rt n r):rt n=r:=by
 have hx:∃ r,Rt n r:=⟨r,h⟩
 unfold rt
 rw [dif_pos hx]
 exact Rt_uniq (Classical.choose_spec hx) h
noncomputable def lenN (l:List V26) (i:Int):Int:=rt ((outw l i).1*(outw l i).1+(outw l i).2.1*(outw l i).2.1)
noncomputable def wt (a b:List V26) (i:Int):Int:=rnd (dp a b i) (lenN a i)
theorem sq_nn (x:Int):0≤x*x:=by
 rcases Int.le_total 0 x with h | h
 ·exact Int.mul_nonneg h h
 ·exact Int.mul_nonneg_of_nonpos_of_nonpos h h
theorem outw_ne {l:List V26} (h:Val l) {i:Int} (i0:0≤i) (i1:i<len l):¬ ((outw l i).1=0∧(outw l i).2.1=0):=by
 intro ⟨a,b⟩
 refine edge_ne h.2.2.2 h.1 i0 i1 (v_ext ?_ ?_)
 ·unfold outw at b; dsimp only at b; omega
 ·unfold outw at a; dsimp only at a; omega
theorem sqs {x y:Int} (h:¬ (x=0∧y=0)):0<x*x+y*y:=sq_pos (by omega)
theorem outw_sq {l:List V26} (h:Val l) {i:Int} (i0:0≤i) (i1:i<len l):0<(outw l i).1*(outw l i).1+(outw l i).2.1*(outw l i).2.1∧(outw l i).1*(outw l i).1+(outw l i).2.1*(outw l i).2.1≤34359738368000000 ∧
  0≤(outw l i).1*(outw l i).1∧0≤(outw l i).2.1*(outw l i).2.1:=by
 have ob:=outw_bd h.2.2.1 i0 i1
 have p1:=mul_bd (x:=(outw l i).1) (y:=(outw l i).1) (M:=131072000) (N:=131072000) (by omega) (by omega) (by omega) (by omega)
 have p2:=mul_bd (x:=(outw l i).2.1) (y:=(outw l i).2.1) (M:=131072000) (N:=131072000) (by omega) (by omega) (by omega) (by omega)
 exact ⟨sqs (outw_ne h i0 i1),by omega,sq_nn _,sq_nn _⟩
theorem Length_eq {k:Nat} (hk:40≤k) {l:List V26} (h:Val l) {i:Int} (i0:0≤i) (i1:i<len l):sat_Length k (outw l i)=some (lenN l i)∧0<lenN l i∧lenN l i≤1000000000∧Rt ((outw l i).1*(outw l i).1+(outw l i).2.1*(outw l i).2.1) (lenN l i):=by
 have s:=outw_sq h i0 i1
 obtain ⟨r,e,g⟩:=sat_root_eq hk (n:=(outw l i).1*(outw l i).1+(outw l i).2.1*(outw l i).2.1) (by omega) (by omega)
 have hr:lenN l i=r:=rt_eq g
 refine ⟨?_,?_,?_,by rw [hr]; exact g⟩
 ·unfold sat_Length
  rw [imul_i64 (by omega) (by omega),imul_i64 (by omega) (by omega),iadd_i64 (by omega) (by omega),e,bS,hr]
 ·rw [hr]
  have:=sq_lt (a:=1) (b:=r+1) (by decide) (by have:=g.1; omega) (by have:=g.2.2; omega)
  omega
 ·rw [hr]
  have:=sq_lt (a:=r) (b:=1000000000) g.1 (by decide) (by have:=g.2.1; omega)
  omega
theorem dp_bd {a b:List V26} (wa:AllW a) (wb:AllW b) (b0:0<len b) {i:Int} (i0:0≤i) (i1:i<len a):-34359738368000000≤dp a b i∧dp a b i≤34359738368000000:=by
 obtain ⟨j,j0,j1,g⟩:=dp_ex (a:=a) (b:=b) i b0
 rw [g]
 exact tri_range (wa i i0 i1) (wa _ (nx_range i0 i1).1 (nx_range i0 i1).2) (wb j j0 j1)
theorem rnd_in {d n:Int} (hn:0<n) {c:Int} (c0:0≤c) (h0:-c≤d) (h1:d≤c):-c≤rnd d n∧rnd d n≤c:=by
 have:c≤n*c:=by
  have:=Int.mul_le_mul_of_nonneg_right (show 1≤n by omega) c0
  omega
 exact rnd_bd hn (by omega) (by omega)
theorem depth_eq {k:Nat} (hk:40≤k) {a b:List V26} (ha:Val a) (hb:Val b) {i:Int} (i0:0≤i) (i1:i<len a) :
  ∃ c,poly_Times k (dp a b i) 1=some c∧∃ y,poly_Wide_Over k c (lenN a i)=some y∧y.1=wt a b i:=by
 have b0:0<len b:=by have:=hb.1; omega
 have bd:=dp_bd ha.2.2.1 hb.2.2.1 b0 i0 i1
 obtain ⟨c,e,hc,hv⟩:=Times_eq k (a:=dp a b i) (b:=1) (by omega) (by omega) (by decide) (by decide)
 obtain ⟨_,l0,l1,_⟩:=Length_eq hk ha i0 i1
 refine ⟨c,e,_,Over_pos (by omega) hc l0 (by omega),?_⟩
 rw [hv,Int.mul_one]
 have:=rnd_in (d:=dp a b i) l0 (c:=34359738368000000) (by decide) bd.1 bd.2
 rw [fit_in (by omega)]
 rfl
def PB (a b:List V26) (na nb:Int) (s:Bool) (e d:Int):Prop :=
 (s=false∧0≤e∧e<na∧d=wt a b e∧(∀ i,0≤i→i<e→d<wt a b i)∧(∀ i,e≤i→i<na→d≤wt a b i)∧∀ i,0≤i→i<nb→d≤wt b a i) ∨
 (s=true∧0≤e∧e<nb∧d=wt b a e∧(∀ i,0≤i→i<e→d<wt b a i)∧(∀ i,e≤i→i<nb→d≤wt b a i)∧∀ i,0≤i→i<na→d<wt a b i)
theorem PB_first (a b:List V26):PB a b 1 0 false 0 (wt a b 0) :=
 Or.inl ⟨rfl,by decide,by decide,rfl,fun i h0 h1=>by omega,fun i h0 h1=>(by
  have:i=0:=by omega
  subst this
  exact Int.le_refl _),fun i h0 h1=>by omega⟩
theorem PB_a1 {a b:List V26} {n:Int} {s:Bool} {e d:Int} (hn:0≤n) (h:PB a b n 0 s e d) (g:wt a b n<d):PB a b (n+1) 0 false n (wt a b n):=by
 rcases h with ⟨h1,h2,h3,h4,h5,h6,h7⟩ | ⟨h1,h2,h3,h4,h5,h6,h7⟩
 ·refine Or.inl ⟨rfl,hn,by omega,rfl,fun i i0 i1=>?_,fun i i0 i1=>?_,fun i i0 i1=>by omega⟩
  ·rcases Int.lt_or_le i e with c | c
   ·have:=h5 i i0 c; omega
   ·have:=h6 i c i1; omega
  ·have:i=n:=by omega
   subst this; exact Int.le_refl _
 ·omega
theorem PB_a2 {a b:List V26} {n:Int} {s:Bool} {e d:Int} (h:PB a b n 0 s e d) (g:¬ wt a b n<d):PB a b (n+1) 0 s e d:=by
 rcases h with ⟨h1,h2,h3,h4,h5,h6,h7⟩ | ⟨h1,h2,h3,h4,h5,h6,h7⟩
 ·refine Or.inl ⟨h1,h2,by omega,h4,h5,fun i i0 i1=>?_,h7⟩
  by_cases c:i=n
  ·subst c; omega
  ·exact h6 i i0 (by omega)
 ·omega
theorem PB_b1 {a b:List V26} {na n:Int} {s:Bool} {e d:Int} (hn:0≤n) (h:PB a b na n s e d) (g:wt b a n<d):PB a b na (n+1) true n (wt b a n):=by
 rcases h with ⟨h1,h2,h3,h4,h5,h6,h7⟩ | ⟨h1,h2,h3,h4,h5,h6,h7⟩
 ·refine Or.inr ⟨rfl,hn,by omega,rfl,fun i i0 i1=>?_,fun i i0 i1=>?_,fun i i0 i1=>?_⟩
  ·have:=h7 i i0 i1; omega
  ·have:i=n:=by omega
   subst this; exact Int.le_refl _
  ·rcases Int.lt_or_le i e with c | c
   ·have:=h5 i i0 c; omega
   ·have:=h6 i c i1; omega
 ·refine Or.inr ⟨rfl,hn,by omega,rfl,fun i i0 i1=>?_,fun i i0 i1=>?_,fun i i0 i1=>?_⟩
  ·rcases Int.lt_or_le i e with c | c
   ·have:=h5 i i0 c; omega
   ·have:=h6 i c i1; omega
  ·have:i=n:=by omega
   subst this; exact Int.le_refl _
  ·have:=h7 i i0 i1; omega
theorem PB_b2 {a b:List V26} {na n:Int} {s:Bool} {e d:Int} (h:PB a b na n s e d) (g:¬ wt b a n<d):PB a b na (n+1) s e d:=by
 rcases h with ⟨h1,h2,h3,h4,h5,h6,h7⟩ | ⟨h1,h2,h3,h4,h5,h6,h7⟩
 ·refine Or.inl ⟨h1,h2,h3,h4,h5,h6,fun i i0 i1=>?_⟩
  by_cases c:i=n
  ·subst c; omega
  ·exact h7 i i0 (by omega)
 ·refine Or.inr ⟨h1,h2,by omega,h4,h5,fun i i0 i1=>?_,h7⟩
  by_cases c:i=n
  ·subst c; omega
  ·exact h6 i i0 (by omega)
theorem PB_uniq {a b:List V26} {na nb:Int} {s t:Bool} {e f d c:Int} (h:PB a b na nb s e d) (g:PB a b na nb t f c):s=t∧e=f∧d=c:=by
 rcases h with ⟨h1,h2,h3,h4,h5,h6,h7⟩ | ⟨h1,h2,h3,h4,h5,h6,h7⟩ <;> rcases g with ⟨g1,g2,g3,g4,g5,g6,g7⟩ | ⟨g1,g2,g3,g4,g5,g6,g7⟩
 ·have:e=f:=by
   rcases Int.lt_trichotomy e f with x | x | x
   ·have:=g5 e h2 x
    have:=h6 f (by omega) g3
    omega
   ·exact x
   ·have:=h5 f g2 x
    have:=g6 e (by omega) h3
    omega
  subst this
  exact ⟨by rw [h1,g1],rfl,by omega⟩
 ·exfalso
  have:=g7 e h2 h3
  have:=h7 f g2 g3
  omega
 ·exfalso
  have:=h7 f g2 g3
  have:=g7 e h2 h3
  omega
 ·have:e=f:=by
   rcases Int.lt_trichotomy e f with x | x | x
   ·have:=g5 e h2 x
    have:=h6 f (by omega) g3
    omega
   ·exact x
   ·have:=h5 f g2 x
    have:=g6 e (by omega) h3
    omega
  subst this
  exact ⟨by rw [h1,g1],rfl,by omega⟩
theorem Least_c2 {k:Nat} (hk:40≤k) {a0 a1 l m:List V26} {v5:Int} {s:Bool} (hl:el ([]:List V26) (el (List.replicate 2 []) [[a0,a1],[a1,a0]] v5) 0=l)
  (hm:el ([]:List V26) (el (List.replicate 2 []) [[a0,a1],[a1,a0]] v5) 1=m) (hs:ieq v5 1=s) (vl:Val l) (vm:Val m) (Q:Int→Bool→Bool→Int→Int→Prop)
  (q1:∀ i x y z w,0≤i→i<len l→Q i x y z w→(x=true→wt l m i<w)→Q (i+1) true s i (wt l m i))
  (q2:∀ i x y z w,0≤i→i<len l→Q i x y z w→x=true→¬ wt l m i<w→Q (i+1) x y z w) :
  ∀ (d f:Nat) (i:Int) (x y:Bool) (z w:Int),i=len l - d→0≤i→d<f→Q i x y z w →
   (∃ j,i≤j∧j<len l∧dp l m j<0∧sat_Least.c2 k a0 a1 v5 f x i y z w=some (.inl ())) ∨
   ((∀ j,i≤j→j<len l→0≤dp l m j)∧∃ x' y' z' w',sat_Least.c2 k a0 a1 v5 f x i y z w=some (.inr (x',y',z',w'))∧Q (len l) x' y' z' w'):=by
 have l8:=vl.2.1
 have m0:0<len m:=by have:=vm.1; omega
 intro d
 induction d with
 | zero =>
  intro f i x y z w hi i0 hf hq
  obtain ⟨f,rfl⟩:∃ j,f=j+1:=⟨f - 1,by omega⟩
  have e:i=len l:=by omega
  refine Or.inr ⟨fun j a b=>by omega,x,y,z,w,?_,by rw [← e]; exact hq⟩
  rw [sat_Least.c2,hl,ilt_neg (by omega),bF]
 | succ d ih =>
  intro f i x y z w hi i0 hf hq
  obtain ⟨f,rfl⟩:∃ j,f=j+1:=⟨f - 1,by omega⟩
  have i1:i<len l:=by omega
  rw [sat_Least.c2,hl,hm,ilt_pos i1,bT,deep_eq (by omega) l8 vl.2.2.1 vm.2.1 m0 vm.2.2.1 i0 i1,bS]
  by_cases c:dp l m i<0
  ·exact Or.inl ⟨i,Int.le_refl i,i1,c,by rw [ilt_pos c,bT]⟩
  ·obtain ⟨T,eT,O,eO,hO⟩:=depth_eq hk vl vm i0 i1
   rw [ilt_neg (by omega),bF,Normal_eq k l8 vl.2.2.1 i0 i1,bS,eT,bS,(Length_eq hk vl i0 i1).1,bS,eO,bS,iadd_i64 (by omega) (by omega),hs]
   unfold sat_Least.c3
   rw [hO]
   have pass:∀ x' y' z' w',Q (i+1) x' y' z' w'→(∃ j,i≤j∧j<len l∧dp l m j<0∧sat_Least.c2 k a0 a1 v5 f x' (i+1) y' z' w'=some (.inl ())) ∨
     ((∀ j,i≤j→j<len l→0≤dp l m j)∧∃ x'' y'' z'' w'',sat_Least.c2 k a0 a1 v5 f x' (i+1) y' z' w'=some (.inr (x'',y'',z'',w''))∧Q (len l) x'' y'' z'' w''):=by
    intro x' y' z' w' h
    rcases ih f (i+1) x' y' z' w' (by omega) (by omega) (by omega) h with ⟨j,g1,g2,g3,g4⟩ | ⟨g1,g2⟩
    ·exact Or.inl ⟨j,by omega,g2,g3,g4⟩
    ·refine Or.inr ⟨fun j j0 j1=>?_,g2⟩
     by_cases e:j=i
     ·rw [e]; omega
     ·exact g1 j (by omega) j1
   cases x with
   | false =>
    rw [bF,bS,bT]
    exact pass _ _ _ _ (q1 i false y z w i0 i1 hq (fun h=>by cases h))
   | true =>
    rw [bT]
    by_cases g:wt l m i<w
    ·rw [ilt_pos g,bS,bT]
     exact pass _ _ _ _ (q1 i true y z w i0 i1 hq (fun _=>g))
    ·rw [ilt_neg (by omega),bS,bF]
     exact pass _ _ _ _ (q2 i true y z w i0 i1 hq rfl g)
theorem both_val {k:Nat} (hk:9≤k) {a b:List V26} (ha:Val a) (hb:Val b):sat_both k a b=some 0:=by
 unfold sat_both
 rw [Check_val hk ha,bS,ine_neg rfl,bF,Check_val hk hb,bS]
theorem Least_eq {k:Nat} (hk:40≤k) {a b:List V26} (ha:Val a) (hb:Val b) :
  (¬ (NoSep a b∧NoSep b a)∧sat_Least k a b=some ((false,0,0,()),false,0)) ∨
  ((NoSep a b∧NoSep b a)∧∃ s e d,sat_Least k a b=some ((s,e,d,()),true,0)∧PB a b (len a) (len b) s e d):=by
 have a0:0<len a:=by have:=ha.1; omega
 have b0:0<len b:=by have:=hb.1; omega
 have a8:=ha.2.1
 have b8:=hb.2.1
 have L:len [[a,b],[b,a]]=2:=rfl
 obtain ⟨k',rfl⟩:∃ j,k=j+3:=⟨k - 3,by omega⟩
 have A:=Least_c2 hk (a0:=a) (a1:=b) (l:=a) (m:=b) (v5:=0) (s:=false) rfl rfl rfl ha hb (fun i x y z w=>(i=0∧x=false)∨(x=true∧PB a b i 0 y z w))
  (by
   intro i x y z w i0 i1 h g
   rcases h with ⟨h1,h2⟩ | ⟨h1,h2⟩
   ·subst h1
    exact Or.inr ⟨rfl,PB_first a b⟩
   ·exact Or.inr ⟨rfl,PB_a1 i0 h2 (g h1)⟩)
  (by
   intro i x y z w i0 i1 h hx g
   rcases h with ⟨h1,h2⟩ | ⟨h1,h2⟩
   ·rw [h2] at hx; cases hx
   ·exact Or.inr ⟨h1,PB_a2 h2 g⟩)
  a.length (k'+3) 0 false false 0 0 (by unfold len; omega) (by decide) (by unfold len at a8; omega) (Or.inl ⟨rfl,rfl⟩)
 have st0:sat_Least.c1 (k'+3) a b (k'+3) false 0 false 0 0=bnd (sat_Least.c2 (k'+3) a b 0 (k'+3) false 0 false 0 0) fun o32=>two o32 (fun _=>some (.inl ())) (fun y36=>sat_Least.c1 (k'+3) a b (k'+2) y36.1 1 y36.2.1 y36.2.2.1 y36.2.2.2):=by
  rw [sat_Least.c1,L,ilt_pos (by decide),bT,rP (show inL 0 [[a,b],[b,a]] from ⟨by decide,by show _<(2:Int); decide⟩)]
  rfl
 unfold sat_Least
 rw [both_val (by omega) ha hb,bS,ine_neg rfl,bF,st0]
 rcases A with ⟨j,j0,j1,j2,e⟩ | ⟨h1,x,y,z,w,e,hq⟩
 ·left
  refine ⟨fun h=>?_,by rw [e,bS,two_inl,bS,two_inl]⟩
  have:=(NoSep_dp b0).1 h.1 j j0 j1
  omega
 ·have hx:x=true∧PB a b (len a) 0 y z w:=by
   rcases hq with ⟨g,_⟩ | g
   ·omega
   ·exact g
  obtain ⟨rfl,hp⟩:=hx
  have B:=Least_c2 hk (a0:=a) (a1:=b) (l:=b) (m:=a) (v5:=1) (s:=true) rfl rfl rfl hb ha (fun i x y z w=>x=true∧PB a b (len a) i y z w)
   (by
    intro i x y z w i0 i1 h g
    exact ⟨rfl,PB_b1 i0 h.2 (g h.1)⟩)
   (by
    intro i x y z w i0 i1 h hx g
    exact ⟨hx,PB_b2 h.2 g⟩)
   b.length (k'+3) 0 true y z w (by unfold len; omega) (by decide) (by unfold len at b8; omega) ⟨rfl,hp⟩
  have st1:sat_Least.c1 (k'+3) a b (k'+2) true 1 y z w=bnd (sat_Least.c2 (k'+3) a b 1 (k'+3) true 0 y z w) fun o32=>two o32 (fun _=>some (.inl ())) (fun y36=>sat_Least.c1 (k'+3) a b (k'+1) y36.1 2 y36.2.1 y36.2.2.1 y36.2.2.2):=by
   rw [sat_Least.c1,L,ilt_pos (by decide),bT,rP (show inL 1 [[a,b],[b,a]] from ⟨by decide,by show _<(2:Int); decide⟩)]
   rfl
  rw [e,bS,two_inr]
  dsimp only
  rw [st1]
  rcases B with ⟨j,j0,j1,j2,e⟩ | ⟨g1,x',y',z',w',e,hq⟩
  ·left
   refine ⟨fun h=>?_,by rw [e,bS,two_inl,bS,two_inl]⟩
   have:=(NoSep_dp a0).1 h.2 j j0 j1
   omega
  ·right
   refine ⟨⟨(NoSep_dp b0).2 (fun i i0 i1=>h1 i i0 i1),(NoSep_dp a0).2 (fun i i0 i1=>g1 i i0 i1)⟩,y',z',w',?_,hq.2⟩
   rw [e,bS,two_inr]
   dsimp only
   rw [sat_Least.c1,L,ilt_neg (by decide),bF,bS,two_inr]
def wayV (a b:List V26) (s:Bool) (e:Int):V26:=if s then (-(outw b e).1,-(outw b e).2.1,()) else outw a e
theorem PB_range {a b:List V26} {s:Bool} {e d:Int} (h:PB a b (len a) (len b) s e d):(s=false→0≤e∧e<len a)∧(s=true→0≤e∧e<len b):=by
 rcases h with h | h
 ·exact ⟨fun _=>⟨h.2.1,h.2.2.1⟩,fun g=>(by rw [h.1] at g; cases g)⟩
 ·exact ⟨fun g=>(by rw [h.1] at g; cases g),fun _=>⟨h.2.1,h.2.2.1⟩⟩
theorem wayV_ok {a b:List V26} (ha:Val a) (hb:Val b) {s:Bool} {e d:Int} (h:PB a b (len a) (len b) s e d):¬ ((wayV a b s e).1=0∧(wayV a b s e).2.1=0) ∧
  (-1099511627776≤(wayV a b s e).1∧(wayV a b s e).1≤1099511627776∧-1099511627776≤(wayV a b s e).2.1∧(wayV a b s e).2.1≤1099511627776):=by
 have r:=PB_range h
 unfold wayV
 cases s with
 | false =>
  have r:=r.1 rfl
  have o:=outw_bd ha.2.2.1 r.1 r.2
  rw [if_neg (by decide)]
  exact ⟨outw_ne ha r.1 r.2,by omega⟩
 | true =>
  have r:=r.2 rfl
  have o:=outw_bd hb.2.2.1 r.1 r.2
  have n:=outw_ne hb r.1 r.2
  rw [if_pos rfl]
  dsimp only
  exact ⟨fun g=>n (by omega),by omega⟩
theorem Test_eq {k:Nat} (hk:70≤k) {a b:List V26} (ha:Val a) (hb:Val b) :
  (¬ (NoSep a b∧NoSep b a)∧sat_Test k a b=some (false,0,(0,0,()))) ∨
  ((NoSep a b∧NoSep b a)∧∃ s e d u,sat_Test k a b=some (true,d,u)∧PB a b (len a) (len b) s e d∧vec_Unit k (wayV a b s e)=some u):=by
 unfold sat_Test
 rcases Least_eq (k:=k) (by omega) ha hb with ⟨n,e⟩ | ⟨n,s,e,d,h,p⟩
 ·left
  refine ⟨n,?_⟩
  rw [e,bS]
  unfold sat_Test.c1
  rw [ine_neg rfl,bF,bS]
  rfl
 ·right
  refine ⟨n,s,e,d,?_⟩
  have w:=wayV_ok ha hb p
  obtain ⟨x,y,l,hu,_⟩:=Unit_eq hk w.2 w.1
  refine ⟨_,?_,p,hu⟩
  rw [h,bS]
  unfold sat_Test.c1
  rw [ine_neg rfl,bF,bS]
  show bif' false _ _=_
  rw [bF]
  have r:=PB_range p
  cases s with
  | false =>
   have r:=r.1 rfl
   show bif' false _ _=_
   rw [bF,Normal_eq k ha.2.1 ha.2.2.1 r.1 r.2,bS]
   unfold wayV at hu
   rw [if_neg (by decide)] at hu
   rw [hu,bS]
  | true =>
   have r:=r.2 rfl
   have o:=outw_bd hb.2.2.1 r.1 r.2
   show bif' true _ _=_
   rw [bT,Normal_eq k hb.2.1 hb.2.2.1 r.1 r.2,bS]
   have n1:ineg .i64 (outw b e).1=-(outw b e).1:=by unfold ineg; rw [wrap_i64 (by omega) (by omega)]; omega
   have n2:ineg .i64 (outw b e).2.1=-(outw b e).2.1:=by unfold ineg; rw [wrap_i64 (by omega) (by omega)]; omega
   unfold wayV at hu
   rw [if_pos rfl] at hu
   rw [n1,n2,hu,bS]
end Go.Proofs.T1
