import Derived.Test.YthpbadopmihmpaaGreatPlCast
import Derived.Test.YthpbadopmihmpaaGreatPlGeo
namespace Go.Proofs.T1
open Go Go.Sx
def nu (l:List V26) (a:V26) (i:Int):Int:=tri (q l i) (q l (nx (len l) i)) a
def dn (l:List V26) (b:V26) (i:Int):Int:=((q l (nx (len l) i)).2.1 - (q l i).2.1)*b.1+((q l i).1 - (q l (nx (len l) i)).1)*b.2.1
def Fea (l:List V26) (a b:V26) (X w:Int):Prop:=∀ i,0≤i→i<len l→X*dn l b i≤w*nu l a i
def Big1 (l:List V26):Prop:=3≤len l∧len l≤16∧∀ t,0≤t→t<len l→-131072000≤(q l t).1∧(q l t).1≤131072000∧-131072000≤(q l t).2.1∧(q l t).2.1≤131072000
theorem Fea_hs {l:List V26} {a b:V26} {X w:Int}:Fea l a b X w↔HIn l (w*a.1+X*b.1) (w*a.2.1+X*b.2.1) w:=by
 have e:∀ i,hs (q l i) (q l (nx (len l) i)) (w*a.1+X*b.1) (w*a.2.1+X*b.2.1) w=w*nu l a i - X*dn l b i:=by
  intro i
  unfold hs nu dn tri
  grind
 constructor
 ·intro h i i0 i1
  rw [e]
  have:=h i i0 i1
  omega
 ·intro h i i0 i1
  have:=h i i0 i1
  rw [e] at this
  omega
theorem nd_bd {l:List V26} {a b:V26} (hl:Big1 l) (ha:Wn a) (hb:Wn b) {i:Int} (i0:0≤i) (i1:i<len l) :
  (-1000000000000000000≤nu l a i∧nu l a i≤1000000000000000000)∧(-1000000000000000000≤dn l b i∧dn l b i≤1000000000000000000):=by
 obtain ⟨a1,a2,a3,a4⟩:=ha
 obtain ⟨c1,c2,c3,c4⟩:=hb
 have hn:=nx_range i0 i1
 have b1:=hl.2.2 i i0 i1
 have b2:=hl.2.2 _ hn.1 hn.2
 unfold nu dn tri
 generalize q l i=p at *
 generalize q l (nx (len l) i)=r at *
 have p1:=mul_bd (x:=r.1 - p.1) (y:=a.2.1 - p.2.1) (M:=262144000) (N:=196608000) (by omega) (by omega) (by omega) (by omega)
 have p2:=mul_bd (x:=r.2.1 - p.2.1) (y:=a.1 - p.1) (M:=262144000) (N:=196608000) (by omega) (by omega) (by omega) (by omega)
 have p3:=mul_bd (x:=r.2.1 - p.2.1) (y:=b.1) (M:=262144000) (N:=65536000) (by omega) (by omega) (by omega) (by omega)
 have p4:=mul_bd (x:=p.1 - r.1) (y:=b.2.1) (M:=262144000) (N:=65536000) (by omega) (by omega) (by omega) (by omega)
 omega
theorem num_eq {l:List V26} {a:V26} (hl:Big1 l) (ha:Wn a) {v:Int} (v0:0≤v) (v1:v<len l) :
  iadd .i64 (imul .i64 (isub .i64 (el Z26 l (irem (iadd .i64 v 1) (len l))).2.1 (el Z26 l v).2.1) (isub .i64 (el Z26 l v).1 a.1)) (imul .i64 (isub .i64 (el Z26 l v).1 (el Z26 l (irem (iadd .i64 v 1) (len l))).1) (isub .i64 (el Z26 l v).2.1 a.2.1))=nu l a v:=by
 obtain ⟨a1,a2,a3,a4⟩:=ha
 have hn:=nx_range v0 v1
 have b1:=hl.2.2 v v0 v1
 have b2:=hl.2.2 _ hn.1 hn.2
 rw [irem_nx v0 v1 (by have:=hl.2.1; omega)]
 show iadd .i64 (imul .i64 (isub .i64 (q l (nx (len l) v)).2.1 (q l v).2.1) (isub .i64 (q l v).1 a.1)) (imul .i64 (isub .i64 (q l v).1 (q l (nx (len l) v)).1) (isub .i64 (q l v).2.1 a.2.1))=_
 unfold nu tri
 generalize q l v=p at *
 generalize q l (nx (len l) v)=r at *
 have p1:=mul_bd (x:=r.2.1 - p.2.1) (y:=p.1 - a.1) (M:=262144000) (N:=196608000) (by omega) (by omega) (by omega) (by omega)
 have p2:=mul_bd (x:=p.1 - r.1) (y:=p.2.1 - a.2.1) (M:=262144000) (N:=196608000) (by omega) (by omega) (by omega) (by omega)
 rw [isub_i64 (x:=r.2.1) (by omega) (by omega),isub_i64 (x:=p.1) (y:=a.1) (by omega) (by omega),isub_i64 (x:=p.1) (y:=r.1) (by omega) (by omega),isub_i64 (x:=p.2.1) (by omega) (by omega),imul_i64 (by omega) (by omega),imul_i64 (by omega) (by omega),iadd_i64 (by omega) (by omega)]
 grind
theorem den_eq {l:List V26} {b:V26} (hl:Big1 l) (hb:Wn b) {v:Int} (v0:0≤v) (v1:v<len l) :
  iadd .i64 (imul .i64 (isub .i64 (el Z26 l (irem (iadd .i64 v 1) (len l))).2.1 (el Z26 l v).2.1) b.1) (imul .i64 (isub .i64 (el Z26 l v).1 (el Z26 l (irem (iadd .i64 v 1) (len l))).1) b.2.1)=dn l b v:=by
 obtain ⟨a1,a2,a3,a4⟩:=hb
 have hn:=nx_range v0 v1
 have b1:=hl.2.2 v v0 v1
 have b2:=hl.2.2 _ hn.1 hn.2
 rw [irem_nx v0 v1 (by have:=hl.2.1; omega)]
 show iadd .i64 (imul .i64 (isub .i64 (q l (nx (len l) v)).2.1 (q l v).2.1) b.1) (imul .i64 (isub .i64 (q l v).1 (q l (nx (len l) v)).1) b.2.1)=_
 unfold dn
 generalize q l v=p at *
 generalize q l (nx (len l) v)=r at *
 have p1:=mul_bd (x:=r.2.1 - p.2.1) (y:=b.1) (M:=262144000) (N:=65536000) (by omega) (by omega) (by omega) (by omega)
 have p2:=mul_bd (x:=p.1 - r.1) (y:=b.2.1) (M:=262144000) (N:=65536000) (by omega) (by omega) (by omega) (by omega)
 rw [isub_i64 (x:=r.2.1) (by omega) (by omega),isub_i64 (x:=p.1) (y:=r.1) (by omega) (by omega),imul_i64 (by omega) (by omega),imul_i64 (by omega) (by omega),iadd_i64 (by omega) (by omega)]
theorem fr_trans {a b c d e f:Int} (hb:0≤b) (hd:0<d) (hf:0≤f) (h1:a*d≤c*b) (h2:c*f≤e*d):a*f≤e*b:=by
 have p1:=Int.mul_le_mul_of_nonneg_right h1 hf
 have p2:=Int.mul_le_mul_of_nonneg_right h2 hb
 have e1:a*d*f=a*f*d:=by grind
 have e2:c*b*f=c*f*b:=by grind
 have e3:e*d*b=e*b*d:=by grind
 refine Int.le_of_mul_le_mul_right ?_ hd
 omega
theorem cmp_ilt (x y:Int):ilt (cmpI x y) 0=decide (x<y):=by
 unfold cmpI
 by_cases h:x<y
 ·rw [if_pos h,decide_eq_true h]; rfl
 ·rw [if_neg h,decide_eq_false h]
  split <;> rfl
theorem cmp_igt (x y:Int):igt (cmpI x y) 0=decide (y<x):=by
 unfold cmpI
 by_cases h:x<y
 ·rw [if_pos h,decide_eq_false (by omega)]; rfl
 ·rw [if_neg h]
  by_cases g:x=y
  ·rw [if_pos g,decide_eq_false (by omega)]; rfl
  ·rw [if_neg g,decide_eq_true (by omega)]; rfl
theorem cmp_ile (x y:Int):ile (cmpI x y) 0=decide (x≤y):=by
 unfold cmpI
 by_cases h:x<y
 ·rw [if_pos h,decide_eq_true (by omega)]; rfl
 ·rw [if_neg h]
  by_cases g:x=y
  ·rw [if_pos g,decide_eq_true (by omega)]; rfl
  ·rw [if_neg g,decide_eq_false (by omega)]; rfl
structure RI (l:List V26) (a b:V26) (v e1 e2 f1 f2:Int):Prop where
 e0:0≤e1
 ep:0<e2
 eo:(e1=0∧e2=1)∨∃ i,0≤i∧i<len l∧dn l b i<0∧e1=-nu l a i∧e2=-dn l b i
 fp:0<f2
 fl:f1≤f2
 fo:(f1=1∧f2=1)∨∃ i,0≤i∧i<len l∧0<dn l b i∧f1=nu l a i∧f2=dn l b i
 lo:∀ i,0≤i→i<v→dn l b i<0→-nu l a i*e2≤e1*-dn l b i
 hi:∀ i,0≤i→i<v→0<dn l b i→f1*dn l b i≤nu l a i*f2
 ze:∀ i,0≤i→i<v→dn l b i=0→0≤nu l a i
theorem RI_bd {l:List V26} {a b:V26} {v e1 e2 f1 f2:Int} (hl:Big1 l) (ha:Wn a) (hb:Wn b) (h:RI l a b v e1 e2 f1 f2):I64 e1∧I64 e2∧I64 f1∧I64 f2:=by
 have k1:I64 e1∧I64 e2:=by
  rcases h.eo with ⟨x,y⟩ | ⟨i,i0,i1,_,x,y⟩
  ·rw [x,y]; exact ⟨⟨by decide,by decide⟩,⟨by decide,by decide⟩⟩
  ·have:=nd_bd hl ha hb i0 i1
   unfold I64
   omega
 have k2:I64 f1∧I64 f2:=by
  rcases h.fo with ⟨x,y⟩ | ⟨i,i0,i1,_,x,y⟩
  ·rw [x,y]; exact ⟨⟨by decide,by decide⟩,⟨by decide,by decide⟩⟩
  ·have:=nd_bd hl ha hb i0 i1
   unfold I64
   omega
 exact ⟨k1.1,k1.2,k2.1,k2.2⟩
theorem rline_loop (k:Nat) {l:List V26} {a b:V26} (hl:Big1 l) (ha:Wn a) (hb:Wn b):∀ (n:Nat) (v e1 e2 f1 f2:Int),0≤v→v≤len l→len l - v<(n:Int)→RI l a b v e1 e2 f1 f2 →
  (ray_line.c1 k l a b n v e1 e2 f1 f2=some (.inl ())∧∃ i,0≤i∧i<len l∧dn l b i=0∧nu l a i<0) ∨
   ∃ e1' e2' f1' f2',ray_line.c1 k l a b n v e1 e2 f1 f2=some (.inr (e1',e2',f1',f2'))∧RI l a b (len l) e1' e2' f1' f2':=by
 intro n
 induction n with
 | zero=>intro v e1 e2 f1 f2 _ _ h; omega
 | succ n ih =>
  intro v e1 e2 f1 f2 v0 vl v1 R
  rw [ray_line.c1]
  by_cases c:v<len l
  ·have h16:=hl.2.1
   have hn:=nx_range v0 c
   have hr:irem (iadd .i64 v 1) (len l)=nx (len l) v:=irem_nx v0 c (by omega)
   have st:iadd .i64 v 1=v+1:=iadd_i64 (by omega) (by omega)
   have bd:=nd_bd hl ha hb v0 c
   obtain ⟨j1,j2,j3,j4⟩:=RI_bd hl ha hb R
   have iN:I64 (nu l a v):=by unfold I64; omega
   have iD:I64 (dn l b v):=by unfold I64; omega
   have iN':I64 (-nu l a v):=by unfold I64; omega
   have iD':I64 (-dn l b v):=by unfold I64; omega
   have nN:ineg .i64 (nu l a v)=-nu l a v:=by unfold ineg; rw [wrap_i64 (by omega) (by omega)]; omega
   have nD:ineg .i64 (dn l b v)=-dn l b v:=by unfold ineg; rw [wrap_i64 (by omega) (by omega)]; omega
   have t2:ray_line.c2 k l a b v=some (decide (dn l b v=0∧nu l a v<0)):=by
    unfold ray_line.c2
    rw [num_eq hl ha v0 c,den_eq hl hb v0 c]
    by_cases z:dn l b v=0
    ·rw [ieq_pos z,bT]
     unfold ilt
     congr 1
     rw [decide_eq_decide]
     exact ⟨fun h=>⟨z,h⟩,fun h=>h.2⟩
    ·rw [ieq_neg z,bF,decide_eq_false (fun h=>z h.1)]
   have t3:ray_line.c3 k l a b v f1 f2=some (decide (0<dn l b v∧nu l a v*f2<f1*dn l b v)):=by
    unfold ray_line.c3
    rw [num_eq hl ha v0 c,den_eq hl hb v0 c,pcmp_eq k (a:=(nu l a v,dn l b v,())) (b:=(f1,f2,())) iN iD j3 j4,bS,cmp_ilt]
    by_cases z:0<dn l b v
    ·rw [igt_pos z,bT]
     congr 1
     rw [decide_eq_decide]
     exact ⟨fun h=>⟨z,h⟩,fun h=>h.2⟩
    ·rw [igt_neg (by omega),bF,decide_eq_false (fun h=>z h.1)]
   have t4:ray_line.c4 k l a b v e1 e2=some (decide (dn l b v<0∧e1*-dn l b v < -nu l a v*e2)):=by
    unfold ray_line.c4
    rw [num_eq hl ha v0 c,den_eq hl hb v0 c,nN,nD,pcmp_eq k (a:=(-nu l a v,-dn l b v,())) (b:=(e1,e2,())) iN' iD' j1 j2,bS,cmp_igt]
    by_cases z:dn l b v<0
    ·rw [ilt_pos z,bT]
     congr 1
     rw [decide_eq_decide]
     exact ⟨fun h=>⟨z,h⟩,fun h=>h.2⟩
    ·rw [ilt_neg (by omega),bF,decide_eq_false (fun h=>z h.1)]
   rw [ilt_pos c,bT,rP (inL_of v0 c),rP (show nz (len l) by unfold nz; omega),rP (show inL (irem (iadd .i64 v 1) (len l)) l by rw [hr]; exact inL_of hn.1 hn.2),t2,bS,t3,bS,t4,bS,num_eq hl ha v0 c,den_eq hl hb v0 c,nN,nD,st]
   by_cases A:dn l b v=0∧nu l a v<0
   ·rw [decide_eq_true A,bT]
    exact Or.inl ⟨rfl,v,v0,c,A⟩
   ·rw [decide_eq_false A,bF]
    by_cases B:0<dn l b v∧nu l a v*f2<f1*dn l b v
    ·rw [decide_eq_true B,bT]
     obtain ⟨B1,B2⟩:=B
     refine ih (v+1) e1 e2 _ _ (by omega) (by omega) (by omega) ⟨R.e0,R.ep,R.eo,B1,?_,Or.inr ⟨v,v0,c,B1,rfl,rfl⟩,fun i i0 i1 d=>?_,fun i i0 i1 d=>?_,fun i i0 i1 d=>?_⟩
     ·have h1:=Int.mul_le_mul_of_nonneg_right R.fl (Int.le_of_lt B1)
      have h2:nu l a v*f2<dn l b v*f2:=by rw [Int.mul_comm (dn l b v)]; omega
      exact Int.le_of_lt (Int.lt_of_mul_lt_mul_right h2 (Int.le_of_lt R.fp))
     ·by_cases g:i=v
      ·subst g; omega
      ·exact R.lo i i0 (by omega) d
     ·by_cases g:i=v
      ·subst g; exact Int.le_refl _
      ·exact fr_trans (Int.le_of_lt B1) R.fp (Int.le_of_lt d) (Int.le_of_lt B2) (R.hi i i0 (by omega) d)
     ·by_cases g:i=v
      ·subst g; omega
      ·exact R.ze i i0 (by omega) d
    ·rw [decide_eq_false B,bF]
     by_cases C:dn l b v<0∧e1*-dn l b v < -nu l a v*e2
     ·rw [decide_eq_true C,bT]
      obtain ⟨C1,C2⟩:=C
      have pos:0≤-nu l a v:=by
       have h1:=Int.mul_nonneg R.e0 (show 0≤-dn l b v by omega)
       have h2:0*e2 < -nu l a v*e2:=by rw [Int.zero_mul]; omega
       exact Int.le_of_lt (Int.lt_of_mul_lt_mul_right h2 (Int.le_of_lt R.ep))
      refine ih (v+1) _ _ f1 f2 (by omega) (by omega) (by omega) ⟨pos,by omega,Or.inr ⟨v,v0,c,C1,rfl,rfl⟩,R.fp,R.fl,R.fo,fun i i0 i1 d=>?_,fun i i0 i1 d=>?_,fun i i0 i1 d=>?_⟩
      ·by_cases g:i=v
       ·subst g; exact Int.le_refl _
       ·exact fr_trans (by omega) R.ep (by omega) (R.lo i i0 (by omega) d) (Int.le_of_lt C2)
      ·by_cases g:i=v
       ·subst g; omega
       ·exact R.hi i i0 (by omega) d
      ·by_cases g:i=v
       ·subst g; omega
       ·exact R.ze i i0 (by omega) d
     ·rw [decide_eq_false C,bF]
      refine ih (v+1) e1 e2 f1 f2 (by omega) (by omega) (by omega) ⟨R.e0,R.ep,R.eo,R.fp,R.fl,R.fo,fun i i0 i1 d=>?_,fun i i0 i1 d=>?_,fun i i0 i1 d=>?_⟩
      ·by_cases g:i=v
       ·subst g
        by_cases w:e1*-dn l b i < -nu l a i*e2
        ·exact absurd ⟨d,w⟩ C
        ·omega
       ·exact R.lo i i0 (by omega) d
      ·by_cases g:i=v
       ·subst g
        by_cases w:nu l a i*f2<f1*dn l b i
        ·exact absurd ⟨d,w⟩ B
        ·omega
       ·exact R.hi i i0 (by omega) d
      ·by_cases g:i=v
       ·subst g
        by_cases w:nu l a i<0
        ·exact absurd ⟨d,w⟩ A
        ·omega
       ·exact R.ze i i0 (by omega) d
  ·have:v=len l:=by omega
   subst this
   rw [ilt_neg (by omega),bF]
   exact Or.inr ⟨e1,e2,f1,f2,rfl,R⟩
theorem pfloor_loop (k:Nat) {X w:Int} (h1:I64 X) (h2:I64 w):∀ (m f:Nat) (v1 v2:Int),m<f→0≤v1→v1<v2→v2≤65537→v2 - v1≤2 ^ m→v1*w≤X*65536→X*65536<v2*w →
  ∃ t,ray_part_floor.c1 k (X,w,()) f v1 v2=some t∧0≤t∧t≤65536∧t*w≤X*65536∧X*65536<(t+1)*w:=by
 intro m
 induction m with
 | zero =>
  intro f v1 v2 hf a1 b c g p1 p2
  obtain ⟨f,rfl⟩:∃ j,f=j+1:=⟨f - 1,by omega⟩
  have:v2=v1+1:=by simp at g; omega
  subst this
  rw [ray_part_floor.c1,isub_i64 (by omega) (by omega),igt_neg (by omega),bF]
  exact ⟨_,rfl,a1,by omega,p1,p2⟩
 | succ m ih =>
  intro f v1 v2 hf a1 b c g p1 p2
  obtain ⟨f,rfl⟩:∃ j,f=j+1:=⟨f - 1,by omega⟩
  rw [ray_part_floor.c1,isub_i64 (by omega) (by omega)]
  by_cases h:v2 - v1 > 1
  ·have e2:(2:Int) ^ (m+1)=2*2 ^ m:=by rw [Int.pow_succ]; omega
   rw [e2] at g
   obtain ⟨x,e1,o1,w1⟩:=Times_eq k (a:=(v1+v2) / 2) (b:=w) (by omega) (by omega) h2.1 h2.2
   obtain ⟨y,e3,o2,w2⟩:=Times_eq k (a:=X) (b:=65536) h1.1 h1.2 (by decide) (by decide)
   rw [igt_pos h,bT,iadd_i64 (by omega) (by omega),iquo_i64 (by omega) (by omega) (by decide)]
   dsimp only
   rw [e1,bS,e3,bS,WCmp_eq k o1 o2,bS,cmp_ile,w1,w2]
   by_cases z:(v1+v2) / 2*w≤X*65536
   ·rw [decide_eq_true z,bT]
    exact ih f _ _ (by omega) (by omega) (by omega) c (by omega) z p2
   ·rw [decide_eq_false z,bF]
    exact ih f _ _ (by omega) a1 (by omega) (by omega) (by omega) p1 (by omega)
  ·rw [igt_neg (by omega),bF]
   have:v2=v1+1:=by omega
   subst this
   exact ⟨_,rfl,a1,by omega,p1,p2⟩
theorem rline_spec {k:Nat} (hk:40≤k) {l:List V26} {a b:V26} (hl:Big1 l) (ha:Wn a) (hb:Wn b) :
  (∃ X w t,ray_line k l a b=some (t,true)∧0<w∧0≤X∧X≤w∧Fea l a b X w∧(∀ Y v,0<v→0≤Y→Y≤v→Fea l a b Y v→X*v≤Y*w)∧(0≤t∧t≤65536∧t*w≤X*65536∧X*65536<(t+1)*w) ∧
   ((X=0∧w=1)∨∃ i,0≤i∧i<len l∧dn l b i<0∧X=-nu l a i∧w=-dn l b i)) ∨
  (ray_line k l a b=some (0,false)∧∀ Y v,0<v→0≤Y→Y≤v→¬ Fea l a b Y v):=by
 have h16:=hl.2.1
 have R0:RI l a b 0 0 1 1 1:=⟨by decide,by decide,Or.inl ⟨rfl,rfl⟩,by decide,by decide,Or.inl ⟨rfl,rfl⟩,fun i i0 i1=>by omega,fun i i0 i1=>by omega,fun i i0 i1=>by omega⟩
 unfold ray_line
 rcases rline_loop k hl ha hb k 0 0 1 1 1 (by decide) (by have:=hl.1; omega) (by omega) R0 with ⟨e,i,i0,i1,d0,n0⟩ | ⟨e1,e2,f1,f2,e,R⟩
 ·rw [e,bS,two_inl]
  refine Or.inr ⟨rfl,fun Y v v0 _ _ h=>?_⟩
  have h1:=h i i0 i1
  rw [d0,Int.mul_zero] at h1
  have h2:=Int.mul_pos v0 (show 0 < -nu l a i by omega)
  rw [Int.mul_neg] at h2
  omega
 ·obtain ⟨j1,j2,j3,j4⟩:=RI_bd hl ha hb R
  have low:∀ Y v,0<v→0≤Y→Fea l a b Y v→e1*v≤Y*e2:=by
   intro Y v v0 y0 h
   rcases R.eo with ⟨x,y⟩ | ⟨i,i0,i1,d,x,y⟩
   ·rw [x,y]; omega
   ·have h1:=h i i0 i1
    rw [x,y,Int.mul_neg,Int.neg_mul,Int.mul_comm (nu l a i)]
    omega
  have high:∀ Y v,0<v→Y≤v→Fea l a b Y v→Y*f2≤f1*v:=by
   intro Y v v0 y0 h
   rcases R.fo with ⟨x,y⟩ | ⟨i,i0,i1,d,x,y⟩
   ·rw [x,y]; omega
   ·have h1:=h i i0 i1
    rw [x,y,Int.mul_comm (nu l a i)]
    omega
  rw [e,bS,two_inr]
  dsimp only
  rw [pcmp_eq k (a:=(e1,e2,())) (b:=(f1,f2,())) j1 j2 j3 j4,bS,cmp_igt]
  dsimp only
  by_cases z:f1*e2<e1*f2
  ·rw [decide_eq_true z,bT]
   refine Or.inr ⟨rfl,fun Y v v0 y0 y1 h=>?_⟩
   have h1:=low Y v v0 y0 h
   have h2:=high Y v v0 y1 h
   have:=fr_trans (Int.le_of_lt R.ep) v0 (Int.le_of_lt R.fp) h1 h2
   omega
  ·rw [decide_eq_false z,bF]
   have z:e1*f2≤f1*e2:=by omega
   have le1:e1≤e2:=by
    have h1:=Int.mul_le_mul_of_nonneg_right R.fl (Int.le_of_lt R.ep)
    have h2:e1*f2≤e2*f2:=by rw [Int.mul_comm e2]; omega
    exact Int.le_of_mul_le_mul_right h2 R.fp
   obtain ⟨t,t1,t2,t3,t4,t5⟩:=pfloor_loop k j1 j2 17 k 0 65537 (by omega) (by decide) (by decide) (by decide) (by decide) (by rw [Int.zero_mul]; exact Int.mul_nonneg R.e0 (by decide)) (by have:=R.ep; omega)
   refine Or.inl ⟨e1,e2,t,?_,R.ep,R.e0,le1,fun i i0 i1=>?_,fun Y v v0 y0 y1 h=>low Y v v0 y0 h,⟨t2,t3,t4,t5⟩,R.eo⟩
   ·unfold ray_part_floor
    rw [t1,bS,bS]
   ·by_cases d:dn l b i<0
    ·have:=R.lo i i0 i1 d
     rw [Int.mul_neg,Int.neg_mul,Int.mul_comm (nu l a i)] at this
     omega
    ·by_cases d2:dn l b i=0
     ·have:=Int.mul_nonneg (Int.le_of_lt R.ep) (R.ze i i0 i1 d2)
      rw [d2,Int.mul_zero]
      exact this
     ·have h1:=R.hi i i0 i1 (by omega)
      have:=fr_trans (Int.le_of_lt R.ep) R.fp (show 0≤dn l b i by omega) z h1
      rw [Int.mul_comm e2]
      exact this
end Go.Proofs.T1
