import Derived.Test.YthpbadopmihmpaaGreatPlScene
import Derived.Test.YthpbadopmihmpaaGreatG8
import Derived.Test.YthpbadopmihmpaaGreatG11
namespace Go.Proofs.T1
open Go Go.Sx
theorem I64_add (x y:Int):I64 (iadd .i64 x y):=wrap_i64_range _
theorem I64_neg (x:Int):I64 (ineg .i64 x):=wrap_i64_range _
theorem bif_tot {α:Type} (b:Bool) (x y:α):∃ z,bif' b (some x) (some y)=some z:=by cases b <;> exact ⟨_,rfl⟩
theorem pcmp_eq (k:Nat) {a b:V26} (h1:I64 a.1) (h2:I64 a.2.1) (g1:I64 b.1) (g2:I64 b.2.1):ray_part_cmp k a b=some (cmpI (a.1*b.2.1) (b.1*a.2.1)):=by
 obtain ⟨x,e1,o1,v1⟩:=Times_eq k (a:=a.1) (b:=b.2.1) h1.1 h1.2 g2.1 g2.2
 obtain ⟨y,e2,o2,v2⟩:=Times_eq k (a:=b.1) (b:=a.2.1) g1.1 g1.2 h2.1 h2.2
 unfold ray_part_cmp
 rw [e1,bS,e2,bS,WCmp_eq k o1 o2,bS,v1,v2]
theorem pfloor_c1 (k:Nat) {a:V26} (h1:I64 a.1) (h2:I64 a.2.1):∀ (m f:Nat) (v1 v2:Int),m<f→0≤v1→v1<v2→v2≤65537→v2 - v1≤2 ^ m→∃ r,ray_part_floor.c1 k a f v1 v2=some r:=by
 intro m
 induction m with
 | zero =>
  intro f v1 v2 hf a1 b c g
  obtain ⟨f,rfl⟩:∃ j,f=j+1:=⟨f - 1,by omega⟩
  have:v2=v1+1:=by simp at g; omega
  subst this
  rw [ray_part_floor.c1,isub_i64 (by omega) (by omega),igt_neg (by omega),bF]
  exact ⟨_,rfl⟩
 | succ m ih =>
  intro f v1 v2 hf a1 b c g
  obtain ⟨f,rfl⟩:∃ j,f=j+1:=⟨f - 1,by omega⟩
  rw [ray_part_floor.c1,isub_i64 (by omega) (by omega)]
  by_cases h:v2 - v1 > 1
  ·have e2:(2:Int) ^ (m+1)=2*2 ^ m:=by rw [Int.pow_succ]; omega
   rw [e2] at g
   obtain ⟨x,e1,o1,_⟩:=Times_eq k (a:=(v1+v2) / 2) (b:=a.2.1) (by omega) (by omega) h2.1 h2.2
   obtain ⟨y,e3,o2,_⟩:=Times_eq k (a:=a.1) (b:=65536) h1.1 h1.2 (by decide) (by decide)
   rw [igt_pos h,bT,iadd_i64 (by omega) (by omega),iquo_i64 (by omega) (by omega) (by decide),e1,bS,e3,bS,WCmp_eq k o1 o2,bS]
   cases ile (cmpI (wv x) (wv y)) 0 with
   | true =>
    rw [bT]
    exact ih f _ _ (by omega) (by omega) (by omega) c (by omega)
   | false =>
    rw [bF]
    exact ih f _ _ (by omega) a1 (by omega) (by omega) (by omega)
  ·rw [igt_neg (by omega),bF]
   exact ⟨_,rfl⟩
theorem pfloor_tot {k:Nat} (hk:40≤k) {a:V26} (h1:I64 a.1) (h2:I64 a.2.1):∃ r,ray_part_floor k a=some r:=by
 obtain ⟨r,h⟩:=pfloor_c1 k h1 h2 17 k 0 65537 (by omega) (by decide) (by decide) (by decide) (by decide)
 unfold ray_part_floor
 rw [h,bS]
 exact ⟨_,rfl⟩
theorem rline_c1 (k:Nat) {l:List V26} (h8:len l≤8) (a b:V26):∀ (n:Nat) (v v2 v3 v4 v5:Int),0≤v→len l - v<(n:Int)→0<n→I64 v2→I64 v3→I64 v4→I64 v5 →
  ∃ o,ray_line.c1 k l a b n v v2 v3 v4 v5=some o∧∀ y,o=.inr y→I64 y.1∧I64 y.2.1∧I64 y.2.2.1∧I64 y.2.2.2:=by
 intro n
 induction n with
 | zero=>intro v v2 v3 v4 v5 _ _ h; omega
 | succ n ih =>
  intro v v2 v3 v4 v5 v0 v1 _ i2 i3 i4 i5
  rw [ray_line.c1]
  by_cases c:v<len l
  ·have hn:=nx_range v0 c
   have hr:irem (iadd .i64 v 1) (len l)=nx (len l) v:=irem_nx v0 c (by omega)
   have t2:∃ o,ray_line.c2 k l a b v=some o:=by
    unfold ray_line.c2
    exact bif_tot _ _ _
   have t3:∃ o,ray_line.c3 k l a b v v4 v5=some o:=by
    unfold ray_line.c3
    rw [pcmp_eq k (I64_add _ _) (I64_add _ _) i4 i5,bS]
    exact bif_tot _ _ _
   have t4:∃ o,ray_line.c4 k l a b v v2 v3=some o:=by
    unfold ray_line.c4
    rw [pcmp_eq k (I64_neg _) (I64_neg _) i2 i3,bS]
    exact bif_tot _ _ _
   obtain ⟨o2,t2⟩:=t2
   obtain ⟨o3,t3⟩:=t3
   obtain ⟨o4,t4⟩:=t4
   rw [ilt_pos c,bT,rP (inL_of v0 c),rP (show nz (len l) by unfold nz; omega),rP (show inL (irem (iadd .i64 v 1) (len l)) l by rw [hr]; exact inL_of hn.1 hn.2),t2,bS]
   have st:iadd .i64 v 1=v+1:=iadd_i64 (by omega) (by omega)
   cases o2 with
   | true =>
    rw [bT]
    exact ⟨_,rfl,fun y h=>by cases h⟩
   | false =>
    rw [bF,t3,bS]
    cases o3 with
    | true =>
     rw [bT]
     exact ih (iadd .i64 v 1) v2 v3 _ _ (by omega) (by omega) (by omega) i2 i3 (I64_add _ _) (I64_add _ _)
    | false =>
     rw [bF,t4,bS]
     cases o4 with
     | true =>
      rw [bT]
      exact ih (iadd .i64 v 1) _ _ v4 v5 (by omega) (by omega) (by omega) (I64_neg _) (I64_neg _) i4 i5
     | false =>
      rw [bF]
      exact ih (iadd .i64 v 1) v2 v3 v4 v5 (by omega) (by omega) (by omega) i2 i3 i4 i5
  ·rw [ilt_neg (by omega),bF]
   refine ⟨_,rfl,fun y h=>?_⟩
   cases h
   exact ⟨i2,i3,i4,i5⟩
theorem rline_tot {k:Nat} (hk:40≤k) {l:List V26} (h8:len l≤8) (a b:V26):∃ h,ray_Cast_1 k l a b=some h:=by
 obtain ⟨o,e1,e2⟩:=rline_c1 k h8 a b k 0 0 1 1 1 (by decide) (by omega) (by omega) ⟨by decide,by decide⟩ ⟨by decide,by decide⟩ ⟨by decide,by decide⟩ ⟨by decide,by decide⟩
 unfold ray_Cast_1 ray_line
 rw [e1,bS]
 cases o with
 | inl y =>
  rw [two_inl,bS]
  exact ⟨_,rfl⟩
 | inr y =>
  obtain ⟨i1,i2,i3,i4⟩:=e2 y rfl
  rw [two_inr,pcmp_eq k i1 i2 i3 i4,bS]
  cases igt (cmpI (y.1*y.2.2.2) (y.2.2.1*y.2.1)) 0 with
  | true =>
   rw [bT,bS]
   exact ⟨_,rfl⟩
  | false =>
   obtain ⟨r,hr⟩:=pfloor_tot hk (a:=(y.1,y.2.1,())) i1 i2
   rw [bF,hr,bS,bS]
   exact ⟨_,rfl⟩
theorem place_tot {k:Nat} (hk:10≤k) (b:V45) (hc:OKb k b):∃ l,body_Place k b=some l∧Val l:=by
 obtain ⟨p,v,ang,spin,mass,inertia,bounce,rub,l,asleep,calm,_⟩:=b
 obtain ⟨l',e,h,_⟩:=Place_val hk hc
 exact ⟨l',e,h⟩
def hitOf (k:Nat) (f:((List V26) × Unit)→Option (Int × Bool)) (b:V45):Int × Bool:=((body_Place k b).bind fun l=>f (l,())).getD (0,false)
def FirstOf (k:Nat) (f:((List V26) × Unit)→Option (Int × Bool)) (l:List V45) (i:Int):Prop :=
 (hitOf k f (el Z45 l i)).2=true∧∀ j,0≤j→j<len l→(hitOf k f (el Z45 l j)).2=true→(hitOf k f (el Z45 l i)).1≤(hitOf k f (el Z45 l j)).1∧(j<i→(hitOf k f (el Z45 l i)).1<(hitOf k f (el Z45 l j)).1)
theorem first_ok {k:Nat} (hk:100<k) {l:List V45} (hA:AllK k l) (hl:len l≤64) {f:((List V26) × Unit)→Option (Int × Bool)} (hf:∀ m,Val m→∃ h,f (m,())=some h) :
  (∃ i,0≤i∧i<len l∧FirstOf k f l i∧ray_first k l f=some (i,(hitOf k f (el Z45 l i)).1,0))∨((∀ j,0≤j→j<len l→(hitOf k f (el Z45 l j)).2=false)∧ray_first k l f=some (0,0,4)):=by
 obtain ⟨s,hI,e⟩:=inv_loop (fun n (s:Int × Int) v=>ray_first.c1 k l f n s.1 s.2 v) 0 (len l)
  (fun s v=>(s.1=-1∧∀ j,0≤j→j<v→(hitOf k f (el Z45 l j)).2=false)∨(0≤s.1∧s.1<v∧s.2=(hitOf k f (el Z45 l s.1)).1∧(hitOf k f (el Z45 l s.1)).2=true ∧
   ∀ j,0≤j→j<v→(hitOf k f (el Z45 l j)).2=true→(hitOf k f (el Z45 l s.1)).1≤(hitOf k f (el Z45 l j)).1∧(j<s.1→(hitOf k f (el Z45 l s.1)).1<(hitOf k f (el Z45 l j)).1)))
  (by
   intro n s v v0 v1 hI
   obtain ⟨P,p1,p2⟩:=place_tot (k:=k) (by omega) _ (hA v v0 v1)
   obtain ⟨h,h1⟩:=hf P p2
   have hh:hitOf k f (el Z45 l v)=h:=by unfold hitOf; rw [p1]; show (f (P,())).getD (0,false)=h; rw [h1]; rfl
   have st:iadd .i64 v 1=v+1:=iadd_i64 (by omega) (by omega)
   have skip:h.2=false→(∀ a b,ray_first.c2 k a b h=some false):=by
    intro z a b
    unfold ray_first.c2
    rw [z,bF]
   cases hz:h.2 with
   | false =>
    refine ⟨s,?_,?_⟩
    ·rcases hI with ⟨a,b⟩ | ⟨a,b,c,d,g⟩
     ·refine Or.inl ⟨a,fun j j0 j1=>?_⟩
      by_cases e:j=v
      ·rw [e,hh,hz]
      ·exact b j j0 (by omega)
     ·refine Or.inr ⟨a,by omega,c,d,fun j j0 j1 j2=>?_⟩
      by_cases e:j=v
      ·rw [e,hh,hz] at j2; cases j2
      ·exact g j j0 (by omega) j2
    ·show ray_first.c1 k l f (n+1) s.1 s.2 v=_
     rw [ray_first.c1,ilt_pos v1,bT,rP (inL_of v0 v1),p1,bS,h1,bS,skip hz,bS,bF,st]
   | true =>
    rcases hI with ⟨a,b⟩ | ⟨a,b,c,d,g⟩
    ·refine ⟨(v,h.1),Or.inr ⟨v0,by show v<v+1; omega,by show h.1=_; rw [hh],by show (hitOf k f (el Z45 l v)).2=true; rw [hh,hz],fun j j0 j1 j2=>?_⟩,?_⟩
     ·by_cases e:j=v
      ·subst e; exact ⟨Int.le_refl _,fun x=>absurd x (by show ¬ j<j; omega)⟩
      ·rw [b j j0 (by omega)] at j2; cases j2
     ·show ray_first.c1 k l f (n+1) s.1 s.2 v=_
      have c2:ray_first.c2 k s.1 s.2 h=some true:=by
       unfold ray_first.c2
       rw [hz,bT,ilt_pos (by omega),bT]
      rw [ray_first.c1,ilt_pos v1,bT,rP (inL_of v0 v1),p1,bS,h1,bS,c2,bS,bT,st]
    ·by_cases lt:h.1<s.2
     ·refine ⟨(v,h.1),Or.inr ⟨v0,by show v<v+1; omega,by show h.1=_; rw [hh],by show (hitOf k f (el Z45 l v)).2=true; rw [hh,hz],fun j j0 j1 j2=>?_⟩,?_⟩
      ·show (hitOf k f (el Z45 l v)).1≤_∧(j<v→(hitOf k f (el Z45 l v)).1<_)
       rw [hh]
       by_cases e:j=v
       ·rw [e,hh]; exact ⟨Int.le_refl _,fun x=>by omega⟩
       ·have:=(g j j0 (by omega) j2).1
        exact ⟨by omega,fun _=>by omega⟩
      ·show ray_first.c1 k l f (n+1) s.1 s.2 v=_
       have c2:ray_first.c2 k s.1 s.2 h=some true:=by
        unfold ray_first.c2
        rw [hz,bT,ilt_neg (by omega),bF,ilt_pos lt]
       rw [ray_first.c1,ilt_pos v1,bT,rP (inL_of v0 v1),p1,bS,h1,bS,c2,bS,bT,st]
     ·refine ⟨s,Or.inr ⟨a,by omega,c,d,fun j j0 j1 j2=>?_⟩,?_⟩
      ·by_cases e:j=v
       ·rw [e,hh]; exact ⟨by omega,fun x=>by omega⟩
       ·exact g j j0 (by omega) j2
      ·show ray_first.c1 k l f (n+1) s.1 s.2 v=_
       have c2:ray_first.c2 k s.1 s.2 h=some false:=by
        unfold ray_first.c2
        rw [hz,bT,ilt_neg (by omega),bF,ilt_neg (by omega)]
       rw [ray_first.c1,ilt_pos v1,bT,rP (inL_of v0 v1),p1,bS,h1,bS,c2,bS,bF,st])
  (by
   intro n s v v0 v1
   show ray_first.c1 k l f (n+1) s.1 s.2 v=_
   rw [ray_first.c1,ilt_neg v1,bF])
  k (-1,0) 0 (by omega) (by unfold len; omega) (by omega) (Or.inl ⟨rfl,fun j j0 j1=>by omega⟩)
 have e:ray_first.c1 k l f k (-1) 0 0=some s:=e
 unfold ray_first
 rw [e,bS]
 rcases hI with ⟨a,b⟩ | ⟨a,b,c,d,g⟩
 ·rw [ilt_pos (by omega),bT]
  exact Or.inr ⟨b,rfl⟩
 ·rw [ilt_neg (by omega),bF]
  exact Or.inl ⟨s.1,a,b,⟨d,g⟩,by rw [c]⟩
theorem rwithin (k:Nat) {a:V26} (h:Wn a):ray_within k a=some true:=by
 obtain ⟨h1,h2,h3,h4⟩:=h
 unfold ray_within
 have i1:ige a.1 (-65536000)=true:=ige_pos (by omega)
 have i2:ile a.1 65536000=true:=decide_eq_true h2
 have i3:ige a.2.1 (-65536000)=true:=ige_pos (by omega)
 have i4:ile a.2.1 65536000=true:=decide_eq_true h4
 rw [i1,i2,i3,i4,bT,bT,bT]
theorem kcheck_okr {k:Nat} (hk':100<k) {l:List V45} (hA:AllK k l) (hl:len l≤64):keep_Check k l=some 0:=by
 have H:∀ (n:Nat) (i:Int),0≤i→len l - i<(n:Int)→0<n→keep_Check.c1 k l n i=some (.inr ()):=by
  intro n
  induction n with
  | zero=>intro i _ _ h; omega
  | succ n ih =>
   intro i i0 i1 _
   rw [keep_Check.c1]
   by_cases c:i<len l
   ·have hb:body_Check k (el Z45 l i)=some 0:=hA i i0 c
    rw [ilt_pos c,bT,rP (inL_of i0 c),hb,bS,ine_neg rfl,bF,iadd_i64 (by omega) (by omega)]
    exact ih (i+1) (by omega) (by omega) (by omega)
   ·rw [ilt_neg (by omega),bF]
 unfold keep_Check
 rw [igt_neg (by omega),bF,H k 0 (by omega) (by omega) (by omega),bS,two_inr]
theorem cast_ok {k:Nat} (hk:100<k) {l:List V45} (hA:AllK k l) (hl:len l≤64) {a b:V26} (ha:Wn a) (hb:Wn b) :
  (∃ i,0≤i∧i<len l∧FirstOf k (fun x=>ray_Cast_1 k x.1 a b) l i∧ray_Cast k l a b=some (i,(hitOf k (fun x=>ray_Cast_1 k x.1 a b) (el Z45 l i)).1,0)) ∨
   ((∀ j,0≤j→j<len l→(hitOf k (fun x=>ray_Cast_1 k x.1 a b) (el Z45 l j)).2=false)∧ray_Cast k l a b=some (0,0,4)):=by
 have c1:ray_Cast.c1 k a b=some false:=by
  unfold ray_Cast.c1
  rw [rwithin k ha,bS,bT,rwithin k hb,bS]
  rfl
 unfold ray_Cast
 rw [kcheck_okr hk hA hl,bS,ine_neg rfl,bF,c1,bS,bF]
 rcases first_ok hk hA hl (f:=fun x=>ray_Cast_1 k x.1 a b) (fun m hm=>rline_tot (by omega) hm.2.1 a b) with ⟨i,i0,i1,hF,e⟩ | ⟨h,e⟩
 ·rw [e,bS]
  exact Or.inl ⟨i,i0,i1,hF,rfl⟩
 ·rw [e,bS]
  exact Or.inr ⟨h,rfl⟩
end Go.Proofs.T1
