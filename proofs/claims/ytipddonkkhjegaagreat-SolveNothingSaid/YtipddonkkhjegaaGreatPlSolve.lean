import Derived.Test.YtipddonkkhjegaaGreatPlFind
import Derived.Test.YtipddonkkhjegaaGreatG13
namespace Go.Proofs.T1
open Go Go.Sx
section
variable {p v:V26} {ang spin mass inertia bounce rub:Int} {l:List V26} {asleep:Bool} {calm:Int}
theorem valid_parts {k:Nat} (hk:9≤k) (hc:body_Check k (p,v,ang,spin,mass,inertia,bounce,rub,l,asleep,calm,())=some 0) :
  Shp l 0∧(Val l∧AllR l∧FatP l)∧R1 p v ang spin∧R2 mass inertia bounce rub calm∧R3 v spin mass inertia asleep calm:=by
 obtain ⟨e,e1,h1⟩:=bodyCheck_gen hk (p:=p) (v:=v) (ang:=ang) (spin:=spin) (mass:=mass) (inertia:=inertia) (bounce:=bounce) (rub:=rub) (l:=l) (asleep:=asleep) (calm:=calm)
 rw [hc] at e1
 cases e1
 rcases h1 with ⟨_,h⟩ | ⟨_,_,h⟩ | ⟨_,_,_,_,h⟩ | ⟨h,g,g2,g3,_⟩
 ·exact absurd rfl h
 ·cases h
 ·cases h
 ·refine ⟨h,?_,g,g2,g3⟩
  rcases h with ⟨_,h⟩ | ⟨_,_,h⟩ | ⟨_,_,_,h⟩ | ⟨a,b,c,_,_⟩
  ·exact absurd rfl h
  ·cases h
  ·cases h
  ·exact ⟨a,b,c⟩
end
end Go.Proofs.T1
namespace Go.Proofs.T1
open Go Go.Sx
section
variable {p v:V26} {ang spin mass inertia bounce rub:Int} {l:List V26} {asleep:Bool} {calm:Int}
theorem own_room {k:Nat} (hl:l.length≤2000000):body_own k (p,v,ang,spin,mass,inertia,bounce,rub,l,asleep,calm,())=some (p,v,ang,spin,mass,inertia,bounce,rub,l,asleep,calm,()):=by
 unfold body_own slices_Clone_52
 dsimp only
 rw [rP (show room0 16 l by show (0+l.length)*16≤140737488355328; omega),bS]
end
section
variable {p v:V26} {ang spin mass inertia bounce rub:Int} {l:List V26} {asleep:Bool} {calm:Int}
theorem Push_out {K:Nat} (hl:l.length≤2000000) {x:Int} (hc:body_Check K (p,v,ang,spin,mass,inertia,bounce,rub,l,asleep,calm,())=some x) (h:x≠0∨mass=0∨asleep=true) (j r:V26) :
  body_Push K (p,v,ang,spin,mass,inertia,bounce,rub,l,asleep,calm,()) j r=some (p,v,ang,spin,mass,inertia,bounce,rub,l,asleep,calm,()):=by
 unfold body_Push
 rw [own_room hl,bS]
 have c1:body_Push.c1 K (p,v,ang,spin,mass,inertia,bounce,rub,l,asleep,calm,())=some true:=by
  unfold body_Push.c1
  rw [hc,bS]
  dsimp only
  by_cases a:x=0
  ·rw [ine_neg a,bF]
   by_cases b:mass=0
   ·rw [ieq_pos b,bT]
   ·rw [ieq_neg b,bF]
    rcases h with h | h | h
    ·exact absurd a h
    ·exact absurd h b
    ·rw [h]
  ·rw [ine_pos a,bT]
 rw [c1,bS,bT]
theorem Ease_out {K:Nat} {x:Int} (hc:body_Check K (p,v,ang,spin,mass,inertia,bounce,rub,l,asleep,calm,())=some x) (h:x≠0∨mass=0∨asleep=true) (j r:V26) :
  body_Ease K (p,v,ang,spin,mass,inertia,bounce,rub,l,asleep,calm,()) j r=some 0:=by
 unfold body_Ease
 have c1:body_Ease.c1 K (p,v,ang,spin,mass,inertia,bounce,rub,l,asleep,calm,())=some true:=by
  unfold body_Ease.c1
  rw [hc,bS]
  dsimp only
  by_cases a:x=0
  ·rw [ine_neg a,bF]
   by_cases b:mass=0
   ·rw [ieq_pos b,bT]
   ·rw [ieq_neg b,bF]
    rcases h with h | h | h
    ·exact absurd a h
    ·exact absurd h b
    ·rw [h]
  ·rw [ine_pos a,bT]
 rw [c1,bS,bT]
end
end Go.Proofs.T1
namespace Go.Proofs.T1
open Go Go.Sx
theorem sf_add (k:Nat) {a b:Int} (h:-1000000000000≤a∧a≤1000000000000) (g:-1000000000000≤b∧b≤1000000000000) (hs:-1000000000000≤a+b∧a+b≤1000000000000):fix_Add k a b=some (a+b):=by
 rw [FAdd_tot,CM_in (x:=a) (by omega) (by omega),CM_in (x:=b) (by omega) (by omega),CM_in (by omega) (by omega)]
theorem sf_sub (k:Nat) {a b:Int} (h:-1000000000000≤a∧a≤1000000000000) (g:-1000000000000≤b∧b≤1000000000000) (hs:-1000000000000≤a - b∧a - b≤1000000000000):fix_Sub k a b=some (a - b):=by
 rw [FSub_tot,CM_in (x:=a) (by omega) (by omega),CM_in (x:=b) (by omega) (by omega),CM_in (by omega) (by omega)]
theorem CM0:CM 0=0:=by decide
theorem sf_zero {k:Nat} (hk:2≤k) (a:Int):fix_Mul k a 0=some 0:=by
 rw [FMul_tot hk,CM0,Int.mul_zero]
 rfl
theorem sf_ov0 {k:Nat} (hk:2≤k) {n:Int} (n0:0<n) (n1:n≤1099511627776):body_over k 0 n=some 0:=by
 rw [FOver_tot hk 0 n0 n1,CM0,Int.zero_mul]
 have:rnd 0 n=0:=by
  unfold rnd
  exact Int.ediv_eq_zero_of_lt (by omega) (by omega)
 rw [this,CM0]
section
variable {v:V26} {ang spin mass inertia:Int} {l:List V26} {k:Nat}
end
section
variable {v:V26} {ang spin mass inertia:Int} {l s:List V26} {k:Nat}
end
end Go.Proofs.T1
namespace Go.Proofs.T1
open Go Go.Sx
theorem AllK_set {k:Nat} {l:List V57} (h:AllK k l) {i:Int} (i0:0≤i) (i1:i<len l) {b:V57} (hb:OKb k b):AllK k (st l i b):=by
 intro j j0 j1
 rw [len_set] at j1
 rw [el_set Z57 l b i0 i1 j0]
 by_cases c:j=i
 ·rw [if_pos c]; exact hb
 ·rw [if_neg c]; exact h j j0 j1
theorem CMnn {x:Int} (h:0≤x):0≤CM x∧CM x≤1099511627776:=by unfold CM; split <;> (try split) <;> omega
theorem rndnn {x n:Int} (hn:0<n) (h:0≤x):0≤rnd x n:=Int.ediv_nonneg (by omega) (by omega)
theorem nn_sq (x:Int):0≤x*x:=by
 rcases Int.le_total 0 x with h | h
 ·exact Int.mul_nonneg h h
 ·have:=Int.mul_nonneg (show 0≤-x by omega) (show 0≤-x by omega)
  rw [Int.neg_mul_neg] at this
  exact this
theorem over_nn {k:Nat} (hk:2≤k) {a n:Int} (ha:0≤a) (hn:0<n) (hn':n≤1099511627776):∃ q,body_over k a n=some q∧0≤q∧q≤1099511627776:=by
 have h:=CMnn (rndnn hn (Int.mul_nonneg (CMnn ha).1 (CMnn (show (0:Int)≤65536 by decide)).1))
 exact ⟨_,FOver_tot hk a hn hn',h.1,h.2⟩
theorem add_nn (k:Nat) {a b:Int} (ha:0≤a) (hb:0≤b):∃ q,fix_Add k a b=some q∧0≤q∧q≤1099511627776:=by
 have h:=CMnn (Int.add_nonneg (CMnn ha).1 (CMnn hb).1)
 exact ⟨_,FAdd_tot k a b,h.1,h.2⟩
theorem mul_nn {k:Nat} (hk:2≤k) {a b:Int} (ha:0≤a) (hb:0≤b):∃ r,fix_Mul k a b=some r∧0≤r∧r≤1099511627776:=by
 have h:=CMnn (rndnn (show (0:Int)<65536 by decide) (Int.mul_nonneg (CMnn ha).1 (CMnn hb).1))
 exact ⟨_,FMul_tot hk a b,h.1,h.2⟩
theorem vsub_tot (k:Nat) (a b:V26):∃ w,vec_Sub k a b=some w:=by
 unfold vec_Sub
 simp only [FSub_tot,bS]
 exact ⟨_,rfl⟩
theorem vscale_tot {k:Nat} (hk:2≤k) (a:V26) (n:Int):∃ w,vec_Scale k a n=some w:=by
 unfold vec_Scale
 simp only [FMul_tot hk,bS]
 exact ⟨_,rfl⟩
theorem vdot_tot {k:Nat} (hk:2≤k) (a b:V26):∃ w,vec_Dot k a b=some w:=by
 unfold vec_Dot
 simp only [FMul_tot hk,FAdd_tot,bS]
 exact ⟨_,rfl⟩
theorem vcross_tot {k:Nat} (hk:2≤k) (a b:V26):∃ w,vec_Cross k a b=some w:=by
 unfold vec_Cross
 simp only [FMul_tot hk,FSub_tot,bS]
 exact ⟨_,rfl⟩
theorem cl_bd (x:Int) {m:Int} (h:0≤m):-m≤(if x < -m then -m else if m<x then m else x)∧(if x < -m then -m else if m<x then m else x)≤m:=by
 split
 ·omega
 ·split <;> omega
section
variable {p v:V26} {ang spin mass inertia bounce rub:Int} {l:List V26} {asleep:Bool} {calm:Int}
end
theorem rub_bd {k:Nat} (hk:9≤k) (b:V57) (hc:OKb k b):0≤b.2.2.2.2.2.2.2.1∧b.2.2.2.2.2.2.2.1≤65536:=by
 obtain ⟨p,v,ang,spin,mass,inertia,bounce,rub,l,asleep,calm,_⟩:=b
 exact (valid_parts hk hc).2.2.2.1.2.2.2.1
theorem cor_bd {k:Nat} (hk:9≤k) (b:V57) (hc:OKb k b):b.2.2.2.2.2.2.2.2.1.length≤8:=by
 obtain ⟨p,v,ang,spin,mass,inertia,bounce,rub,l,asleep,calm,_⟩:=b
 have:=(valid_parts hk hc).2.1.1.2.1
 unfold len at this
 show l.length≤8
 omega
end Go.Proofs.T1
namespace Go.Proofs.T1
open Go Go.Sx
theorem sqm_nn {k:Nat} (hk:2≤k) (c:Int):∃ q,fix_Mul k c c=some q∧0≤q∧q≤1099511627776:=by
 have h:=CMnn (rndnn (show (0:Int)<65536 by decide) (nn_sq (CM c)))
 exact ⟨_,FMul_tot hk c c,h.1,h.2⟩
section
variable {p v:V26} {ang spin mass inertia bounce rub:Int} {l:List V26} {asleep:Bool} {calm:Int}
theorem Push_bd1 {K:Nat} (hk:2≤K) (hl:l.length≤2000000) (hc:body_Check K (p,v,ang,spin,mass,inertia,bounce,rub,l,asleep,calm,())=some 0) (m0:0<mass) (m1:mass≤1099511627776) (i0:0<inertia) (i1:inertia≤1099511627776) (ha:asleep=false) (j r:V26) :
  ∃ V W,body_Push K (p,v,ang,spin,mass,inertia,bounce,rub,l,asleep,calm,()) j r=some (p,V,ang,W,mass,inertia,bounce,rub,l,asleep,calm,()) ∧
   Bd V 268435456∧(-16777216≤W∧W≤16777216):=by
 unfold body_Push
 rw [own_room hl,bS,ha]
 have c1:body_Push.c1 K (p,v,ang,spin,mass,inertia,bounce,rub,l,false,calm,())=some false:=by
  unfold body_Push.c1
  rw [← ha,hc,bS]
  dsimp only
  rw [ine_neg rfl,bF,ieq_neg (by omega),bF,ha]
 rw [c1,bS,bF]
 unfold vec_Sub vec_Cross
 dsimp only
 simp only [clamp_tot K _ (show (0:Int)≤268435456 by decide) (show (268435456:Int)≤1099511627776 by decide),clamp_tot K _ (show (0:Int)≤16777216 by decide) (show (16777216:Int)≤1099511627776 by decide),
  FSub_tot,FMul_tot hk,FAdd_tot,FOver_tot hk _ m0 m1,FOver_tot hk _ i0 i1,FOver_tot hk _ (show (0:Int)<411775 by decide) (show (411775:Int)≤1099511627776 by decide),bS]
 exact ⟨_,_,rfl,⟨(cl_bd _ (by decide)).1,(cl_bd _ (by decide)).2,(cl_bd _ (by decide)).1,(cl_bd _ (by decide)).2⟩,cl_bd _ (by decide)⟩
theorem Ease_nn1 {K:Nat} (hk:2≤K) (hc:body_Check K (p,v,ang,spin,mass,inertia,bounce,rub,l,asleep,calm,())=some 0) (m0:0<mass) (m1:mass≤1099511627776) (i0:0<inertia) (i1:inertia≤1099511627776) (ha:asleep=false) (j r:V26) :
  ∃ s,body_Ease K (p,v,ang,spin,mass,inertia,bounce,rub,l,asleep,calm,()) j r=some s∧0≤s∧s≤1099511627776:=by
 unfold body_Ease
 rw [ha]
 have c1:body_Ease.c1 K (p,v,ang,spin,mass,inertia,bounce,rub,l,false,calm,())=some false:=by
  unfold body_Ease.c1
  rw [← ha,hc,bS]
  dsimp only
  rw [ine_neg rfl,bF,ieq_neg (by omega),bF,ha]
 rw [c1,bS,bF]
 dsimp only
 obtain ⟨w,hw⟩:=vsub_tot K j p
 obtain ⟨c,hcr⟩:=vcross_tot hk w r
 obtain ⟨q1,h1,g1,_⟩:=over_nn hk (show (0:Int)≤65536 by decide) m0 m1
 obtain ⟨q2,h2,g2,_⟩:=sqm_nn hk c
 obtain ⟨q3,h3,g3,_⟩:=over_nn hk g2 i0 i1
 obtain ⟨q4,h4,g4,g5⟩:=add_nn K g1 g3
 refine ⟨q4,?_,g4,g5⟩
 rw [hw,bS,hcr,bS,h1,bS,h2,bS,h3,bS,h4,bS]
theorem Push_none {K:Nat} (hk:2≤K) (hl:l.length≤2000000) (hc:body_Check K (p,v,ang,spin,mass,inertia,bounce,rub,l,asleep,calm,())=some 0) (hv:Bd v 268435456) (hs:-16777216≤spin∧spin≤16777216) (m0:0<mass) (m1:mass≤1099511627776) (i0:0<inertia) (i1:inertia≤1099511627776) (ha:asleep=false) (r:V26) :
  body_Push K (p,v,ang,spin,mass,inertia,bounce,rub,l,asleep,calm,()) (0,0,()) r=some (p,v,ang,spin,mass,inertia,bounce,rub,l,asleep,calm,()):=by
 obtain ⟨w,hw⟩:=vsub_tot K r p
 unfold Bd at hv
 have hcr:vec_Cross K w (0,0,())=some 0:=by
  unfold vec_Cross
  dsimp only
  rw [sf_zero hk,bS,sf_zero hk,bS,sf_sub K (a:=0) (b:=0) (by omega) (by omega) (by omega),bS]
  rfl
 unfold body_Push
 rw [own_room hl,bS]
 have c1:body_Push.c1 K (p,v,ang,spin,mass,inertia,bounce,rub,l,asleep,calm,())=some false:=by
  unfold body_Push.c1
  rw [hc,bS]
  dsimp only
  rw [ine_neg rfl,bF,ieq_neg (by omega),bF,ha]
 rw [c1,bS,bF]
 dsimp only
 rw [hw,bS,hcr,bS,sf_ov0 hk i0 i1,bS,sf_ov0 hk (show (0:Int)<411775 by decide) (by decide),bS,sf_ov0 hk m0 m1,bS,
  sf_add K (a:=v.1) (b:=0) (by omega) (by omega) (by omega),bS,Int.add_zero,clamp_in K (by omega) (by omega) (by decide),bS,bS,
  sf_add K (a:=v.2.1) (b:=0) (by omega) (by omega) (by omega),bS,Int.add_zero,clamp_in K (by omega) (by omega) (by decide),bS,
  sf_add K (a:=spin) (b:=0) (by omega) (by omega) (by omega),bS,Int.add_zero,clamp_in K (by omega) (by omega) (by decide),bS]
end
theorem push_one {k:Nat} (hk:9≤k) (b:V57) (hc:OKb k b) (j r:V26):∃ b',body_Push k b j r=some b'∧OKb k b':=by
 obtain ⟨p,v,ang,spin,mass,inertia,bounce,rub,l,asleep,calm,_⟩:=b
 obtain ⟨hS,⟨hv,_,_⟩,hR,h2,h3⟩:=valid_parts hk hc
 have hl:l.length≤2000000:=by have:=hv.2.1; unfold len at this; omega
 by_cases fr:mass=0∨asleep=true
 ·exact ⟨_,Push_out hl hc (Or.inr fr) j r,hc⟩
 ·have m1:0<mass:=by
   have:=h2.1.1
   have:mass≠0:=fun h=>fr (Or.inl h)
   omega
  have i1:0<inertia:=by
   have:=h2.2.1.1
   have:inertia≠0:=fun h=>absurd (h3.1.2 h) (by omega)
   omega
  have ha:asleep=false:=by
   cases asleep with
   | false=>rfl
   | true=>exact absurd (Or.inr rfl) fr
  obtain ⟨V,W,hp,bV,bW⟩:=Push_bd1 (K:=k) (by omega) hl hc m1 h2.1.2 i1 h2.2.1.2 ha j r
  refine ⟨_,hp,?_⟩
  obtain ⟨e,e1,h1⟩:=bodyCheck_gen hk (p:=p) (v:=V) (ang:=ang) (spin:=W) (mass:=mass) (inertia:=inertia) (bounce:=bounce) (rub:=rub) (l:=l) (asleep:=asleep) (calm:=calm)
  have hr3:R3 V W mass inertia asleep calm:=⟨h3.1,fun h=>absurd h (by omega),fun h=>absurd h (by rw [ha]; decide)⟩
  have:=Bc_uniq h1 (Or.inr (Or.inr (Or.inr ⟨hS,⟨hR.1,bV,bW,hR.2.2.2⟩,h2,hr3,rfl⟩)))
  show body_Check k _=some 0
  rw [e1,this]
theorem push_none {k:Nat} (hk:9≤k) (b:V57) (hc:OKb k b) (r:V26):body_Push k b (0,0,()) r=some b:=by
 obtain ⟨p,v,ang,spin,mass,inertia,bounce,rub,l,asleep,calm,_⟩:=b
 obtain ⟨hS,⟨hv,_,_⟩,hR,h2,h3⟩:=valid_parts hk hc
 have hl:l.length≤2000000:=by have:=hv.2.1; unfold len at this; omega
 by_cases fr:mass=0∨asleep=true
 ·exact Push_out hl hc (Or.inr fr) _ r
 ·have m1:0<mass:=by
   have:=h2.1.1
   have:mass≠0:=fun h=>fr (Or.inl h)
   omega
  have i1:0<inertia:=by
   have:=h2.2.1.1
   have:inertia≠0:=fun h=>absurd (h3.1.2 h) (by omega)
   omega
  have ha:asleep=false:=by
   cases asleep with
   | false=>rfl
   | true=>exact absurd (Or.inr rfl) fr
  exact Push_none (K:=k) (by omega) hl hc hR.2.1 hR.2.2.1 m1 h2.1.2 i1 h2.2.1.2 ha r
theorem ease_one {k:Nat} (hk:9≤k) (b:V57) (hc:OKb k b) (r n:V26):∃ s,body_Ease k b r n=some s∧0≤s∧s≤1099511627776:=by
 obtain ⟨p,v,ang,spin,mass,inertia,bounce,rub,l,asleep,calm,_⟩:=b
 obtain ⟨hS,⟨hv,_,_⟩,hR,h2,h3⟩:=valid_parts hk hc
 by_cases fr:mass=0∨asleep=true
 ·exact ⟨_,Ease_out hc (Or.inr fr) r n,by decide,by decide⟩
 ·have m1:0<mass:=by
   have:=h2.1.1
   have:mass≠0:=fun h=>fr (Or.inl h)
   omega
  have i1:0<inertia:=by
   have:=h2.2.1.1
   have:inertia≠0:=fun h=>absurd (h3.1.2 h) (by omega)
   omega
  have ha:asleep=false:=by
   cases asleep with
   | false=>rfl
   | true=>exact absurd (Or.inr rfl) fr
  exact Ease_nn1 (K:=k) (by omega) hc m1 h2.1.2 i1 h2.2.1.2 ha r n
theorem at_one {k:Nat} (hk:9≤k) (b:V57) (hc:OKb k b) (r:V26):∃ s,body_At k b r=some s:=by
 obtain ⟨p,v,ang,spin,mass,inertia,bounce,rub,l,asleep,calm,_⟩:=b
 have hc:body_Check k (p,v,ang,spin,mass,inertia,bounce,rub,l,asleep,calm,())=some 0:=hc
 unfold body_At
 rw [hc,bS,ine_neg rfl,bF]
 unfold vec_Sub
 dsimp only
 simp only [FSub_tot,FMul_tot (show 2≤k by omega),FAdd_tot,bS]
 exact ⟨_,rfl⟩
theorem speed_one {k:Nat} (hk:9≤k) {bs:List V57} (hb:AllK k bs) (x:V39) (cs:List V39) (rs:List V96) (A0:0≤x.1) (A1:x.1<len bs) (B0:0≤x.2.1) (B1:x.2.1<len bs) :
  ∃ s,solve_solver_speed_h_2 k x bs cs rs=some s:=by
 obtain ⟨s,s1⟩:=at_one hk _ (hb x.2.1 B0 B1) x.2.2.2.1
 obtain ⟨t,t1⟩:=at_one hk _ (hb x.1 A0 A1) x.2.2.2.1
 obtain ⟨w,hw⟩:=vsub_tot k s t
 refine ⟨w,?_⟩
 unfold solve_solver_speed_h_2
 rw [rP (inL_of B0 B1),s1,bS,rP (inL_of A0 A1),t1,bS,hw,bS]
theorem pushl_one {k:Nat} (hk:9≤k) {bs:List V57} (hb:AllK k bs) (x:V39) (j:V26) (cs:List V39) (rs:List V96) (A0:0≤x.1) (A1:x.1<len bs) (B0:0≤x.2.1) (B1:x.2.1<len bs) :
  ∃ bs',solve_solver_push k x j bs cs rs=some bs'∧AllK k bs'∧len bs'=len bs:=by
 obtain ⟨b1,p1,o1⟩:=push_one hk _ (hb x.1 A0 A1) ((ineg .i64 j.1),(ineg .i64 j.2.1),()) x.2.2.2.1
 have h1:=AllK_set hb A0 A1 o1
 have l1:len (st bs x.1 b1)=len bs:=len_set ..
 obtain ⟨b2,p2,o2⟩:=push_one hk _ (h1 x.2.1 B0 (by omega)) j x.2.2.2.1
 refine ⟨st (st bs x.1 b1) x.2.1 b2,?_,AllK_set h1 B0 (by omega) o2,by rw [len_set,l1]⟩
 unfold solve_solver_push
 rw [rP (inL_of A0 A1),p1,bS,rP (inL_of B0 (by omega)),p2,bS]
theorem st_self {α:Type} (z:α) (l:List α) {i:Int} (i0:0≤i) (i1:i<len l):st l i (el z l i)=l:=by
 obtain ⟨i,rfl⟩:=Int.eq_ofNat_of_zero_le i0
 have ll:len l=(l.length:Int):=rfl
 have hi:i<l.length:=by omega
 rw [el_get z l hi]
 show l.set i l[i]=l
 exact List.set_getElem_self hi
theorem pushl_none {k:Nat} (hk:9≤k) {bs:List V57} (hb:AllK k bs) (x:V39) (cs:List V39) (rs:List V96) (A0:0≤x.1) (A1:x.1<len bs) (B0:0≤x.2.1) (B1:x.2.1<len bs) :
  solve_solver_push k x (0,0,()) bs cs rs=some bs:=by
 have n0:ineg .i64 0=0:=rfl
 have e1:=st_self Z57 bs A0 A1
 have e2:=st_self Z57 bs B0 B1
 unfold solve_solver_push
 dsimp only
 rw [rP (inL_of A0 A1),n0,push_none hk _ (hb x.1 A0 A1),bS,e1,rP (inL_of B0 B1),push_none hk _ (hb x.2.1 B0 B1),bS,e2]
def RQ (l:List V57) (x:V39) (r:V96):Prop:=(0≤r.2.1∧r.2.1≤1099511627776)∧(0≤r.2.2.1∧r.2.2.1≤1099511627776)∧(0≤r.2.2.2.2.1∧r.2.2.2.2.1≤65536)∧r.2.2.2.2.1=imin (el Z57 l x.1).2.2.2.2.2.2.2.1 (el Z57 l x.2.1).2.2.2.2.2.2.2.1
theorem row_one {k:Nat} (hk:9≤k) {bs:List V57} (hb:AllK k bs) {x:V39} (hx:CVx (len bs) x) {step:Int} (s0:1≤step) (s1:step≤65536) (cs':List V39) (rs:List V96) :
  ∃ r,solve_solver_row_2 k x step bs cs' rs=some r∧RQ bs x r:=by
 obtain ⟨⟨A0,AB,B1,_⟩,_,⟨D0,D1⟩,_⟩:=hx
 have hA:=hb x.1 A0 (by omega)
 have hB:=hb x.2.1 (by omega) B1
 obtain ⟨y3,a1,a3,a4⟩:=ease_one hk _ hA x.2.2.2.1 x.2.2.2.2.1
 obtain ⟨y5,b1,b3,b4⟩:=ease_one hk _ hB x.2.2.2.1 x.2.2.2.2.1
 obtain ⟨y7,d1,d2,d3⟩:=add_nn k a3 b3
 obtain ⟨y9,f1,f3,f4⟩:=ease_one hk _ hA x.2.2.2.1 ((ineg .i64 x.2.2.2.2.1.2.1),x.2.2.2.2.1.1,())
 obtain ⟨y11,g1,g3,g4⟩:=ease_one hk _ hB x.2.2.2.1 ((ineg .i64 x.2.2.2.2.1.2.1),x.2.2.2.2.1.1,())
 obtain ⟨y13,i1,i2,i3⟩:=add_nn k f3 g3
 have os:∀ a n,solve_over k a n=body_over k a n:=fun _ _=>rfl
 obtain ⟨y15,m1⟩:∃ y,fix_Mul k (imax 0 (isub .i64 x.2.2.2.2.2.1 512)) 8192=some y:=⟨_,FMul_tot (by omega) _ _⟩
 obtain ⟨y17,q1⟩:∃ y,body_over k y15 step=some y:=⟨_,FOver_tot (by omega) _ (by omega) (by omega)⟩
 obtain ⟨s,t1⟩:=speed_one hk hb x cs' rs A0 (by omega) (by omega) B1
 obtain ⟨y21,t3⟩:=vdot_tot (k:=k) (by omega) s x.2.2.2.2.1
 have ra:=rub_bd hk _ hA
 have rb:=rub_bd hk _ hB
 have rm:0≤imin (el Z57 bs x.1).2.2.2.2.2.2.2.1 (el Z57 bs x.2.1).2.2.2.2.2.2.2.1∧imin (el Z57 bs x.1).2.2.2.2.2.2.2.1 (el Z57 bs x.2.1).2.2.2.2.2.2.2.1≤65536:=by
  unfold imin
  split <;> omega
 unfold solve_solver_row_2
 rw [rP (inL_of A0 (by omega)),rP (inL_of (by omega) B1),a1,bS,b1,bS,d1,bS,f1,bS,g1,bS,i1,bS,m1,bS,os,q1,bS,t1,bS,t3,bS]
 by_cases c:y21 < -32768
 ·obtain ⟨y24,h1⟩:∃ y,fix_Mul k (imax (el Z57 bs x.1).2.2.2.2.2.2.1 (el Z57 bs x.2.1).2.2.2.2.2.2.1) (ineg .i64 y21)=some y:=⟨_,FMul_tot (by omega) _ _⟩
  obtain ⟨y26,h2⟩:∃ y,fix_Add k y17 y24=some y:=⟨_,FAdd_tot k _ _⟩
  rw [ilt_pos c,bT,h1,bS,h2,bS]
  exact ⟨_,rfl,⟨d2,d3⟩,⟨i2,i3⟩,rm,rfl⟩
 ·rw [ilt_neg (by omega),bF]
  exact ⟨_,rfl,⟨d2,d3⟩,⟨i2,i3⟩,rm,rfl⟩
end Go.Proofs.T1
