import Derived.Test.YthpbadopmihmpaaGreatPlLine
import Derived.Test.YthpbadopmihmpaaGreatPlNear
namespace Go.Proofs.T1
open Go Go.Sx
theorem Val_big {l:List V26} (h:Val l):Big1 l:=by
 refine ⟨h.1,by have:=h.2.1; omega,fun t t0 t1=>?_⟩
 have:=h.2.2.1 t t0 t1
 unfold Wn at this
 omega
def HitS (l:List V26) (a b:V26) (h:Int × Bool):Prop :=
 (∃ X w,h.2=true∧0<w∧0≤X∧X≤w∧Fea l a b X w∧(∀ Y v,0<v→0≤Y→Y≤v→Fea l a b Y v→X*v≤Y*w)∧(0≤h.1∧h.1≤65536∧h.1*w≤X*65536∧X*65536<(h.1+1)*w) ∧
   ((X=0∧w=1)∨∃ i,0≤i∧i<len l∧dn l b i<0∧X=-nu l a i∧w=-dn l b i)) ∨
  (h=(0,false)∧∀ Y v,0<v→0≤Y→Y≤v→¬ Fea l a b Y v)
theorem rline_hit {k:Nat} (hk:40≤k) {l:List V26} {a b:V26} (hl:Big1 l) (ha:Wn a) (hb:Wn b):∃ h,ray_line k l a b=some h∧HitS l a b h:=by
 rcases rline_spec hk hl ha hb with ⟨X,w,t,e,h1,h2,h3,h4,h5,h6,h7⟩ | ⟨e,h⟩
 ·exact ⟨(t,true),e,Or.inl ⟨X,w,rfl,h1,h2,h3,h4,h5,h6,h7⟩⟩
 ·exact ⟨(0,false),e,Or.inr ⟨rfl,h⟩⟩
theorem cast_hit {k:Nat} (hk:100<k) {a b:V26} (ha:Wn a) (hb:Wn b) (y:V45) (hy:OKb k y):∃ P,body_Place k y=some P∧Val P∧HitS P a b (hitOf k (fun x=>ray_Cast_1 k x.1 a b) y):=by
 obtain ⟨P,p1,p2⟩:=place_tot (k:=k) (by omega) y hy
 obtain ⟨h,e,hs⟩:=rline_hit (k:=k) (by omega) (Val_big p2) ha hb
 refine ⟨P,p1,p2,?_⟩
 have:hitOf k (fun x=>ray_Cast_1 k x.1 a b) y=h:=by
  unfold hitOf
  rw [p1]
  show (ray_Cast_1 k P a b).getD (0,false)=h
  unfold ray_Cast_1
  rw [e,bS]
  rfl
 rw [this]
 exact hs
theorem Dif_big {P p l:List V26} (hP:Val P) (hp:Val p) (D:Dif P p l):Big1 l:=by
 refine ⟨D.len3,?_,fun t t0 t1=>Dif_bd hP.2.2.1 hp.2.2.1 D t0 t1⟩
 have h1:=D.le
 have h2:=hP.2.1
 have h3:=hp.2.1
 omega
theorem shape1_tot {k:Nat} (hk:100<k) {p:List V26} (hp:Val p) {b:V26} (hb:Wn b) {P:List V26} (hP:Val P):∃ h l,ray_Shape_1 k P p b=some h∧Dif P p l∧HitS l zed b h:=by
 obtain ⟨l,e,D,_⟩:=Minus_dif (k:=k) (by omega) hP hp
 obtain ⟨h,e2,hs⟩:=rline_hit (k:=k) (by omega) (a:=zed) (b:=b) (Dif_big hP hp D) (by unfold Wn zed; decide) hb
 refine ⟨h,l,?_,D,hs⟩
 unfold ray_Shape_1
 rw [e,bS]
 have e2:ray_line k l (0,0,()) b=some h:=e2
 dsimp only
 rw [e2,bS]
theorem shape_hit {k:Nat} (hk:100<k) {p:List V26} (hp:Val p) {b:V26} (hb:Wn b) (y:V45) (hy:OKb k y):∃ P l,body_Place k y=some P∧Val P∧Dif P p l∧HitS l zed b (hitOf k (fun x=>ray_Shape_1 k x.1 p b) y):=by
 obtain ⟨P,p1,p2⟩:=place_tot (k:=k) (by omega) y hy
 obtain ⟨h,l,e,D,hs⟩:=shape1_tot hk hp hb p2
 refine ⟨P,l,p1,p2,D,?_⟩
 have:hitOf k (fun x=>ray_Shape_1 k x.1 p b) y=h:=by
  unfold hitOf
  rw [p1]
  show (ray_Shape_1 k P p b).getD (0,false)=h
  rw [e]
  rfl
 rw [this]
 exact hs
theorem shape_ok {k:Nat} (hk:100<k) {l:List V45} (hA:AllK k l) (hl:len l≤64) {p:List V26} (hp:Val p) {b:V26} (hb:Wn b) :
  (∃ i,0≤i∧i<len l∧FirstOf k (fun x=>ray_Shape_1 k x.1 p b) l i∧ray_Shape k l p b=some (i,(hitOf k (fun x=>ray_Shape_1 k x.1 p b) (el Z45 l i)).1,0)) ∨
   ((∀ j,0≤j→j<len l→(hitOf k (fun x=>ray_Shape_1 k x.1 p b) (el Z45 l j)).2=false)∧ray_Shape k l p b=some (0,0,4)):=by
 unfold ray_Shape
 rw [kcheck_okr hk hA hl,bS,ine_neg rfl,bF,Check_val (by omega) hp,bS,ine_neg rfl,bF,rwithin k hb,bS,bT]
 rcases first_ok hk hA hl (f:=fun x=>ray_Shape_1 k x.1 p b) (fun m hm=>by
  obtain ⟨h,_,e,_⟩:=shape1_tot hk hp hb hm
  exact ⟨h,e⟩) with ⟨i,i0,i1,hF,e⟩ | ⟨h,e⟩
 ·rw [e,bS]
  exact Or.inl ⟨i,i0,i1,hF,rfl⟩
 ·rw [e,bS]
  exact Or.inr ⟨h,rfl⟩
theorem hs_move (a b w:V26) (X Y W:Int):hs (a.1+w.1,a.2.1+w.2.1,()) (b.1+w.1,b.2.1+w.2.1,()) X Y W=hs a b (X - W*w.1) (Y - W*w.2.1) W:=by unfold hs; grind
end Go.Proofs.T1
