import Derived.Test.YtolkdkhdkfndfaaPlAlone
import Derived.Test.YtolkdkhdkfndfaaPlGeo
namespace Go.Proofs.T1
open Go Go.Sx
def nu (l : List V27) (a : V27) (i : Int) : Int := tri (q l i) (q l (nx (len l) i)) a
def dn (l : List V27) (b : V27) (i : Int) : Int := ((q l (nx (len l) i)).2.1 - (q l i).2.1) * b.1 + ((q l i).1 - (q l (nx (len l) i)).1) * b.2.1
def Fea (l : List V27) (a b : V27) (X w : Int) : Prop := ∀ i,0 ≤ i → i < len l → X * dn l b i ≤ w * nu l a i
def Big1 (l : List V27) : Prop := 3 ≤ len l ∧ len l ≤ 16 ∧ ∀ t,0 ≤ t → t < len l → -131072000 ≤ (q l t).1 ∧ (q l t).1 ≤ 131072000 ∧ -131072000 ≤ (q l t).2.1 ∧ (q l t).2.1 ≤ 131072000
theorem nd_bd {l : List V27} {a b : V27} (hl : Big1 l) (ha : Wn a) (hb : Wn b) {i : Int} (i0 : 0 ≤ i) (i1 : i < len l) :
    (-1000000000000000000 ≤ nu l a i ∧ nu l a i ≤ 1000000000000000000) ∧ (-1000000000000000000 ≤ dn l b i ∧ dn l b i ≤ 1000000000000000000) := by
  obtain ⟨a1,a2,a3,a4⟩ := ha
  obtain ⟨c1,c2,c3,c4⟩ := hb
  have hn := nx_range i0 i1
  have b1 := hl.2.2 i i0 i1
  have b2 := hl.2.2 _ hn.1 hn.2
  unfold nu dn tri
  generalize q l i = p at *
  generalize q l (nx (len l) i) = r at *
  have p1 := mul_bd (x := r.1 - p.1) (y := a.2.1 - p.2.1) (M := 262144000) (N := 196608000) (by omega) (by omega) (by omega) (by omega)
  have p2 := mul_bd (x := r.2.1 - p.2.1) (y := a.1 - p.1) (M := 262144000) (N := 196608000) (by omega) (by omega) (by omega) (by omega)
  have p3 := mul_bd (x := r.2.1 - p.2.1) (y := b.1) (M := 262144000) (N := 65536000) (by omega) (by omega) (by omega) (by omega)
  have p4 := mul_bd (x := p.1 - r.1) (y := b.2.1) (M := 262144000) (N := 65536000) (by omega) (by omega) (by omega) (by omega)
  omega
theorem num_eq {l : List V27} {a : V27} (hl : Big1 l) (ha : Wn a) {v : Int} (v0 : 0 ≤ v) (v1 : v < len l) :
    iadd .i64 (imul .i64 (isub .i64 (el Z27 l (irem (iadd .i64 v 1) (len l))).2.1 (el Z27 l v).2.1) (isub .i64 (el Z27 l v).1 a.1)) (imul .i64 (isub .i64 (el Z27 l v).1 (el Z27 l (irem (iadd .i64 v 1) (len l))).1) (isub .i64 (el Z27 l v).2.1 a.2.1)) = nu l a v := by
  obtain ⟨a1,a2,a3,a4⟩ := ha
  have hn := nx_range v0 v1
  have b1 := hl.2.2 v v0 v1
  have b2 := hl.2.2 _ hn.1 hn.2
  rw [irem_nx v0 v1 (by have := hl.2.1; omega)]
  show iadd .i64 (imul .i64 (isub .i64 (q l (nx (len l) v)).2.1 (q l v).2.1) (isub .i64 (q l v).1 a.1)) (imul .i64 (isub .i64 (q l v).1 (q l (nx (len l) v)).1) (isub .i64 (q l v).2.1 a.2.1)) = _
  unfold nu tri
  generalize q l v = p at *
  generalize q l (nx (len l) v) = r at *
  have p1 := mul_bd (x := r.2.1 - p.2.1) (y := p.1 - a.1) (M := 262144000) (N := 196608000) (by omega) (by omega) (by omega) (by omega)
  have p2 := mul_bd (x := p.1 - r.1) (y := p.2.1 - a.2.1) (M := 262144000) (N := 196608000) (by omega) (by omega) (by omega) (by omega)
  rw [isub_i64 (x := r.2.1) (by omega) (by omega),isub_i64 (x := p.1) (y := a.1) (by omega) (by omega),isub_i64 (x := p.1) (y := r.1) (by omega) (by omega),isub_i64 (x := p.2.1) (by omega) (by omega),imul_i64 (by omega) (by omega),imul_i64 (by omega) (by omega),iadd_i64 (by omega) (by omega)]
  grind
theorem den_eq {l : List V27} {b : V27} (hl : Big1 l) (hb : Wn b) {v : Int} (v0 : 0 ≤ v) (v1 : v < len l) :
    iadd .i64 (imul .i64 (isub .i64 (el Z27 l (irem (iadd .i64 v 1) (len l))).2.1 (el Z27 l v).2.1) b.1) (imul .i64 (isub .i64 (el Z27 l v).1 (el Z27 l (irem (iadd .i64 v 1) (len l))).1) b.2.1) = dn l b v := by
  obtain ⟨a1,a2,a3,a4⟩ := hb
  have hn := nx_range v0 v1
  have b1 := hl.2.2 v v0 v1
  have b2 := hl.2.2 _ hn.1 hn.2
  rw [irem_nx v0 v1 (by have := hl.2.1; omega)]
  show iadd .i64 (imul .i64 (isub .i64 (q l (nx (len l) v)).2.1 (q l v).2.1) b.1) (imul .i64 (isub .i64 (q l v).1 (q l (nx (len l) v)).1) b.2.1) = _
  unfold dn
  generalize q l v = p at *
  generalize q l (nx (len l) v) = r at *
  have p1 := mul_bd (x := r.2.1 - p.2.1) (y := b.1) (M := 262144000) (N := 65536000) (by omega) (by omega) (by omega) (by omega)
  have p2 := mul_bd (x := p.1 - r.1) (y := b.2.1) (M := 262144000) (N := 65536000) (by omega) (by omega) (by omega) (by omega)
  rw [isub_i64 (x := r.2.1) (by omega) (by omega),isub_i64 (x := p.1) (y := r.1) (by omega) (by omega),imul_i64 (by omega) (by omega),imul_i64 (by omega) (by omega),iadd_i64 (by omega) (by omega)]
theorem fr_trans {a b c d e f : Int} (hb : 0 ≤ b) (hd : 0 < d) (hf : 0 ≤ f) (h1 : a * d ≤ c * b) (h2 : c * f ≤ e * d) : a * f ≤ e * b := by
  have p1 := Int.mul_le_mul_of_nonneg_right h1 hf
  have p2 := Int.mul_le_mul_of_nonneg_right h2 hb
  have e1 : a * d * f = a * f * d := by grind
  have e2 : c * b * f = c * f * b := by grind
  have e3 : e * d * b = e * b * d := by grind
  refine Int.le_of_mul_le_mul_right ?_ hd
  omega
theorem cmp_ilt (x y : Int) : ilt (cmpI x y) 0 = decide (x < y) := by
  unfold cmpI
  by_cases h : x < y
  · rw [if_pos h,decide_eq_true h]; rfl
  · rw [if_neg h,decide_eq_false h]
    split <;> rfl
theorem cmp_igt (x y : Int) : igt (cmpI x y) 0 = decide (y < x) := by
  unfold cmpI
  by_cases h : x < y
  · rw [if_pos h,decide_eq_false (by omega)]; rfl
  · rw [if_neg h]
    by_cases g : x = y
    · rw [if_pos g,decide_eq_false (by omega)]; rfl
    · rw [if_neg g,decide_eq_true (by omega)]; rfl
theorem cmp_ile (x y : Int) : ile (cmpI x y) 0 = decide (x ≤ y) := by
  unfold cmpI
  by_cases h : x < y
  · rw [if_pos h,decide_eq_true (by omega)]; rfl
  · rw [if_neg h]
    by_cases g : x = y
    · rw [if_pos g,decide_eq_true (by omega)]; rfl
    · rw [if_neg g,decide_eq_false (by omega)]; rfl
structure RI (l : List V27) (a b : V27) (v e1 e2 f1 f2 : Int) : Prop where
  e0 : 0 ≤ e1
  ep : 0 < e2
  eo : (e1 = 0 ∧ e2 = 1) ∨ ∃ i,0 ≤ i ∧ i < len l ∧ dn l b i < 0 ∧ e1 = -nu l a i ∧ e2 = -dn l b i
  fp : 0 < f2
  fl : f1 ≤ f2
  fo : (f1 = 1 ∧ f2 = 1) ∨ ∃ i,0 ≤ i ∧ i < len l ∧ 0 < dn l b i ∧ f1 = nu l a i ∧ f2 = dn l b i
  lo : ∀ i,0 ≤ i → i < v → dn l b i < 0 → -nu l a i * e2 ≤ e1 * -dn l b i
  hi : ∀ i,0 ≤ i → i < v → 0 < dn l b i → f1 * dn l b i ≤ nu l a i * f2
  ze : ∀ i,0 ≤ i → i < v → dn l b i = 0 → 0 ≤ nu l a i
theorem RI_bd {l : List V27} {a b : V27} {v e1 e2 f1 f2 : Int} (hl : Big1 l) (ha : Wn a) (hb : Wn b) (h : RI l a b v e1 e2 f1 f2) : I64 e1 ∧ I64 e2 ∧ I64 f1 ∧ I64 f2 := by
  have k1 : I64 e1 ∧ I64 e2 := by
    rcases h.eo with ⟨x,y⟩ | ⟨i,i0,i1,_,x,y⟩
    · rw [x,y]; exact ⟨⟨by decide,by decide⟩,⟨by decide,by decide⟩⟩
    · have := nd_bd hl ha hb i0 i1
      unfold I64
      omega
  have k2 : I64 f1 ∧ I64 f2 := by
    rcases h.fo with ⟨x,y⟩ | ⟨i,i0,i1,_,x,y⟩
    · rw [x,y]; exact ⟨⟨by decide,by decide⟩,⟨by decide,by decide⟩⟩
    · have := nd_bd hl ha hb i0 i1
      unfold I64
      omega
  exact ⟨k1.1,k1.2,k2.1,k2.2⟩
theorem rline_loop (k : Nat) {l : List V27} {a b : V27} (hl : Big1 l) (ha : Wn a) (hb : Wn b) : ∀ (n : Nat) (v e1 e2 f1 f2 : Int),0 ≤ v → v ≤ len l → len l - v < (n : Int) → RI l a b v e1 e2 f1 f2 →
    (ray_line.c1 k l a b n v e1 e2 f1 f2 = some (.inl ()) ∧ ∃ i,0 ≤ i ∧ i < len l ∧ dn l b i = 0 ∧ nu l a i < 0) ∨
      ∃ e1' e2' f1' f2',ray_line.c1 k l a b n v e1 e2 f1 f2 = some (.inr (e1',e2',f1',f2')) ∧ RI l a b (len l) e1' e2' f1' f2' := by
  intro n
  induction n with
  | zero => intro v e1 e2 f1 f2 _ _ h; omega
  | succ n ih =>
    intro v e1 e2 f1 f2 v0 vl v1 R
    rw [ray_line.c1]
    by_cases c : v < len l
    · have h16 := hl.2.1
      have hn := nx_range v0 c
      have hr : irem (iadd .i64 v 1) (len l) = nx (len l) v := irem_nx v0 c (by omega)
      have st : iadd .i64 v 1 = v + 1 := iadd_i64 (by omega) (by omega)
      have bd := nd_bd hl ha hb v0 c
      obtain ⟨j1,j2,j3,j4⟩ := RI_bd hl ha hb R
      have iN : I64 (nu l a v) := by unfold I64; omega
      have iD : I64 (dn l b v) := by unfold I64; omega
      have iN' : I64 (-nu l a v) := by unfold I64; omega
      have iD' : I64 (-dn l b v) := by unfold I64; omega
      have nN : ineg .i64 (nu l a v) = -nu l a v := by unfold ineg; rw [wrap_i64 (by omega) (by omega)]; omega
      have nD : ineg .i64 (dn l b v) = -dn l b v := by unfold ineg; rw [wrap_i64 (by omega) (by omega)]; omega
      have t2 : ray_line.c2 k l a b v = some (decide (dn l b v = 0 ∧ nu l a v < 0)) := by
        unfold ray_line.c2
        rw [num_eq hl ha v0 c,den_eq hl hb v0 c]
        by_cases z : dn l b v = 0
        · rw [ieq_pos z,bif_true]
          unfold ilt
          congr 1
          rw [decide_eq_decide]
          exact ⟨fun h => ⟨z,h⟩,fun h => h.2⟩
        · rw [ieq_neg z,bif_false,decide_eq_false (fun h => z h.1)]
      have t3 : ray_line.c3 k l a b v f1 f2 = some (decide (0 < dn l b v ∧ nu l a v * f2 < f1 * dn l b v)) := by
        unfold ray_line.c3
        rw [num_eq hl ha v0 c,den_eq hl hb v0 c,pcmp_eq k (a := (nu l a v,dn l b v,())) (b := (f1,f2,())) iN iD j3 j4,bnd_some,cmp_ilt]
        by_cases z : 0 < dn l b v
        · rw [igt_pos z,bif_true]
          congr 1
          rw [decide_eq_decide]
          exact ⟨fun h => ⟨z,h⟩,fun h => h.2⟩
        · rw [igt_neg (by omega),bif_false,decide_eq_false (fun h => z h.1)]
      have t4 : ray_line.c4 k l a b v e1 e2 = some (decide (dn l b v < 0 ∧ e1 * -dn l b v < -nu l a v * e2)) := by
        unfold ray_line.c4
        rw [num_eq hl ha v0 c,den_eq hl hb v0 c,nN,nD,pcmp_eq k (a := (-nu l a v,-dn l b v,())) (b := (e1,e2,())) iN' iD' j1 j2,bnd_some,cmp_igt]
        by_cases z : dn l b v < 0
        · rw [ilt_pos z,bif_true]
          congr 1
          rw [decide_eq_decide]
          exact ⟨fun h => ⟨z,h⟩,fun h => h.2⟩
        · rw [ilt_neg (by omega),bif_false,decide_eq_false (fun h => z h.1)]
      rw [ilt_pos c,bif_true,req_pos (inL_of v0 c),req_pos (show nz (len l) by unfold nz; omega),req_pos (show inL (irem (iadd .i64 v 1) (len l)) l by rw [hr]; exact inL_of hn.1 hn.2),t2,bnd_some,t3,bnd_some,t4,bnd_some,num_eq hl ha v0 c,den_eq hl hb v0 c,nN,nD,st]
      by_cases A : dn l b v = 0 ∧ nu l a v < 0
      · rw [decide_eq_true A,bif_true]
        exact Or.inl ⟨rfl,v,v0,c,A⟩
      · rw [decide_eq_false A,bif_false]
        by_cases B : 0 < dn l b v ∧ nu l a v * f2 < f1 * dn l b v
        · rw [decide_eq_true B,bif_true]
          obtain ⟨B1,B2⟩ := B
          refine ih (v + 1) e1 e2 _ _ (by omega) (by omega) (by omega) ⟨R.e0,R.ep,R.eo,B1,?_,Or.inr ⟨v,v0,c,B1,rfl,rfl⟩,fun i i0 i1 d => ?_,fun i i0 i1 d => ?_,fun i i0 i1 d => ?_⟩
          · have h1 := Int.mul_le_mul_of_nonneg_right R.fl (Int.le_of_lt B1)
            have h2 : nu l a v * f2 < dn l b v * f2 := by rw [Int.mul_comm (dn l b v)]; omega
            exact Int.le_of_lt (Int.lt_of_mul_lt_mul_right h2 (Int.le_of_lt R.fp))
          · by_cases g : i = v
            · subst g; omega
            · exact R.lo i i0 (by omega) d
          · by_cases g : i = v
            · subst g; exact Int.le_refl _
            · exact fr_trans (Int.le_of_lt B1) R.fp (Int.le_of_lt d) (Int.le_of_lt B2) (R.hi i i0 (by omega) d)
          · by_cases g : i = v
            · subst g; omega
            · exact R.ze i i0 (by omega) d
        · rw [decide_eq_false B,bif_false]
          by_cases C : dn l b v < 0 ∧ e1 * -dn l b v < -nu l a v * e2
          · rw [decide_eq_true C,bif_true]
            obtain ⟨C1,C2⟩ := C
            have pos : 0 ≤ -nu l a v := by
              have h1 := Int.mul_nonneg R.e0 (show 0 ≤ -dn l b v by omega)
              have h2 : 0 * e2 < -nu l a v * e2 := by rw [Int.zero_mul]; omega
              exact Int.le_of_lt (Int.lt_of_mul_lt_mul_right h2 (Int.le_of_lt R.ep))
            refine ih (v + 1) _ _ f1 f2 (by omega) (by omega) (by omega) ⟨pos,by omega,Or.inr ⟨v,v0,c,C1,rfl,rfl⟩,R.fp,R.fl,R.fo,fun i i0 i1 d => ?_,fun i i0 i1 d => ?_,fun i i0 i1 d => ?_⟩
            · by_cases g : i = v
              · subst g; exact Int.le_refl _
              · exact fr_trans (by omega) R.ep (by omega) (R.lo i i0 (by omega) d) (Int.le_of_lt C2)
            · by_cases g : i = v
              · subst g; omega
              · exact R.hi i i0 (by omega) d
            · by_cases g : i = v
              · subst g; omega
              · exact R.ze i i0 (by omega) d
          · rw [decide_eq_false C,bif_false]
            refine ih (v + 1) e1 e2 f1 f2 (by omega) (by omega) (by omega) ⟨R.e0,R.ep,R.eo,R.fp,R.fl,R.fo,fun i i0 i1 d => ?_,fun i i0 i1 d => ?_,fun i i0 i1 d => ?_⟩
            · by_cases g : i = v
              · subst g
                by_cases w : e1 * -dn l b i < -nu l a i * e2
                · exact absurd ⟨d,w⟩ C
                · omega
              · exact R.lo i i0 (by omega) d
            · by_cases g : i = v
              · subst g
                by_cases w : nu l a i * f2 < f1 * dn l b i
                · exact absurd ⟨d,w⟩ B
                · omega
              · exact R.hi i i0 (by omega) d
            · by_cases g : i = v
              · subst g
                by_cases w : nu l a i < 0
                · exact absurd ⟨d,w⟩ A
                · omega
              · exact R.ze i i0 (by omega) d
    · have : v = len l := by omega
      subst this
      rw [ilt_neg (by omega),bif_false]
      exact Or.inr ⟨e1,e2,f1,f2,rfl,R⟩
theorem pfloor_loop (k : Nat) {X w : Int} (h1 : I64 X) (h2 : I64 w) : ∀ (m f : Nat) (v1 v2 : Int),m < f → 0 ≤ v1 → v1 < v2 → v2 ≤ 65537 → v2 - v1 ≤ 2 ^ m → v1 * w ≤ X * 65536 → X * 65536 < v2 * w →
    ∃ t,ray_part_floor.c1 k (X,w,()) f v1 v2 = some t ∧ 0 ≤ t ∧ t ≤ 65536 ∧ t * w ≤ X * 65536 ∧ X * 65536 < (t + 1) * w := by
  intro m
  induction m with
  | zero =>
    intro f v1 v2 hf a1 b c g p1 p2
    obtain ⟨f,rfl⟩ : ∃ j,f = j + 1 := ⟨f - 1,by omega⟩
    have : v2 = v1 + 1 := by simp at g; omega
    subst this
    rw [ray_part_floor.c1,isub_i64 (by omega) (by omega),igt_neg (by omega),bif_false]
    exact ⟨_,rfl,a1,by omega,p1,p2⟩
  | succ m ih =>
    intro f v1 v2 hf a1 b c g p1 p2
    obtain ⟨f,rfl⟩ : ∃ j,f = j + 1 := ⟨f - 1,by omega⟩
    rw [ray_part_floor.c1,isub_i64 (by omega) (by omega)]
    by_cases h : v2 - v1 > 1
    · have e2 : (2 : Int) ^ (m + 1) = 2 * 2 ^ m := by rw [Int.pow_succ]; omega
      rw [e2] at g
      obtain ⟨x,e1,o1,w1⟩ := Times_eq k (a := (v1 + v2) / 2) (b := w) (by omega) (by omega) h2.1 h2.2
      obtain ⟨y,e3,o2,w2⟩ := Times_eq k (a := X) (b := 65536) h1.1 h1.2 (by decide) (by decide)
      rw [igt_pos h,bif_true,iadd_i64 (by omega) (by omega),iquo_i64 (by omega) (by omega) (by decide)]
      dsimp only
      rw [e1,bnd_some,e3,bnd_some,WCmp_eq k o1 o2,bnd_some,cmp_ile,w1,w2]
      by_cases z : (v1 + v2) / 2 * w ≤ X * 65536
      · rw [decide_eq_true z,bif_true]
        exact ih f _ _ (by omega) (by omega) (by omega) c (by omega) z p2
      · rw [decide_eq_false z,bif_false]
        exact ih f _ _ (by omega) a1 (by omega) (by omega) (by omega) p1 (by omega)
    · rw [igt_neg (by omega),bif_false]
      have : v2 = v1 + 1 := by omega
      subst this
      exact ⟨_,rfl,a1,by omega,p1,p2⟩
theorem rline_spec {k : Nat} (hk : 40 ≤ k) {l : List V27} {a b : V27} (hl : Big1 l) (ha : Wn a) (hb : Wn b) :
    (∃ X w t,ray_line k l a b = some (t,true) ∧ 0 < w ∧ 0 ≤ X ∧ X ≤ w ∧ Fea l a b X w ∧ (∀ Y v,0 < v → 0 ≤ Y → Y ≤ v → Fea l a b Y v → X * v ≤ Y * w) ∧ (0 ≤ t ∧ t ≤ 65536 ∧ t * w ≤ X * 65536 ∧ X * 65536 < (t + 1) * w) ∧
      ((X = 0 ∧ w = 1) ∨ ∃ i,0 ≤ i ∧ i < len l ∧ dn l b i < 0 ∧ X = -nu l a i ∧ w = -dn l b i)) ∨
    (ray_line k l a b = some (0,false) ∧ ∀ Y v,0 < v → 0 ≤ Y → Y ≤ v → ¬ Fea l a b Y v) := by
  have h16 := hl.2.1
  have R0 : RI l a b 0 0 1 1 1 := ⟨by decide,by decide,Or.inl ⟨rfl,rfl⟩,by decide,by decide,Or.inl ⟨rfl,rfl⟩,fun i i0 i1 => by omega,fun i i0 i1 => by omega,fun i i0 i1 => by omega⟩
  unfold ray_line
  rcases rline_loop k hl ha hb k 0 0 1 1 1 (by decide) (by have := hl.1; omega) (by omega) R0 with ⟨e,i,i0,i1,d0,n0⟩ | ⟨e1,e2,f1,f2,e,R⟩
  · rw [e,bnd_some,two_inl]
    refine Or.inr ⟨rfl,fun Y v v0 _ _ h => ?_⟩
    have h1 := h i i0 i1
    rw [d0,Int.mul_zero] at h1
    have h2 := Int.mul_pos v0 (show 0 < -nu l a i by omega)
    rw [Int.mul_neg] at h2
    omega
  · obtain ⟨j1,j2,j3,j4⟩ := RI_bd hl ha hb R
    have low : ∀ Y v,0 < v → 0 ≤ Y → Fea l a b Y v → e1 * v ≤ Y * e2 := by
      intro Y v v0 y0 h
      rcases R.eo with ⟨x,y⟩ | ⟨i,i0,i1,d,x,y⟩
      · rw [x,y]; omega
      · have h1 := h i i0 i1
        rw [x,y,Int.mul_neg,Int.neg_mul,Int.mul_comm (nu l a i)]
        omega
    have high : ∀ Y v,0 < v → Y ≤ v → Fea l a b Y v → Y * f2 ≤ f1 * v := by
      intro Y v v0 y0 h
      rcases R.fo with ⟨x,y⟩ | ⟨i,i0,i1,d,x,y⟩
      · rw [x,y]; omega
      · have h1 := h i i0 i1
        rw [x,y,Int.mul_comm (nu l a i)]
        omega
    rw [e,bnd_some,two_inr]
    dsimp only
    rw [pcmp_eq k (a := (e1,e2,())) (b := (f1,f2,())) j1 j2 j3 j4,bnd_some,cmp_igt]
    dsimp only
    by_cases z : f1 * e2 < e1 * f2
    · rw [decide_eq_true z,bif_true]
      refine Or.inr ⟨rfl,fun Y v v0 y0 y1 h => ?_⟩
      have h1 := low Y v v0 y0 h
      have h2 := high Y v v0 y1 h
      have := fr_trans (Int.le_of_lt R.ep) v0 (Int.le_of_lt R.fp) h1 h2
      omega
    · rw [decide_eq_false z,bif_false]
      have z : e1 * f2 ≤ f1 * e2 := by omega
      have le1 : e1 ≤ e2 := by
        have h1 := Int.mul_le_mul_of_nonneg_right R.fl (Int.le_of_lt R.ep)
        have h2 : e1 * f2 ≤ e2 * f2 := by rw [Int.mul_comm e2]; omega
        exact Int.le_of_mul_le_mul_right h2 R.fp
      obtain ⟨t,t1,t2,t3,t4,t5⟩ := pfloor_loop k j1 j2 17 k 0 65537 (by omega) (by decide) (by decide) (by decide) (by decide) (by rw [Int.zero_mul]; exact Int.mul_nonneg R.e0 (by decide)) (by have := R.ep; omega)
      refine Or.inl ⟨e1,e2,t,?_,R.ep,R.e0,le1,fun i i0 i1 => ?_,fun Y v v0 y0 y1 h => low Y v v0 y0 h,⟨t2,t3,t4,t5⟩,R.eo⟩
      · unfold ray_part_floor
        rw [t1,bnd_some,bnd_some]
      · by_cases d : dn l b i < 0
        · have := R.lo i i0 i1 d
          rw [Int.mul_neg,Int.neg_mul,Int.mul_comm (nu l a i)] at this
          omega
        · by_cases d2 : dn l b i = 0
          · have := Int.mul_nonneg (Int.le_of_lt R.ep) (R.ze i i0 i1 d2)
            rw [d2,Int.mul_zero]
            exact this
          · have h1 := R.hi i i0 i1 (by omega)
            have := fr_trans (Int.le_of_lt R.ep) R.fp (show 0 ≤ dn l b i by omega) z h1
            rw [Int.mul_comm e2]
            exact this
end Go.Proofs.T1
namespace Go.Proofs.T1
open Go Go.Sx
def Bt (x y t : Int) : Prop := (x ≤ t ∧ t ≤ y) ∨ (y ≤ t ∧ t ≤ x)
theorem bt_iff {x y t : Int} : (imin x y ≤ t ∧ t ≤ imax x y) ↔ Bt x y t := by
  unfold Bt imin imax
  constructor
  · intro h
    split at h <;> split at h <;> omega
  · intro h
    split <;> split <;> omega
theorem bt_share {m t n d : Int} (hm : 0 < m) (e : m * t = n * d) (h : Bt 0 d t) (hd : ¬ d = 0) : 0 ≤ n ∧ n ≤ m := by
  rcases h with ⟨h1,h2⟩ | ⟨h1,h2⟩
  · have d0 : 0 < d := by omega
    have p1 := Int.mul_nonneg (Int.le_of_lt hm) h1
    have p2 := Int.mul_le_mul_of_nonneg_left h2 (Int.le_of_lt hm)
    refine ⟨nn_of_mul d0 (by rw [Int.mul_comm]; omega),Int.le_of_mul_le_mul_right (a := d) (by omega) d0⟩
  · have d0 : 0 < -d := by omega
    have p1 := Int.mul_nonneg (Int.le_of_lt hm) (show 0 ≤ -t by omega)
    have p2 := Int.mul_le_mul_of_nonneg_left (show -t ≤ -d by omega) (Int.le_of_lt hm)
    rw [Int.mul_neg] at p1
    rw [Int.mul_neg,Int.mul_neg] at p2
    refine ⟨nn_of_mul d0 (by rw [Int.mul_comm,Int.mul_neg]; omega),Int.le_of_mul_le_mul_right (a := -d) (by rw [Int.mul_neg,Int.mul_neg]; omega) d0⟩
theorem bt_mean {α β x y c : Int} (ha : 0 ≤ α) (hb : 0 ≤ β) (hs : 0 < α + β) (e : α * x + β * y = (α + β) * c) : Bt x y c := by
  have e2 : α * (x - c) + β * (y - c) = 0 := by grind
  by_cases h1 : x ≤ c
  · by_cases h2 : y ≤ c
    · by_cases h3 : x = c
      · unfold Bt; omega
      · by_cases h4 : y = c
        · unfold Bt; omega
        · exfalso
          have p1 := Int.mul_le_mul_of_nonneg_left (show x - c ≤ -1 by omega) ha
          have p2 := Int.mul_le_mul_of_nonneg_left (show y - c ≤ -1 by omega) hb
          omega
    · unfold Bt; omega
  · by_cases h2 : y ≤ c
    · unfold Bt; omega
    · exfalso
      have p1 := Int.mul_le_mul_of_nonneg_left (show 1 ≤ x - c by omega) ha
      have p2 := Int.mul_le_mul_of_nonneg_left (show 1 ≤ y - c by omega) hb
      omega
theorem bt_sides {v s t A B β c C : Int} (hv : 0 < v) (e1 : v * (s - c) = (A - C) * β) (e2 : v * (t - c) = (B - C) * β) (hb : ¬ β = 0) (h : Bt s t c) : (C ≤ A ∨ C ≤ B) ∧ (A ≤ C ∨ B ≤ C) := by
  have key : ∀ {x y S : Int},v * x = S * y → 0 < y → (0 ≤ x → 0 ≤ S) ∧ (x ≤ 0 → S ≤ 0) := by
    intro x y S e hy
    refine ⟨fun hx => ?_,fun hx => ?_⟩
    · have := Int.mul_nonneg (Int.le_of_lt hv) hx
      exact nn_of_mul hy (by rw [Int.mul_comm]; omega)
    · have := Int.mul_nonneg (Int.le_of_lt hv) (show 0 ≤ -x by omega)
      rw [Int.mul_neg] at this
      have := nn_of_mul (a := -S) hy (by rw [Int.mul_neg,Int.mul_comm]; omega)
      omega
  by_cases b0 : 0 < β
  · have k1 := key e1 b0
    have k2 := key e2 b0
    unfold Bt at h
    omega
  · have b1 : 0 < -β := by omega
    have k1 := key (x := s - c) (y := -β) (S := -(A - C)) (by rw [Int.neg_mul_neg]; exact e1) b1
    have k2 := key (x := t - c) (y := -β) (S := -(B - C)) (by rw [Int.neg_mul_neg]; exact e2) b1
    unfold Bt at h
    omega
def SegC (N D s0 s1 ux uy zx zy bx bw : Int) : Prop :=
  (Opp N (N - D) ∧ Opp s0 s1) ∨ (N = 0 ∧ Bt ux zx 0 ∧ Bt uy zy 0) ∨ (N = D ∧ Bt ux zx bx ∧ Bt uy zy bw) ∨ (s0 = 0 ∧ Bt 0 bx ux ∧ Bt 0 bw uy) ∨ (s1 = 0 ∧ Bt 0 bx zx ∧ Bt 0 bw zy)
theorem bt_sub {x y t c : Int} (h : Bt x y t) : Bt 0 (y - x) (t - x) := by unfold Bt at *; omega
theorem crs_pos {N D s0 s1 ux uy zx zy bx bw : Int} (hN : N = ux * zy - uy * zx) (hD : D = bx * (zy - uy) - bw * (zx - ux)) (h0 : s0 = bx * uy - bw * ux) (h1 : s1 = bx * zy - bw * zx) (pos : 0 < D) (h : SegC N D s0 s1 ux uy zx zy bx bw) :
    0 ≤ N ∧ N ≤ D ∧ 0 ≤ s1 ∧ s0 ≤ 0 := by
  have i0 : D = s1 - s0 := by rw [hD,h0,h1]; grind
  have i1 : N * bx = s1 * ux - s0 * zx := by rw [hN,h0,h1]; grind
  have i2 : N * bw = s1 * uy - s0 * zy := by rw [hN,h0,h1]; grind
  have dne : ¬ (zx - ux = 0 ∧ zy - uy = 0) := by
    intro ⟨x,y⟩
    rw [x,y,Int.mul_zero,Int.mul_zero] at hD
    omega
  have bne : ¬ (bx = 0 ∧ bw = 0) := by
    intro ⟨x,y⟩
    rw [x,y,Int.zero_mul,Int.zero_mul] at hD
    omega
  rcases h with ⟨c1,c2⟩ | ⟨c,cx,cy⟩ | ⟨c,cx,cy⟩ | ⟨c,cx,cy⟩ | ⟨c,cx,cy⟩
  · unfold Opp at c1 c2
    omega
  · rw [c,Int.zero_mul] at i1 i2
    have r : 0 ≤ -s0 ∧ -s0 ≤ D := by
      by_cases z : zx - ux = 0
      · refine bt_share pos (t := 0 - uy) (d := zy - uy) ?_ (bt_sub (c := 0) cy) (fun y => dne ⟨z,y⟩)
        rw [i0]; grind
      · refine bt_share pos (t := 0 - ux) (d := zx - ux) ?_ (bt_sub (c := 0) cx) z
        rw [i0]; grind
    omega
  · rw [c] at i1 i2
    have r : 0 ≤ -s0 ∧ -s0 ≤ D := by
      by_cases z : zx - ux = 0
      · refine bt_share pos (t := bw - uy) (d := zy - uy) ?_ (bt_sub (c := 0) cy) (fun y => dne ⟨z,y⟩)
        rw [Int.mul_sub,i2,i0]; grind
      · refine bt_share pos (t := bx - ux) (d := zx - ux) ?_ (bt_sub (c := 0) cx) z
        rw [Int.mul_sub,i1,i0]; grind
    omega
  · have i0' : s1 = D := by omega
    rw [c,i0',Int.zero_mul,Int.sub_zero] at i1 i2
    have r : 0 ≤ N ∧ N ≤ D := by
      by_cases z : bx = 0
      · exact bt_share pos i2.symm cy (fun y => bne ⟨z,y⟩)
      · exact bt_share pos i1.symm cx z
    omega
  · have i0' : s0 = -D := by omega
    rw [c,i0',Int.zero_mul,Int.neg_mul,Int.zero_sub,Int.neg_neg] at i1 i2
    have r : 0 ≤ N ∧ N ≤ D := by
      by_cases z : bx = 0
      · exact bt_share pos i2.symm cy (fun y => bne ⟨z,y⟩)
      · exact bt_share pos i1.symm cx z
    omega
theorem bt_symm {x y t : Int} (h : Bt x y t) : Bt y x t := by unfold Bt at *; omega
theorem crs_swap {N D s0 s1 ux uy zx zy bx bw : Int} (h : SegC N D s0 s1 ux uy zx zy bx bw) : SegC (-N) (-D) s1 s0 zx zy ux uy bx bw := by
  rcases h with ⟨c1,c2⟩ | ⟨c,cx,cy⟩ | ⟨c,cx,cy⟩ | ⟨c,cx,cy⟩ | ⟨c,cx,cy⟩
  · exact Or.inl ⟨by unfold Opp at *; omega,by unfold Opp at *; omega⟩
  · exact Or.inr (Or.inl ⟨by omega,bt_symm cx,bt_symm cy⟩)
  · exact Or.inr (Or.inr (Or.inl ⟨by omega,bt_symm cx,bt_symm cy⟩))
  · exact Or.inr (Or.inr (Or.inr (Or.inr ⟨c,cx,cy⟩)))
  · exact Or.inr (Or.inr (Or.inr (Or.inl ⟨c,cx,cy⟩)))
theorem crs_neg {N D s0 s1 ux uy zx zy bx bw : Int} (hN : N = ux * zy - uy * zx) (hD : D = bx * (zy - uy) - bw * (zx - ux)) (h0 : s0 = bx * uy - bw * ux) (h1 : s1 = bx * zy - bw * zx) (neg : D < 0) (h : SegC N D s0 s1 ux uy zx zy bx bw) :
    0 ≤ -N ∧ -N ≤ -D ∧ 0 ≤ s0 ∧ s1 ≤ 0 :=
  crs_pos (N := -N) (D := -D) (s0 := s1) (s1 := s0) (ux := zx) (uy := zy) (zx := ux) (zy := uy) (bx := bx) (bw := bw) (by rw [hN]; grind) (by rw [hD]; grind) h1 h0 (by omega) (crs_swap h)
theorem sqq_pos {x y : Int} (h : ¬ (x = 0 ∧ y = 0)) : 0 < x * x + y * y := by
  have p1 := nn_sq x
  have p2 := nn_sq y
  by_cases z : x = 0
  · have w : ¬ y = 0 := fun e => h ⟨z,e⟩
    have : ¬ y * y = 0 := fun e => w (by rcases Int.mul_eq_zero.1 e with g | g <;> exact g)
    omega
  · have : ¬ x * x = 0 := fun e => z (by rcases Int.mul_eq_zero.1 e with g | g <;> exact g)
    omega
theorem crs_par {N D s0 s1 ux uy zx zy bx bw A B v : Int} (hN : N = ux * zy - uy * zx) (hD : D = bx * (zy - uy) - bw * (zx - ux)) (h0 : s0 = bx * uy - bw * ux) (h1 : s1 = bx * zy - bw * zx) (zero : D = 0)
    (hA : A = ux * bx + uy * bw) (hB : B = zx * bx + zy * bw) (hv : v = bx * bx + bw * bw) (dne : ¬ (zx - ux = 0 ∧ zy - uy = 0)) (bne : ¬ (bx = 0 ∧ bw = 0)) (h : SegC N D s0 s1 ux uy zx zy bx bw) :
    0 < v ∧ s0 = 0 ∧ s1 = 0 ∧ (0 ≤ A ∨ 0 ≤ B) ∧ (A ≤ v ∨ B ≤ v) := by
  have v0 : 0 < v := by rw [hv]; exact sqq_pos bne
  have i0 : D = s1 - s0 := by rw [hD,h0,h1]; grind
  have col : N = 0 → s0 = 0 := by
    intro n0
    have j1 : (zx - ux) * s0 = ux * D - bx * N := by rw [hD,hN,h0]; grind
    have j2 : (zy - uy) * s0 = uy * D - bw * N := by rw [hD,hN,h0]; grind
    rw [zero,n0,Int.mul_zero,Int.mul_zero] at j1 j2
    rcases Int.mul_eq_zero.1 (show (zx - ux) * s0 = 0 by omega) with g | g
    · rcases Int.mul_eq_zero.1 (show (zy - uy) * s0 = 0 by omega) with g' | g'
      · exact absurd ⟨g,g'⟩ dne
      · exact g'
    · exact g
  have on1 : s0 = 0 → v * ux = A * bx ∧ v * uy = A * bw := by
    intro z
    have k1 : v * ux = A * bx - s0 * bw := by rw [hv,hA,h0]; grind
    have k2 : v * uy = A * bw + s0 * bx := by rw [hv,hA,h0]; grind
    rw [z,Int.zero_mul] at k1 k2
    omega
  have on2 : s1 = 0 → v * zx = B * bx ∧ v * zy = B * bw := by
    intro z
    have k1 : v * zx = B * bx - s1 * bw := by rw [hv,hB,h1]; grind
    have k2 : v * zy = B * bw + s1 * bx := by rw [hv,hB,h1]; grind
    rw [z,Int.zero_mul] at k1 k2
    omega
  rcases h with ⟨c1,c2⟩ | ⟨c,cx,cy⟩ | ⟨c,cx,cy⟩ | ⟨c,cx,cy⟩ | ⟨c,cx,cy⟩
  · unfold Opp at c1
    omega
  · have s00 := col c
    have s10 : s1 = 0 := by omega
    obtain ⟨a1,a2⟩ := on1 s00
    obtain ⟨b1,b2⟩ := on2 s10
    have r : (0 ≤ A ∨ 0 ≤ B) ∧ (A ≤ 0 ∨ B ≤ 0) := by
      by_cases z : bx = 0
      · exact bt_sides v0 (C := 0) (c := 0) (by rw [Int.sub_zero,Int.sub_zero]; exact a2) (by rw [Int.sub_zero,Int.sub_zero]; exact b2) (fun y => bne ⟨z,y⟩) cy
      · exact bt_sides v0 (C := 0) (c := 0) (by rw [Int.sub_zero,Int.sub_zero]; exact a1) (by rw [Int.sub_zero,Int.sub_zero]; exact b1) z cx
    omega
  · have s00 := col (by omega)
    have s10 : s1 = 0 := by omega
    obtain ⟨a1,a2⟩ := on1 s00
    obtain ⟨b1,b2⟩ := on2 s10
    have r : (v ≤ A ∨ v ≤ B) ∧ (A ≤ v ∨ B ≤ v) := by
      by_cases z : bx = 0
      · exact bt_sides v0 (C := v) (c := bw) (by rw [Int.mul_sub,Int.sub_mul,a2]) (by rw [Int.mul_sub,Int.sub_mul,b2]) (fun y => bne ⟨z,y⟩) cy
      · exact bt_sides v0 (C := v) (c := bx) (by rw [Int.mul_sub,Int.sub_mul,a1]) (by rw [Int.mul_sub,Int.sub_mul,b1]) z cx
    omega
  · have s10 : s1 = 0 := by omega
    obtain ⟨a1,a2⟩ := on1 c
    have r : 0 ≤ A ∧ A ≤ v := by
      by_cases z : bx = 0
      · exact bt_share v0 a2 cy (fun y => bne ⟨z,y⟩)
      · exact bt_share v0 a1 cx z
    omega
  · have s00 : s0 = 0 := by omega
    obtain ⟨b1,b2⟩ := on2 c
    have r : 0 ≤ B ∧ B ≤ v := by
      by_cases z : bx = 0
      · exact bt_share v0 b2 cy (fun y => bne ⟨z,y⟩)
      · exact bt_share v0 b1 cx z
    omega
theorem crs_of {N D s0 s1 ux uy zx zy bx bw : Int} (hN : N = ux * zy - uy * zx) (hD : D = bx * (zy - uy) - bw * (zx - ux)) (h0 : s0 = bx * uy - bw * ux) (h1 : s1 = bx * zy - bw * zx) (neg : D < 0) (n0 : 0 ≤ -N) (n1 : -N ≤ -D) (k0 : 0 ≤ s0) (k1 : s1 ≤ 0) :
    SegC N D s0 s1 ux uy zx zy bx bw := by
  have i0 : D = s1 - s0 := by rw [hD,h0,h1]; grind
  have i1 : N * bx = s1 * ux - s0 * zx := by rw [hN,h0,h1]; grind
  have i2 : N * bw = s1 * uy - s0 * zy := by rw [hN,h0,h1]; grind
  by_cases a : N = 0
  · rw [a,Int.zero_mul] at i1 i2
    exact Or.inr (Or.inl ⟨a,bt_mean (α := -s1) (β := s0) (by omega) k0 (by omega) (by rw [Int.neg_mul,Int.mul_zero]; omega),bt_mean (α := -s1) (β := s0) (by omega) k0 (by omega) (by rw [Int.neg_mul,Int.mul_zero]; omega)⟩)
  by_cases b : N = D
  · refine Or.inr (Or.inr (Or.inl ⟨b,bt_mean (α := -s1) (β := s0) (by omega) k0 (by omega) ?_,bt_mean (α := -s1) (β := s0) (by omega) k0 (by omega) ?_⟩))
    · rw [show -s1 + s0 = -N by omega,Int.neg_mul,Int.neg_mul]; omega
    · rw [show -s1 + s0 = -N by omega,Int.neg_mul,Int.neg_mul]; omega
  by_cases c : s0 = 0
  · have d : s1 = D := by omega
    rw [c,d,Int.zero_mul,Int.sub_zero] at i1 i2
    refine Or.inr (Or.inr (Or.inr (Or.inl ⟨c,bt_mean (α := -D - -N) (β := -N) (by omega) n0 (by omega) ?_,bt_mean (α := -D - -N) (β := -N) (by omega) n0 (by omega) ?_⟩)))
    · rw [show -D - -N + -N = -D by omega,Int.mul_zero,Int.neg_mul,Int.neg_mul]; omega
    · rw [show -D - -N + -N = -D by omega,Int.mul_zero,Int.neg_mul,Int.neg_mul]; omega
  by_cases d : s1 = 0
  · have e : s0 = -D := by omega
    rw [d,e,Int.zero_mul,Int.neg_mul,Int.zero_sub,Int.neg_neg] at i1 i2
    refine Or.inr (Or.inr (Or.inr (Or.inr ⟨d,bt_mean (α := -D - -N) (β := -N) (by omega) n0 (by omega) ?_,bt_mean (α := -D - -N) (β := -N) (by omega) n0 (by omega) ?_⟩)))
    · rw [show -D - -N + -N = -D by omega,Int.mul_zero,Int.neg_mul,Int.neg_mul]; omega
    · rw [show -D - -N + -N = -D by omega,Int.mul_zero,Int.neg_mul,Int.neg_mul]; omega
  exact Or.inl ⟨by unfold Opp; omega,by unfold Opp; omega⟩
def dnE (p r b : V27) : Int := (r.2.1 - p.2.1) * b.1 + (p.1 - r.1) * b.2.1
theorem crp_iff (p r a b : V27) : CrP p r a (pl a b) ↔ SegC (tri p r a) (dnE p r b) (tri a (pl a b) p) (tri a (pl a b) r) (p.1 - a.1) (p.2.1 - a.2.1) (r.1 - a.1) (r.2.1 - a.2.1) b.1 b.2.1 := by
  have e1 : tri p r (pl a b) = tri p r a - dnE p r b := by unfold tri dnE pl; grind
  have bx : ∀ (u v w : V27),Box u v w ↔ Bt u.1 v.1 w.1 ∧ Bt u.2.1 v.2.1 w.2.1 := by
    intro u v w
    unfold Box
    rw [← bt_iff,← bt_iff,and_assoc]
  have sh : ∀ x y t c : Int,Bt x y t ↔ Bt (x - c) (y - c) (t - c) := by intro x y t c; unfold Bt; omega
  have p1 : (pl a b).1 - a.1 = b.1 := by show a.1 + b.1 - a.1 = b.1; omega
  have p2 : (pl a b).2.1 - a.2.1 = b.2.1 := by show a.2.1 + b.2.1 - a.2.1 = b.2.1; omega
  unfold CrP SegC On
  rw [bx,bx,bx,bx,e1,sh p.1 r.1 a.1 a.1,sh p.2.1 r.2.1 a.2.1 a.2.1,sh p.1 r.1 (pl a b).1 a.1,sh p.2.1 r.2.1 (pl a b).2.1 a.2.1,sh a.1 (pl a b).1 p.1 a.1,sh a.2.1 (pl a b).2.1 p.2.1 a.2.1,sh a.1 (pl a b).1 r.1 a.1,sh a.2.1 (pl a b).2.1 r.2.1 a.2.1,p1,p2,Int.sub_self,Int.sub_self,
    show (tri p r a - dnE p r b = 0 ↔ tri p r a = dnE p r b) by omega]
theorem cN (p r a : V27) : tri p r a = (p.1 - a.1) * (r.2.1 - a.2.1) - (p.2.1 - a.2.1) * (r.1 - a.1) := by unfold tri; grind
theorem cD (p r a b : V27) : dnE p r b = b.1 * (r.2.1 - a.2.1 - (p.2.1 - a.2.1)) - b.2.1 * (r.1 - a.1 - (p.1 - a.1)) := by unfold dnE; grind
theorem cS (p a b : V27) : tri a (pl a b) p = b.1 * (p.2.1 - a.2.1) - b.2.1 * (p.1 - a.1) := by unfold tri pl; grind
theorem cv_id (P Q p r a b : V27) : dnE p r b * tri P Q a - tri p r a * dnE P Q b = tri a (pl a b) r * tri P Q p - tri a (pl a b) p * tri P Q r := by unfold dnE tri pl; grind
theorem par_id (P Q p a b : V27) : (b.1 * b.1 + b.2.1 * b.2.1) * tri P Q a - ((p.1 - a.1) * b.1 + (p.2.1 - a.2.1) * b.2.1) * dnE P Q b = (b.1 * b.1 + b.2.1 * b.2.1) * tri P Q p - tri a (pl a b) p * ((Q.1 - P.1) * b.1 + (Q.2.1 - P.2.1) * b.2.1) := by unfold dnE tri pl; grind
section
variable {l : List V27} {a b : V27}
theorem mid_nn (P Q p r a : V27) (hn : tri p r a = 0) (h0 : 0 ≤ tri P Q p) (h1 : 0 ≤ tri P Q r) (hx : Bt (p.1 - a.1) (r.1 - a.1) 0) (hy : Bt (p.2.1 - a.2.1) (r.2.1 - a.2.1) 0) (hd : ¬ (r.1 - p.1 = 0 ∧ r.2.1 - p.2.1 = 0)) : 0 ≤ tri P Q a := by
  have ex : (r.1 - p.1) * tri P Q a = (r.1 - a.1) * tri P Q p - (p.1 - a.1) * tri P Q r + (Q.1 - P.1) * tri p r a := by unfold tri; grind
  have ey : (r.2.1 - p.2.1) * tri P Q a = (r.2.1 - a.2.1) * tri P Q p - (p.2.1 - a.2.1) * tri P Q r + (Q.2.1 - P.2.1) * tri p r a := by unfold tri; grind
  rw [hn,Int.mul_zero] at ex ey
  have key : ∀ {d u z : Int},d = z - u → ¬ d = 0 → Bt u z 0 → d * tri P Q a = z * tri P Q p - u * tri P Q r + 0 → 0 ≤ tri P Q a := by
    intro d u z hd dn hb e
    rcases hb with ⟨u0,z0⟩ | ⟨z0,u0⟩
    · have g1 := Int.mul_nonneg z0 h0
      have g2 := Int.mul_nonneg (show 0 ≤ -u by omega) h1
      rw [Int.neg_mul] at g2
      exact nn_of_mul (b := d) (by omega) (by omega)
    · have g1 := Int.mul_nonneg (show 0 ≤ -z by omega) h0
      have g2 := Int.mul_nonneg u0 h1
      rw [Int.neg_mul] at g1
      exact nn_of_mul (b := -d) (by omega) (by rw [Int.neg_mul]; omega)
  by_cases z : r.1 - p.1 = 0
  · exact key (d := r.2.1 - p.2.1) (by omega) (fun y => hd ⟨z,y⟩) hy ey
  · exact key (d := r.1 - p.1) (by omega) z hx ex
theorem edge_dne (he : EdgeP l) (l3 : 3 ≤ len l) {i : Int} (i0 : 0 ≤ i) (i1 : i < len l) : ¬ ((q l (nx (len l) i)).1 - (q l i).1 = 0 ∧ (q l (nx (len l) i)).2.1 - (q l i).2.1 = 0) := by
  intro ⟨h1,h2⟩
  have hn := nx_range i0 i1
  obtain ⟨j,j0,j1,j2,j3⟩ : ∃ j,0 ≤ j ∧ j < len l ∧ j ≠ i ∧ j ≠ nx (len l) i := by
    refine ⟨nx (len l) (nx (len l) i),(nx_range hn.1 hn.2).1,(nx_range hn.1 hn.2).2,?_,?_⟩
    · unfold nx; split <;> split <;> omega
    · unfold nx; split <;> split <;> omega
  have := he i j i0 i1 j0 j1 j2 j3
  unfold tri at this
  rw [h1,h2,Int.zero_mul,Int.zero_mul] at this
  omega
def nearE (p r a b : V27) : Int := if (r.1 - a.1) * b.1 + (r.2.1 - a.2.1) * b.2.1 < (p.1 - a.1) * b.1 + (p.2.1 - a.2.1) * b.2.1 then (r.1 - a.1) * b.1 + (r.2.1 - a.2.1) * b.2.1 else (p.1 - a.1) * b.1 + (p.2.1 - a.2.1) * b.2.1
theorem edge_cr (he : EdgeP l) (l3 : 3 ≤ len l) (hout : ¬ InP l a) {i : Int} (i0 : 0 ≤ i) (i1 : i < len l) (hc : CrP (q l i) (q l (nx (len l) i)) a (pl a b)) :
    (0 < dn l b i ∧ 0 ≤ nu l a i ∧ nu l a i ≤ dn l b i ∧ Fea l a b (nu l a i) (dn l b i)) ∨ (dn l b i < 0 ∧ 0 ≤ -nu l a i ∧ -nu l a i ≤ -dn l b i ∧ Fea l a b (-nu l a i) (-dn l b i)) ∨
      (dn l b i = 0 ∧ 0 < b.1 * b.1 + b.2.1 * b.2.1 ∧ 0 ≤ nearE (q l i) (q l (nx (len l) i)) a b ∧ nearE (q l i) (q l (nx (len l) i)) a b ≤ b.1 * b.1 + b.2.1 * b.2.1 ∧ Fea l a b (nearE (q l i) (q l (nx (len l) i)) a b) (b.1 * b.1 + b.2.1 * b.2.1)) := by
  have hn := nx_range i0 i1
  have c := (crp_iff _ _ _ _).1 hc
  have T0 : ∀ j,0 ≤ j → j < len l → 0 ≤ tri (q l j) (q l (nx (len l) j)) (q l i) := fun j j0 j1 => Edge_nn he j i j0 j1 i0 i1
  have T1 : ∀ j,0 ≤ j → j < len l → 0 ≤ tri (q l j) (q l (nx (len l) j)) (q l (nx (len l) i)) := fun j j0 j1 => Edge_nn he j _ j0 j1 hn.1 hn.2
  have dne := edge_dne he l3 i0 i1
  rcases Int.lt_trichotomy (dn l b i) 0 with d | d | d
  · obtain ⟨a1,a2,a3,a4⟩ := crs_neg (cN _ _ _) (cD _ _ _ _) (cS _ _ _) (cS _ _ _) d c
    refine Or.inr (Or.inl ⟨d,a1,a2,fun j j0 j1 => ?_⟩)
    have e := cv_id (q l j) (q l (nx (len l) j)) (q l i) (q l (nx (len l) i)) a b
    have g1 := Int.mul_nonneg (show 0 ≤ -tri a (pl a b) (q l (nx (len l) i)) by omega) (T0 j j0 j1)
    have g2 := Int.mul_nonneg a3 (T1 j j0 j1)
    rw [Int.neg_mul] at g1
    show -tri (q l i) (q l (nx (len l) i)) a * dnE (q l j) (q l (nx (len l) j)) b ≤ -dnE (q l i) (q l (nx (len l) i)) b * tri (q l j) (q l (nx (len l) j)) a
    rw [Int.neg_mul,Int.neg_mul]
    omega
  · refine Or.inr (Or.inr ?_)
    by_cases bz : b.1 = 0 ∧ b.2.1 = 0
    · exfalso
      apply hout
      obtain ⟨b1,b2⟩ := bz
      have s0 : tri a (pl a b) (q l i) = 0 := by rw [cS,b1,b2,Int.zero_mul,Int.zero_mul]; omega
      rw [b1,b2] at c
      have d' : dnE (q l i) (q l (nx (len l) i)) b = 0 := d
      rw [d'] at c
      intro j j0 j1
      rcases c with ⟨c1,_⟩ | ⟨c0,cx,cy⟩ | ⟨c0,cx,cy⟩ | ⟨_,cx,cy⟩ | ⟨_,cx,cy⟩
      · unfold Opp at c1; omega
      · exact mid_nn _ _ _ _ _ c0 (T0 j j0 j1) (T1 j j0 j1) cx cy dne
      · exact mid_nn _ _ _ _ _ c0 (T0 j j0 j1) (T1 j j0 j1) cx cy dne
      · have e1 : (q l i).1 = a.1 := by unfold Bt at cx; omega
        have e2 : (q l i).2.1 = a.2.1 := by unfold Bt at cy; omega
        have := T0 j j0 j1
        unfold tri at *
        rw [e1,e2] at this
        exact this
      · have e1 : (q l (nx (len l) i)).1 = a.1 := by unfold Bt at cx; omega
        have e2 : (q l (nx (len l) i)).2.1 = a.2.1 := by unfold Bt at cy; omega
        have := T1 j j0 j1
        unfold tri at *
        rw [e1,e2] at this
        exact this
    · obtain ⟨v0,s0,s1,m1,m2⟩ := crs_par (cN _ _ _) (cD _ _ _ _) (cS _ _ _) (cS _ _ _) (show dnE (q l i) (q l (nx (len l) i)) b = 0 from d) rfl rfl rfl (fun h => dne (by omega)) bz c
      have F0 : Fea l a b (((q l i).1 - a.1) * b.1 + ((q l i).2.1 - a.2.1) * b.2.1) (b.1 * b.1 + b.2.1 * b.2.1) := by
        intro j j0 j1
        have e := par_id (q l j) (q l (nx (len l) j)) (q l i) a b
        rw [s0,Int.zero_mul] at e
        have g := Int.mul_nonneg (Int.le_of_lt v0) (T0 j j0 j1)
        show _ * dnE (q l j) (q l (nx (len l) j)) b ≤ _ * tri (q l j) (q l (nx (len l) j)) a
        omega
      have F1 : Fea l a b (((q l (nx (len l) i)).1 - a.1) * b.1 + ((q l (nx (len l) i)).2.1 - a.2.1) * b.2.1) (b.1 * b.1 + b.2.1 * b.2.1) := by
        intro j j0 j1
        have e := par_id (q l j) (q l (nx (len l) j)) (q l (nx (len l) i)) a b
        rw [s1,Int.zero_mul] at e
        have g := Int.mul_nonneg (Int.le_of_lt v0) (T1 j j0 j1)
        show _ * dnE (q l j) (q l (nx (len l) j)) b ≤ _ * tri (q l j) (q l (nx (len l) j)) a
        omega
      unfold nearE
      generalize ((q l i).1 - a.1) * b.1 + ((q l i).2.1 - a.2.1) * b.2.1 = A at *
      generalize ((q l (nx (len l) i)).1 - a.1) * b.1 + ((q l (nx (len l) i)).2.1 - a.2.1) * b.2.1 = B at *
      generalize b.1 * b.1 + b.2.1 * b.2.1 = v at *
      have out2 : ∀ x y,Fea l a b x v → Fea l a b y v → x ≤ 0 → 0 ≤ y → False := by
        intro x y fx fy x0 y0
        apply hout
        intro j j0 j1
        have h1 := fx j j0 j1
        have h2 := fy j j0 j1
        refine nn_of_mul (b := v) v0 ?_
        show 0 ≤ v * nu l a j
        by_cases z : 0 ≤ dn l b j
        · have := Int.mul_nonneg y0 z
          omega
        · have := Int.mul_nonneg (show 0 ≤ -x by omega) (show 0 ≤ -dn l b j by omega)
          rw [Int.neg_mul_neg] at this
          omega
      have pA : 0 < A ∧ 0 < B := by
        by_cases x : 0 < A
        · by_cases y : 0 < B
          · exact ⟨x,y⟩
          · exact (out2 B A F1 F0 (by omega) (by omega)).elim
        · by_cases y : 0 ≤ B
          · exact (out2 A B F0 F1 (by omega) y).elim
          · have : A = 0 := by omega
            exact (out2 B A F1 F0 (by omega) (by omega)).elim
      refine ⟨d,v0,?_,?_,?_⟩
      · split <;> omega
      · split <;> omega
      · split
        · exact F1
        · exact F0
  · obtain ⟨a1,a2,a3,a4⟩ := crs_pos (cN _ _ _) (cD _ _ _ _) (cS _ _ _) (cS _ _ _) d c
    refine Or.inl ⟨d,a1,a2,fun j j0 j1 => ?_⟩
    have e := cv_id (q l j) (q l (nx (len l) j)) (q l i) (q l (nx (len l) i)) a b
    have g1 := Int.mul_nonneg a3 (T0 j j0 j1)
    have g2 := Int.mul_nonneg (show 0 ≤ -tri a (pl a b) (q l i) by omega) (T1 j j0 j1)
    rw [Int.neg_mul] at g2
    show tri (q l i) (q l (nx (len l) i)) a * dnE (q l j) (q l (nx (len l) j)) b ≤ dnE (q l i) (q l (nx (len l) i)) b * tri (q l j) (q l (nx (len l) j)) a
    omega
theorem edge_rc (he : EdgeP l) (l3 : 3 ≤ len l) {i : Int} (i0 : 0 ≤ i) (i1 : i < len l) (d : dn l b i < 0) (n0 : 0 ≤ -nu l a i) (n1 : -nu l a i ≤ -dn l b i) (hf : Fea l a b (-nu l a i) (-dn l b i)) : CrP (q l i) (q l (nx (len l) i)) a (pl a b) := by
  have hn := nx_range i0 i1
  have hnn := nx_range hn.1 hn.2
  have k1 : tri a (pl a b) (q l (nx (len l) i)) ≤ 0 := by
    have e := cv_id (q l (nx (len l) i)) (q l (nx (len l) (nx (len l) i))) (q l i) (q l (nx (len l) i)) a b
    rw [tri_self2,Int.mul_zero] at e
    have p : 0 < tri (q l (nx (len l) i)) (q l (nx (len l) (nx (len l) i))) (q l i) := he _ i hn.1 hn.2 i0 i1 (by unfold nx; split <;> omega) (by unfold nx; split <;> split <;> omega)
    have f := hf _ hn.1 hn.2
    have f : -tri (q l i) (q l (nx (len l) i)) a * dnE (q l (nx (len l) i)) (q l (nx (len l) (nx (len l) i))) b ≤ -dnE (q l i) (q l (nx (len l) i)) b * tri (q l (nx (len l) i)) (q l (nx (len l) (nx (len l) i))) a := f
    rw [Int.neg_mul,Int.neg_mul] at f
    have := nn_of_mul (a := -tri a (pl a b) (q l (nx (len l) i))) p (by rw [Int.mul_neg,Int.mul_comm]; omega)
    omega
  have k0 : 0 ≤ tri a (pl a b) (q l i) := by
    obtain ⟨j,j0,j1,j2⟩ : ∃ j,0 ≤ j ∧ j < len l ∧ nx (len l) j = i := by
      by_cases z : i = 0
      · exact ⟨len l - 1,by omega,by omega,by unfold nx; split <;> omega⟩
      · exact ⟨i - 1,by omega,by omega,by unfold nx; split <;> omega⟩
    have e := cv_id (q l j) (q l (nx (len l) j)) (q l i) (q l (nx (len l) i)) a b
    have p : 0 < tri (q l j) (q l (nx (len l) j)) (q l (nx (len l) i)) := he j _ j0 j1 hn.1 hn.2 (by rw [← j2]; unfold nx; split <;> split <;> omega) (by rw [j2]; unfold nx; split <;> omega)
    have f := hf j j0 j1
    have f : -tri (q l i) (q l (nx (len l) i)) a * dnE (q l j) (q l (nx (len l) j)) b ≤ -dnE (q l i) (q l (nx (len l) i)) b * tri (q l j) (q l (nx (len l) j)) a := f
    rw [Int.neg_mul,Int.neg_mul] at f
    have z : tri (q l j) (q l (nx (len l) j)) (q l i) = 0 := by rw [j2]; exact tri_self _ _
    rw [z,Int.mul_zero] at e
    exact nn_of_mul p (by rw [Int.mul_comm]; omega)
  exact (crp_iff _ _ _ _).2 (crs_of (cN _ _ _) (cD _ _ _ _) (cS _ _ _) (cS _ _ _) d n0 n1 k0 k1)
end
end Go.Proofs.T1
