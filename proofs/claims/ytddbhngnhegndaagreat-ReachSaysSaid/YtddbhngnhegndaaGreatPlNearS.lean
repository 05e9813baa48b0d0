import Derived.Test.YtddbhngnhegndaaGreatPlNear
import Derived.Test.YtddbhngnhegndaaGreatPlDist
namespace Go.Proofs.T1
open Go Go.Sx
theorem greatest_loop {k : Nat} {f : (Int × Unit) → Option Bool} {P : Int → Prop} (hf : ∀ n,0 ≤ n → n ≤ 536870912 → ∃ b,f (n,()) = some b ∧ (b = true ↔ P n)) :
    ∀ (m fuel : Nat) (low high : Int),m < fuel → high - low ≤ 2 ^ m → 0 ≤ low → low < high → high ≤ 536870912 → P low → ¬ P high → ∃ n,near_greatest.c1 k f fuel low high = some n ∧ 0 ≤ n ∧ n < 536870912 ∧ P n ∧ ¬ P (n + 1) := by
  intro m
  induction m with
  | zero =>
    intro fuel low high h1 h2 h3 h4 h5 h6 h7
    obtain ⟨fuel,rfl⟩ : ∃ g,fuel = g + 1 := ⟨fuel - 1,by omega⟩
    rw [near_greatest.c1,isub_i64 (by omega) (by omega),igt_neg (by simp only [Int.pow_zero] at h2; omega),bif_false]
    have : high = low + 1 := by simp only [Int.pow_zero] at h2; omega
    exact ⟨low,rfl,h3,by omega,h6,this ▸ h7⟩
  | succ m ih =>
    intro fuel low high h1 h2 h3 h4 h5 h6 h7
    obtain ⟨fuel,rfl⟩ : ∃ g,fuel = g + 1 := ⟨fuel - 1,by omega⟩
    rw [Int.pow_succ] at h2
    rw [near_greatest.c1,isub_i64 (by omega) (by omega)]
    by_cases c : high - low > 1
    · rw [igt_pos c,bif_true,iadd_i64 (by omega) (by omega),iquo_i64 (by omega) (by omega) (by decide)]
      obtain ⟨b,e,hb⟩ := hf ((low + high) / 2) (by omega) (by omega)
      rw [e,bnd_some]
      cases b with
      | true =>
        rw [bif_true]
        exact ih fuel _ _ (by omega) (by omega) (by omega) (by omega) h5 (hb.1 rfl) h7
      | false =>
        rw [bif_false]
        exact ih fuel _ _ (by omega) (by omega) h3 (by omega) (by omega) h6 (fun g => (by have := hb.2 g; cases this))
    · rw [igt_neg (by omega),bif_false]
      have : high = low + 1 := by omega
      exact ⟨low,rfl,h3,by omega,h6,this ▸ h7⟩
theorem greatest_eq {k : Nat} (hk : 31 ≤ k) {f : (Int × Unit) → Option Bool} {P : Int → Prop} (hf : ∀ n,0 ≤ n → n ≤ 536870912 → ∃ b,f (n,()) = some b ∧ (b = true ↔ P n)) (p0 : P 0) (p1 : ¬ P 536870912) : ∃ n,near_greatest k f = some n ∧ 0 ≤ n ∧ n < 536870912 ∧ P n ∧ ¬ P (n + 1) := by
  obtain ⟨n,e,h⟩ := greatest_loop (k := k) hf 29 k 0 536870912 (by omega) (by decide) (by decide) (by decide) (by decide) p0 p1
  refine ⟨n,?_,h⟩
  unfold near_greatest
  rw [e,bnd_some]
theorem sq_small {n : Int} (h0 : 0 ≤ n) (h1 : n ≤ 536870912) : 0 ≤ n * n ∧ n * n ≤ 288230376151711744 :=
  ⟨sq_nn n,sq_le h0 h1⟩
theorem far_eq {k : Nat} (hk : 31 ≤ k) {p r : V22} (hp : -131072000 ≤ p.1 ∧ p.1 ≤ 131072000 ∧ -131072000 ≤ p.2.1 ∧ p.2.1 ≤ 131072000) (hr : -131072000 ≤ r.1 ∧ r.1 ≤ 131072000 ∧ -131072000 ≤ r.2.1 ∧ r.2.1 ≤ 131072000) :
    ∃ n,near_far k p r = some n ∧ 0 ≤ n ∧ n < 536870912 ∧ NrS p r n ∧ ¬ NrS p r (n + 1) := by
  have q1 := mul_bd (x := p.1) (y := r.1 - p.1) (M := 131072000) (N := 262144000) (by omega) (by omega) (by omega) (by omega)
  have q2 := mul_bd (x := p.2.1) (y := r.2.1 - p.2.1) (M := 131072000) (N := 262144000) (by omega) (by omega) (by omega) (by omega)
  have q3 := mul_bd (x := r.1 - p.1) (y := r.1 - p.1) (M := 262144000) (N := 262144000) (by omega) (by omega) (by omega) (by omega)
  have q4 := mul_bd (x := r.2.1 - p.2.1) (y := r.2.1 - p.2.1) (M := 262144000) (N := 262144000) (by omega) (by omega) (by omega) (by omega)
  have q5 := mul_bd (x := p.1) (y := p.1) (M := 131072000) (N := 131072000) (by omega) (by omega) (by omega) (by omega)
  have q6 := mul_bd (x := p.2.1) (y := p.2.1) (M := 131072000) (N := 131072000) (by omega) (by omega) (by omega) (by omega)
  have q7 := mul_bd (x := r.1) (y := r.1) (M := 131072000) (N := 131072000) (by omega) (by omega) (by omega) (by omega)
  have q8 := mul_bd (x := r.2.1) (y := r.2.1) (M := 131072000) (N := 131072000) (by omega) (by omega) (by omega) (by omega)
  have s1 := sq_nn p.1
  have s2 := sq_nn p.2.1
  have s3 := sq_nn r.1
  have s4 := sq_nn r.2.1
  have ht : isub .i64 (imul .i64 (ineg .i64 p.1) (isub .i64 r.1 p.1)) (imul .i64 p.2.1 (isub .i64 r.2.1 p.2.1)) = - dt p (sb r p) := by
    have e : -p.1 * (r.1 - p.1) = -(p.1 * (r.1 - p.1)) := Int.neg_mul _ _
    rw [ineg_i64 (by omega) (by omega),isub_i64 (x := r.1) (by omega) (by omega),isub_i64 (x := r.2.1) (by omega) (by omega),imul_i64 (by omega) (by omega),imul_i64 (by omega) (by omega),isub_i64 (by omega) (by omega)]
    unfold dt sb
    dsimp only
    omega
  have hz : iadd .i64 (imul .i64 (isub .i64 r.1 p.1) (isub .i64 r.1 p.1)) (imul .i64 (isub .i64 r.2.1 p.2.1) (isub .i64 r.2.1 p.2.1)) = dt (sb r p) (sb r p) := by
    rw [isub_i64 (x := r.1) (by omega) (by omega),isub_i64 (x := r.2.1) (by omega) (by omega),imul_i64 (by omega) (by omega),imul_i64 (by omega) (by omega),iadd_i64 (by omega) (by omega)]
    rfl
  have hs : dt r (sb r p) = dt (sb r p) (sb r p) + dt p (sb r p) := by unfold dt sb; grind
  unfold near_far
  rw [ht,hz]
  by_cases c1 : 0 ≤ dt p (sb r p)
  · rw [ile_pos (by omega),bif_true]
    obtain ⟨n,e,n0,n1,a,b⟩ := greatest_eq (k := k) hk (f := fun x : (Int × Unit) => near_far_1 k (x.1) p) (P := fun n => n * n ≤ dt p p)
      (by
        intro n n0 n1
        have hn := sq_small n0 n1
        refine ⟨_,rfl,?_⟩
        dsimp only
        rw [imul_i64 (by omega) (by omega),imul_i64 (by omega) (by omega),imul_i64 (by omega) (by omega),iadd_i64 (by omega) (by omega)]
        unfold ile
        rw [decide_eq_true_iff]
        rfl)
      (by unfold dt; omega) (by unfold dt; omega)
    rw [e,bnd_some]
    exact ⟨n,rfl,n0,n1,(NrS_end c1).2 a,fun g => b ((NrS_end c1).1 g)⟩
  rw [ile_neg (by omega),bif_false]
  by_cases c2 : dt r (sb r p) ≤ 0
  · rw [ige_pos (by omega),bif_true]
    obtain ⟨n,e,n0,n1,a,b⟩ := greatest_eq (k := k) hk (f := fun x : (Int × Unit) => near_far_2 k (x.1) r) (P := fun n => n * n ≤ dt r r)
      (by
        intro n n0 n1
        have hn := sq_small n0 n1
        refine ⟨_,rfl,?_⟩
        dsimp only
        rw [imul_i64 (by omega) (by omega),imul_i64 (by omega) (by omega),imul_i64 (by omega) (by omega),iadd_i64 (by omega) (by omega)]
        unfold ile
        rw [decide_eq_true_iff]
        rfl)
      (by unfold dt; omega) (by unfold dt; omega)
    rw [e,bnd_some]
    exact ⟨n,rfl,n0,n1,(NrS_end2 c2).2 a,fun g => b ((NrS_end2 c2).1 g)⟩
  rw [ige_neg (by omega),bif_false]
  have w1 := mul_bd (x := p.1) (y := r.2.1) (M := 131072000) (N := 131072000) (by omega) (by omega) (by omega) (by omega)
  have w2 := mul_bd (x := p.2.1) (y := r.1) (M := 131072000) (N := 131072000) (by omega) (by omega) (by omega) (by omega)
  rw [ncross_eq k (u := p) (v := r) (by omega) (by omega),bnd_some]
  have cb : -34359738368000000 ≤ cr p r ∧ cr p r ≤ 34359738368000000 := by unfold cr; omega
  have sz : 0 ≤ dt (sb r p) (sb r p) ∧ dt (sb r p) (sb r p) ≤ 137438953472000000 := by
    have := sq_nn (r.1 - p.1)
    have := sq_nn (r.2.1 - p.2.1)
    unfold dt sb
    dsimp only
    omega
  have L : dt p (sb r p) * dt p (sb r p) + cr p r * cr p r = dt p p * dt (sb r p) (sb r p) := by unfold dt cr sb; grind
  obtain ⟨n,e,n0,n1,a,b⟩ := greatest_eq (k := k) hk (f := fun x : (Int × Unit) => near_far_3 k (x.1) (dt (sb r p) (sb r p)) (cr p r)) (P := fun n => n * n * dt (sb r p) (sb r p) ≤ cr p r * cr p r)
    (by
      intro n n0 n1
      have hn := sq_small n0 n1
      dsimp only
      unfold near_far_3
      rw [imul_i64 (by omega) (by omega)]
      obtain ⟨u,e1,o1,v1⟩ := Times_eq k (a := n * n) (b := dt (sb r p) (sb r p)) (by omega) (by omega) (by omega) (by omega)
      obtain ⟨v,e2,o2,v2⟩ := Times_eq k (a := cr p r) (b := cr p r) (by omega) (by omega) (by omega) (by omega)
      rw [e1,bnd_some,e2,bnd_some,WCmp_eq k o1 o2,bnd_some,v1,v2]
      refine ⟨_,rfl,?_⟩
      unfold ile cmpI
      rw [decide_eq_true_iff]
      split
      · exact ⟨fun _ => by omega,fun _ => by decide⟩
      · split
        · exact ⟨fun _ => by omega,fun _ => by decide⟩
        · exact ⟨fun h => absurd h (by decide),fun h => by omega⟩)
    (by
      have := sq_nn (cr p r)
      simp only [Int.zero_mul]
      exact this)
    (by
      have x1 := sq_nn (dt p (sb r p))
      have x2 : dt p p ≤ 34359738368000000 := by unfold dt; omega
      have x3 := Int.mul_le_mul_of_nonneg_right x2 sz.1
      have x4 : 0 < dt (sb r p) (sb r p) := by omega
      omega)
  rw [e,bnd_some]
  exact ⟨n,rfl,n0,n1,(NrS_mid (by omega) (by omega)).2 a,fun g => b ((NrS_mid (by omega) (by omega)).1 g)⟩
theorem inside_eq {k : Nat} {l : List V22} (h3 : 3 ≤ len l) (h16 : len l ≤ 16) (hk : 20 ≤ k) (hb : ∀ t,0 ≤ t → t < len l → -131072000 ≤ (q l t).1 ∧ (q l t).1 ≤ 131072000 ∧ -131072000 ≤ (q l t).2.1 ∧ (q l t).2.1 ≤ 131072000) :
    ∃ b,near_inside k l = some b ∧ (b = true ↔ InP l zed) := by
  have tz : ∀ u v : V22,tri u v zed = cr u v := by intro u v; unfold tri cr zed; grind
  have step : ∀ n v,0 ≤ v → v < len l → near_inside.c1 k l (n + 1) v = bif' (ilt (cr (q l v) (q l (nx (len l) v))) 0) (some (.inl ())) (near_inside.c1 k l n (v + 1)) := by
    intro n v v0 v1
    have hn := nx_range v0 v1
    have b1 := hb v v0 v1
    have b2 := hb _ hn.1 hn.2
    rw [near_inside.c1,ilt_pos v1,bif_true,req_pos (inL_of v0 v1),req_pos (show nz (len l) by unfold nz; omega),irem_nx v0 v1 (by omega),req_pos (inL_of hn.1 hn.2)]
    show bnd (near_cross k (q l v) (q l (nx (len l) v))) _ = _
    rw [ncross_eq k (by omega) (by omega),bnd_some,iadd_i64 (by omega) (by omega)]
  rcases find_loop (fun n v => near_inside.c1 k l n v) 0 (len l) (fun v => cr (q l v) (q l (nx (len l) v)) < 0) (fun _ => ())
    (by
      intro n v a b p
      show near_inside.c1 k l (n + 1) v = _
      rw [step n v a b,ilt_pos p,bif_true])
    (by
      intro n v a b p
      show near_inside.c1 k l (n + 1) v = near_inside.c1 k l n (v + 1)
      rw [step n v a b,ilt_neg (by omega),bif_false])
    (by
      intro n v a b
      show near_inside.c1 k l (n + 1) v = _
      rw [near_inside.c1,ilt_neg b,bif_false]) k 0 (by omega) (by omega) with ⟨j,a,b,c,_,e⟩ | ⟨a,e⟩
  · have e : near_inside.c1 k l k 0 = some (.inl ()) := e
    refine ⟨false,?_,fun h => (by cases h),fun h => ?_⟩
    · unfold near_inside
      rw [e,bnd_some,two_inl]
    · have := h j a b
      rw [tz] at this
      omega
  · have e : near_inside.c1 k l k 0 = some (.inr ()) := e (by omega)
    refine ⟨true,?_,fun _ i i0 i1 => ?_,fun _ => rfl⟩
    · unfold near_inside
      rw [e,bnd_some,two_inr]
    · have := a i i0 i1
      rw [tz]
      omega
theorem NMeet_eq {k : Nat} (hk : 40 ≤ k) {a b l : List V22} (ha : Val a) (hb : Val b) (e : near_Minus k a b = some (l,0)) (D : Dif a b l) : ∃ m,near_Meet k a b = some (m,0) ∧ (m = true ↔ InP l zed) := by
  have := ha.2.1
  have := hb.2.1
  obtain ⟨m,e2,hm⟩ := inside_eq (k := k) D.len3 (by have := D.le; omega) (by omega) (fun t t0 t1 => Dif_bd ha.2.2.1 hb.2.2.1 D t0 t1)
  refine ⟨m,?_,hm⟩
  unfold near_Meet
  rw [e,bnd_some,ine_neg rfl,bif_false,e2,bnd_some]
theorem NApart_eq {k : Nat} (hk : 40 ≤ k) {a b l : List V22} (ha : Val a) (hb : Val b) (e : near_Minus k a b = some (l,0)) (D : Dif a b l) : ∃ n,near_Apart k a b = some (n,0) ∧ 0 ≤ n ∧ n ≤ 1073741824 ∧ NrL l n ∧ ¬ NrL l (n + 1) := by
  have a8 := ha.2.1
  have b8 := hb.2.1
  have l3 := D.len3
  have l16 := D.le
  have bd := fun t t0 t1 => Dif_bd ha.2.2.1 hb.2.2.1 D (t := t) t0 t1
  obtain ⟨m,e2,hm⟩ := inside_eq (k := k) l3 (by omega) (by omega) bd
  unfold near_Apart
  rw [e,bnd_some,ine_neg rfl,bif_false]
  dsimp only
  rw [e2,bnd_some]
  cases m with
  | true =>
    rw [bif_true]
    have hi := hm.1 rfl
    refine ⟨0,rfl,by decide,by decide,NrL_zero l,fun g => ?_⟩
    have := NrL_in hi (by decide) g
    omega
  | false =>
    rw [bif_false]
    have hi : ¬ InP l zed := fun g => (by have := hm.2 g; cases this)
    obtain ⟨s,⟨s0,s2,s3,_,s4⟩,f⟩ := inv_loop (fun n s v => near_Apart.c1 k (l,0) n s v) 0 (len l) (fun s v => 0 ≤ s ∧ s ≤ 1073741824 ∧ (∀ i,0 ≤ i → i < v → NrS (q l i) (q l (nx (len l) i)) s) ∧ (v = 0 → s = 1073741824) ∧ (0 < v → ∃ i,0 ≤ i ∧ i < v ∧ ¬ NrS (q l i) (q l (nx (len l) i)) (s + 1)))
      (by
        intro n s v v0 v1 ⟨i0,i1,i2,i4,i3⟩
        have hn := nx_range v0 v1
        obtain ⟨y,ey,y0,y1,y2,y3⟩ := far_eq (k := k) (by omega) (bd v v0 v1) (bd _ hn.1 hn.2)
        refine ⟨imin s y,⟨?_,?_,?_,fun h => by omega,?_⟩,?_⟩
        · unfold imin; split <;> omega
        · unfold imin; split <;> omega
        · intro i a b
          by_cases c : i = v
          · subst c; exact NrS_anti (by unfold imin; split <;> omega) (by unfold imin; split <;> omega) y2
          · exact NrS_anti (by unfold imin; split <;> omega) (by unfold imin; split <;> omega) (i2 i a (by omega))
        · intro _
          unfold imin
          by_cases c : y < s
          · rw [if_pos c]; exact ⟨v,v0,by omega,y3⟩
          · rw [if_neg c]
            by_cases c0 : v = 0
            · have := i4 c0
              omega
            · obtain ⟨i,a,b,d⟩ := i3 (by omega)
              exact ⟨i,a,by omega,d⟩
        · show near_Apart.c1 k (l,0) (n + 1) s v = near_Apart.c1 k (l,0) n (imin s y) (v + 1)
          rw [near_Apart.c1]
          dsimp only
          rw [ilt_pos v1,bif_true,req_pos (inL_of v0 v1),req_pos (show nz (len l) by unfold nz; omega),irem_nx v0 v1 (by omega),req_pos (inL_of hn.1 hn.2)]
          show bnd (near_far k (q l v) (q l (nx (len l) v))) _ = _
          rw [ey,bnd_some,iadd_i64 (by omega) (by omega)])
      (by
        intro n s v a b
        show near_Apart.c1 k (l,0) (n + 1) s v = some s
        rw [near_Apart.c1]
        dsimp only
        rw [ilt_neg b,bif_false])
      k 1073741824 0 (by omega) (by omega) (by omega) ⟨by decide,by decide,fun i a b => by omega,fun _ => rfl,fun h => by omega⟩
    have f : near_Apart.c1 k (l,0) k 1073741824 0 = some s := f
    rw [f,bnd_some]
    refine ⟨s,rfl,s0,s2,(NrL_iff D.edge l3 hi).2 s3,fun g => ?_⟩
    obtain ⟨i,a,b,c⟩ := s4 (by omega)
    exact c ((NrL_iff D.edge l3 hi).1 g i a b)
theorem NrL_uniq {l : List V22} {m n : Int} (m0 : 0 ≤ m) (n0 : 0 ≤ n) (h1 : NrL l m) (h2 : ¬ NrL l (m + 1)) (g1 : NrL l n) (g2 : ¬ NrL l (n + 1)) : m = n := by
  rcases Int.lt_trichotomy m n with c | c | c
  · exact absurd (NrL_anti (by omega) (by omega) g1) h2
  · exact c
  · exact absurd (NrL_anti (by omega) (by omega) h1) g2
end Go.Proofs.T1
