import Derived.Test.YtddbhngnhegndaaGreatPlNearS
import Derived.Test.YtddbhngnhegndaaGreatPlPair
namespace Go.Proofs.T1
open Go Go.Sx
def Bw (v : V22) : Prop := -200000000 ≤ v.1 ∧ v.1 ≤ 200000000 ∧ -200000000 ≤ v.2.1 ∧ v.2.1 ≤ 200000000
theorem rsub_eq (k : Nat) {a b : V22} (ha : Bw a) (hb : Bw b) : r2_sub k a b = some (sb a b) := by
  unfold Bw at ha hb
  unfold r2_sub
  rw [isub_i64 (by omega) (by omega),isub_i64 (by omega) (by omega)]
  rfl
section
variable {k : Nat} {L H : List V22}
end
end Go.Proofs.T1
namespace Go.Proofs.T1
open Go Go.Sx
theorem apart_c1 {k : Nat} (hk : 9 ≤ k) {c s : Int} {y21 y23 : List Int} (r1 : BR y21 c) (r2 : BR y23 s) (s0 : 0 < s) (s1 : s ≤ 140000000000000000) (c0 : -140000000000000000 ≤ c) (c1 : c ≤ 140000000000000000) :
    ∀ (j f : Nat) (v : Int),j + 1 < f → j ≤ 29 → 0 ≤ v → v + 2 ^ (j + 1) ≤ 1073741824 → v * v * s ≤ c * c → c * c < (v + 2 ^ (j + 1)) * (v + 2 ^ (j + 1)) * s →
    ∃ r,r2_apart.c1 k y21 y23 f v (2 ^ j) = some r ∧ 0 ≤ r ∧ r ≤ 1073741824 ∧ r * r * s ≤ c * c ∧ c * c < (r + 1) * (r + 1) * s := by
  have cc := mul_bd (x := c) (y := c) (M := 140000000000000000) (N := 140000000000000000) c0 c1 c0 c1
  have st : ∀ (f : Nat) (v b : Int),0 < b → 0 ≤ v → v + b ≤ 1073741824 → r2_apart.c1 k y21 y23 (f + 1) v b = r2_apart.c1 k y21 y23 f (if (v + b) * (v + b) * s ≤ c * c then v + b else v) (iquo .i64 b 2) := by
    intro f v b b0 v0 vb
    have p1 := mul_bd (x := v + b) (y := v + b) (M := 1073741824) (N := 1073741824) (by omega) (by omega) (by omega) (by omega)
    have p2 := mul_bd (x := (v + b) * (v + b)) (y := s) (M := 1152921504606846976) (N := 140000000000000000) (by omega) (by omega) (by omega) (by omega)
    obtain ⟨x,ex,rx⟩ := BOf hk (n := v + b) (by omega) (by omega)
    obtain ⟨y,ey,ry⟩ := BMul hk rx rx
    obtain ⟨z,ez,rz⟩ := BMul hk ry r2
    obtain ⟨w,ew,rw_⟩ := BMul hk r1 r1
    rw [r2_apart.c1,igt_pos b0,bif_true,iadd_i64 (by omega) (by omega),ex,bnd_some,bnd_some,ey,bnd_some,ez,bnd_some,ew,bnd_some,BCmp hk rz rw_ (by unfold SR; omega) (by unfold SR; omega),bnd_some]
    unfold r2_apart.c2
    by_cases g : (v + b) * (v + b) * s ≤ c * c
    · have : cmpI ((v + b) * (v + b) * s) (c * c) ≤ 0 := by unfold cmpI; split <;> (try split) <;> omega
      rw [ile_pos this,bif_true,bnd_some,if_pos g,iadd_i64 (by omega) (by omega)]
    · rw [cmpI_gt (by omega),ile_neg (by decide),bif_false,bnd_some,if_neg g]
  intro j
  induction j with
  | zero =>
    intro f v hf hj a b cc' d
    obtain ⟨f,rfl⟩ : ∃ i,f = i + 2 := ⟨f - 2,by omega⟩
    simp only [Int.pow_succ,Int.pow_zero,Int.one_mul] at b d ⊢
    have q : iquo .i64 1 2 = 0 := by rw [iquo_i64 (by decide) (by decide) (by decide)]; decide
    rw [st (f + 1) v 1 (by decide) a (by omega),q,r2_apart.c1,igt_neg (by decide),bif_false]
    by_cases g : (v + 1) * (v + 1) * s ≤ c * c
    · rw [if_pos g]
      exact ⟨_,rfl,by omega,by omega,g,by rw [show v + 1 + 1 = v + 2 by omega]; exact d⟩
    · rw [if_neg g]
      exact ⟨_,rfl,a,by omega,cc',by omega⟩
  | succ j ih =>
    intro f v hf hj a b cc' d
    obtain ⟨f,rfl⟩ : ∃ i,f = i + 1 := ⟨f - 1,by omega⟩
    have e2 : (2 : Int) ^ (j + 1 + 1) = 2 * 2 ^ (j + 1) := by rw [Int.pow_succ]; omega
    have e3 : (2 : Int) ^ (j + 1) = 2 * 2 ^ j := by rw [Int.pow_succ]; omega
    have p0 : (0 : Int) < 2 ^ j := Int.pow_pos (by decide)
    rw [e2] at b d
    have q : iquo .i64 (2 ^ (j + 1)) 2 = 2 ^ j := by rw [iquo_i64 (by omega) (by omega) (by decide)]; omega
    rw [st f v (2 ^ (j + 1)) (by omega) a (by omega),q]
    by_cases g : (v + 2 ^ (j + 1)) * (v + 2 ^ (j + 1)) * s ≤ c * c
    · rw [if_pos g]
      exact ih f _ (by omega) (by omega) (by omega) (by omega) g (by rw [show v + 2 ^ (j + 1) + 2 ^ (j + 1) = v + 2 * 2 ^ (j + 1) by omega]; exact d)
    · rw [if_neg g]
      exact ih f _ (by omega) (by omega) a (by omega) cc' (by omega)
theorem cmpI_np (x : Int) : ile (cmpI x 0) 0 = decide (x ≤ 0) := by
  unfold ile cmpI
  refine decide_eq_decide.2 ?_
  split
  · exact ⟨fun _ => by omega,fun _ => by decide⟩
  · split
    · exact ⟨fun _ => by omega,fun _ => by decide⟩
    · exact ⟨fun h => absurd h (by decide),fun h => by omega⟩
theorem Wn_Bw {v : V22} (h : Wn v) : Bw v := by unfold Wn at h; unfold Bw; omega
theorem apart_eq {k : Nat} (hk : 60 ≤ k) {p u r : V22} (hp : Wn p) (hu : Wn u) (hr : Wn r) :
    ∃ n,r2_apart k p u r = some n ∧ 0 ≤ n ∧ n ≤ 1073741824 ∧ NrS (sb u p) (sb r p) n ∧ ¬ NrS (sb u p) (sb r p) (n + 1) := by
  have hk9 : 9 ≤ k := by omega
  have eE : sb (sb r p) (sb u p) = sb r u := by refine v_ext ?_ ?_ <;> unfold sb <;> dsimp only <;> omega
  have dP : dt (sb u p) (sb u p) = dt (sb p u) (sb p u) := by unfold dt sb; grind
  have dR : dt (sb r p) (sb r p) = dt (sb p r) (sb p r) := by unfold dt sb; grind
  have dPe : dt (sb u p) (sb r u) = - dt (sb p u) (sb r u) := by unfold dt sb; grind
  have dRe : dt (sb r p) (sb r u) = - dt (sb p r) (sb r u) := by unfold dt sb; grind
  have cPR : cr (sb u p) (sb r p) = cr (sb r u) (sb p u) := by unfold cr sb; grind
  have sum : dt (sb r p) (sb r u) = dt (sb r u) (sb r u) + dt (sb u p) (sb r u) := by unfold dt sb; grind
  have E1 := fun n => NrS_end (p := sb u p) (r := sb r p) (n := n)
  have E2 := fun n => NrS_end2 (p := sb u p) (r := sb r p) (n := n)
  have E3 := fun n => NrS_mid (p := sb u p) (r := sb r p) (n := n)
  rw [eE] at E1 E2 E3
  have bd : ∀ {x y : V22},Wn x → Wn y → -131072000 ≤ (sb x y).1 ∧ (sb x y).1 ≤ 131072000 ∧ -131072000 ≤ (sb x y).2.1 ∧ (sb x y).2.1 ≤ 131072000 := by
    intro x y hx hy
    unfold Wn at hx hy
    unfold sb
    dsimp only
    omega
  have b1 := bd hr hu
  have b2 := bd hp hu
  have b3 := bd hp hr
  have db : ∀ {x y : V22},(-131072000 ≤ x.1 ∧ x.1 ≤ 131072000 ∧ -131072000 ≤ x.2.1 ∧ x.2.1 ≤ 131072000) → (-131072000 ≤ y.1 ∧ y.1 ≤ 131072000 ∧ -131072000 ≤ y.2.1 ∧ y.2.1 ≤ 131072000) →
      (-34359738368000000 ≤ dt x y ∧ dt x y ≤ 34359738368000000) ∧ (-34359738368000000 ≤ cr x y ∧ cr x y ≤ 34359738368000000) ∧ ∃ c,r2_Dot k x y = some c ∧ BR c (dt x y) := by
    intro x y hx hy
    have p1 := mul_bd (x := x.1) (y := y.1) (M := 131072000) (N := 131072000) (by omega) (by omega) (by omega) (by omega)
    have p2 := mul_bd (x := x.2.1) (y := y.2.1) (M := 131072000) (N := 131072000) (by omega) (by omega) (by omega) (by omega)
    have p3 := mul_bd (x := x.1) (y := y.2.1) (M := 131072000) (N := 131072000) (by omega) (by omega) (by omega) (by omega)
    have p4 := mul_bd (x := x.2.1) (y := y.1) (M := 131072000) (N := 131072000) (by omega) (by omega) (by omega) (by omega)
    obtain ⟨c,e,r⟩ := BDot hk9 (a := x) (b := y) (by unfold I64; omega) (by unfold I64; omega) (by unfold I64; omega) (by unfold I64; omega)
    exact ⟨by unfold dt; omega,by unfold cr; omega,c,e,r⟩
  obtain ⟨d1,_,c1,f1,g1⟩ := db b2 b1
  obtain ⟨d2,_,c2,f2,g2⟩ := db b3 b1
  obtain ⟨d3,_,c3,f3,g3⟩ := db b1 b1
  obtain ⟨_,d4,_⟩ := db b1 b2
  obtain ⟨d5,_⟩ := db b2 b2
  obtain ⟨d6,_⟩ := db b3 b3
  unfold r2_apart
  rw [rsub_eq k (Wn_Bw hr) (Wn_Bw hu),bnd_some,rsub_eq k (Wn_Bw hp) (Wn_Bw hu),bnd_some,f1,bnd_some,BCmp hk9 g1 BR_zero (by unfold SR; omega) (by unfold SR; omega),bnd_some,cmpI_np]
  have sqm : ∀ {x : V22},(-131072000 ≤ x.1 ∧ x.1 ≤ 131072000 ∧ -131072000 ≤ x.2.1 ∧ x.2.1 ≤ 131072000) → iadd .i64 (imul .i64 x.1 x.1) (imul .i64 x.2.1 x.2.1) = dt x x ∧ 0 ≤ dt x x := by
    intro x hx
    have p1 := mul_bd (x := x.1) (y := x.1) (M := 131072000) (N := 131072000) (by omega) (by omega) (by omega) (by omega)
    have p2 := mul_bd (x := x.2.1) (y := x.2.1) (M := 131072000) (N := 131072000) (by omega) (by omega) (by omega) (by omega)
    have n1 := sq_nn x.1
    have n2 := sq_nn x.2.1
    rw [imul_i64 (by omega) (by omega),imul_i64 (by omega) (by omega),iadd_i64 (by omega) (by omega)]
    exact ⟨rfl,by unfold dt; omega⟩
  have rbd : ∀ {n x : Int},Rt x n → x ≤ 34359738368000000 → n ≤ 1073741824 := by
    intro n x h hx
    have := sq_lt (a := n) (b := 1073741824) h.1 (by decide) (by have := h.2.1; omega)
    omega
  by_cases h1 : dt (sb p u) (sb r u) ≤ 0
  · rw [decide_eq_true h1,bif_true]
    obtain ⟨m1,m2⟩ := sqm b2
    rw [m1]
    obtain ⟨n,e,hn⟩ := RRoot_eq (k := k) (by omega) m2 (by omega)
    rw [e,bnd_some]
    refine ⟨n,rfl,hn.1,rbd hn (by omega),?_,fun g => ?_⟩
    · rw [E1 _ (by omega),dP]; exact hn.2.1
    · rw [E1 _ (by omega),dP] at g
      have := hn.2.2
      omega
  rw [decide_eq_false h1,bif_false,rsub_eq k (Wn_Bw hp) (Wn_Bw hr),bnd_some,f2,bnd_some,BCmp hk9 g2 BR_zero (by unfold SR; omega) (by unfold SR; omega),bnd_some,cmpI_nn]
  by_cases h2 : 0 ≤ dt (sb p r) (sb r u)
  · rw [decide_eq_true h2,bif_true]
    obtain ⟨m1,m2⟩ := sqm b3
    rw [m1]
    obtain ⟨n,e,hn⟩ := RRoot_eq (k := k) (by omega) m2 (by omega)
    rw [e,bnd_some]
    refine ⟨n,rfl,hn.1,rbd hn (by omega),?_,fun g => ?_⟩
    · rw [E2 _ (by omega),dR]; exact hn.2.1
    · rw [E2 _ (by omega),dR] at g
      have := hn.2.2
      omega
  rw [decide_eq_false h2,bif_false]
  obtain ⟨y,ey,ry⟩ := BCross hk9 (a := sb r u) (b := sb p u) (by unfold I64; omega) (by unfold I64; omega) (by unfold I64; omega) (by unfold I64; omega)
  have ry : BR y (cr (sb r u) (sb p u)) := ry
  have lag : dt (sb p u) (sb r u) * dt (sb p u) (sb r u) + cr (sb r u) (sb p u) * cr (sb r u) (sb p u) = dt (sb p u) (sb p u) * dt (sb r u) (sb r u) := by unfold dt cr; grind
  have S0 : 0 < dt (sb r u) (sb r u) := by omega
  obtain ⟨n,e,n0,n1,n2,n3⟩ := apart_c1 (k := k) hk9 ry g3 S0 (by omega) (by omega) (by omega) 29 k 0 (by omega) (by decide) (by decide) (by decide) (by
      have := sq_nn (cr (sb r u) (sb p u))
      simp only [Int.mul_zero,Int.zero_mul]
      exact this) (by
      have x1 := sq_nn (dt (sb p u) (sb r u))
      have x2 := Int.mul_le_mul_of_nonneg_right d5.2 (show 0 ≤ dt (sb r u) (sb r u) by omega)
      have e : ((0 : Int) + 2 ^ (29 + 1)) * (0 + 2 ^ (29 + 1)) = 1152921504606846976 := by decide
      rw [e]
      omega)
  rw [ey,bnd_some,f3,bnd_some]
  have e : r2_apart.c1 k y c3 k 0 536870912 = some n := e
  rw [e,bnd_some]
  refine ⟨n,rfl,n0,n1,?_,fun g => ?_⟩
  · rw [E3 _ (by omega) (by omega),cPR]; exact n2
  · rw [E3 _ (by omega) (by omega),cPR] at g
    omega
def BadP (a b : List V22) (s : Int) : Prop := s = 1099511627776 ∨ ¬ (Nr1 a b (s + 1) ∧ Nr1 b a (s + 1))
section
variable {k : Nat} {a b X Y : List V22} {v5 : Int}
theorem RApart_c3 (hk : 60 ≤ k) (hx : el ([] : List V22) (el (List.replicate 2 []) [[a,b],[b,a]] v5) 0 = X) (hy : el ([] : List V22) (el (List.replicate 2 []) [[a,b],[b,a]] v5) 1 = Y) (vX : Val X) (vY : Val Y)
    (hb : ∀ n,¬ Nr1 X Y n → ¬ (Nr1 a b n ∧ Nr1 b a n)) {i : Int} (i0 : 0 ≤ i) (i1 : i < len X) {s : Int} (s0 : 0 ≤ s) (sb0 : BadP a b s) :
    ∃ s',r2_Apart.c3 k a b v5 i k s 0 = some s' ∧ 0 ≤ s' ∧ s' ≤ s ∧ BadP a b s' ∧ ∀ j,0 ≤ j → j < len Y → NrS (sb (q Y j) (q X i)) (sb (q Y (nx (len Y) j)) (q X i)) s' := by
  have y3 := vY.1
  have y8 := vY.2.1
  obtain ⟨s',⟨t1,t2,t3,t4⟩,e⟩ := inv_loop (fun n s v => r2_Apart.c3 k a b v5 i n s v) 0 (len Y) (fun s' v => 0 ≤ s' ∧ s' ≤ s ∧ BadP a b s' ∧ ∀ j,0 ≤ j → j < v → NrS (sb (q Y j) (q X i)) (sb (q Y (nx (len Y) j)) (q X i)) s')
    (by
      intro n z v v0 v1 ⟨h1,h2,h3,h4⟩
      have hn := nx_range v0 v1
      obtain ⟨m,em,m0,m1,m2,m3⟩ := apart_eq hk (vX.2.2.1 i i0 i1) (vY.2.2.1 v v0 v1) (vY.2.2.1 _ hn.1 hn.2)
      refine ⟨imin z m,⟨?_,?_,?_,?_⟩,?_⟩
      · unfold imin; split <;> omega
      · unfold imin; split <;> omega
      · unfold imin
        split
        · exact Or.inr (hb _ fun g => m3 (g i v i0 i1 v0 v1))
        · exact h3
      · intro j j0 j1
        by_cases c : j = v
        · subst c; exact NrS_anti (by unfold imin; split <;> omega) (by unfold imin; split <;> omega) m2
        · exact NrS_anti (by unfold imin; split <;> omega) (by unfold imin; split <;> omega) (h4 j j0 (by omega))
      · show r2_Apart.c3 k a b v5 i (n + 1) z v = r2_Apart.c3 k a b v5 i n (imin z m) (v + 1)
        rw [r2_Apart.c3,hx,hy,ilt_pos v1,bif_true,req_pos (inL_of v0 v1),req_pos (show nz (len Y) by unfold nz; omega),irem_nx v0 v1 (by omega),req_pos (inL_of hn.1 hn.2)]
        show bnd (r2_apart k (q X i) (q Y v) (q Y (nx (len Y) v))) _ = _
        rw [em,bnd_some,iadd_i64 (by omega) (by omega)])
    (by
      intro n z v v0 v1
      show r2_Apart.c3 k a b v5 i (n + 1) z v = some z
      rw [r2_Apart.c3,hy,ilt_neg v1,bif_false])
    k s 0 (by omega) (by omega) (by omega) ⟨s0,Int.le_refl _,sb0,fun j a b => by omega⟩
  exact ⟨s',e,t1,t2,t3,t4⟩
theorem RApart_c2 (hk : 60 ≤ k) (hx : el ([] : List V22) (el (List.replicate 2 []) [[a,b],[b,a]] v5) 0 = X) (hy : el ([] : List V22) (el (List.replicate 2 []) [[a,b],[b,a]] v5) 1 = Y) (vX : Val X) (vY : Val Y)
    (hb : ∀ n,¬ Nr1 X Y n → ¬ (Nr1 a b n ∧ Nr1 b a n)) {s : Int} (s0 : 0 ≤ s) (sb0 : BadP a b s) :
    ∃ s',r2_Apart.c2 k a b v5 k s 0 = some s' ∧ 0 ≤ s' ∧ s' ≤ s ∧ BadP a b s' ∧ Nr1 X Y s' := by
  have x3 := vX.1
  have x8 := vX.2.1
  obtain ⟨s',⟨t1,t2,t3,t4⟩,e⟩ := inv_loop (fun n s v => r2_Apart.c2 k a b v5 n s v) 0 (len X) (fun s' v => 0 ≤ s' ∧ s' ≤ s ∧ BadP a b s' ∧ ∀ i j,0 ≤ i → i < v → 0 ≤ j → j < len Y → NrS (sb (q Y j) (q X i)) (sb (q Y (nx (len Y) j)) (q X i)) s')
    (by
      intro n z v v0 v1 ⟨h1,h2,h3,h4⟩
      obtain ⟨m,em,m0,m1,m2,m3⟩ := RApart_c3 hk hx hy vX vY hb v0 v1 h1 h3
      refine ⟨m,⟨m0,by omega,m2,?_⟩,?_⟩
      · intro i j i0 i1 j0 j1
        by_cases c : i = v
        · subst c; exact m3 j j0 j1
        · exact NrS_anti m0 m1 (h4 i j i0 (by omega) j0 j1)
      · show r2_Apart.c2 k a b v5 (n + 1) z v = r2_Apart.c2 k a b v5 n m (v + 1)
        rw [r2_Apart.c2,hx,ilt_pos v1,bif_true,req_pos (inL_of v0 v1),em,bnd_some,iadd_i64 (by omega) (by omega)])
    (by
      intro n z v v0 v1
      show r2_Apart.c2 k a b v5 (n + 1) z v = some z
      rw [r2_Apart.c2,hx,ilt_neg v1,bif_false])
    k s 0 (by omega) (by omega) (by omega) ⟨s0,Int.le_refl _,sb0,fun i j a b => by omega⟩
  exact ⟨s',e,t1,t2,t3,fun i j i0 i1 j0 j1 => t4 i j i0 i1 j0 j1⟩
theorem Nr1_anti {m n : Int} (m0 : 0 ≤ m) (h : m ≤ n) (g : Nr1 a b n) : Nr1 a b m := fun i j i0 i1 j0 j1 => NrS_anti m0 h (g i j i0 i1 j0 j1)
theorem RApart_c1 (hk : 60 ≤ k) (va : Val a) (vb : Val b) : ∃ s,r2_Apart.c1 k a b k 1099511627776 0 = some s ∧ 0 ≤ s ∧ Nr1 a b s ∧ Nr1 b a s ∧ ¬ (Nr1 a b (s + 1) ∧ Nr1 b a (s + 1)) := by
  obtain ⟨s1,e1,z1,_,b1,n1⟩ := RApart_c2 (v5 := 0) hk (X := a) (Y := b) rfl rfl va vb (fun n h g => h g.1) (s := 1099511627776) (by decide) (Or.inl rfl)
  obtain ⟨s2,e2,z2,l2,b2,n2⟩ := RApart_c2 (v5 := 1) hk (X := b) (Y := a) rfl rfl vb va (fun n h g => h g.2) z1 b1
  have hl : len [[a,b],[b,a]] = 2 := rfl
  have run : ∀ f : Nat,r2_Apart.c1 k a b (f + 3) 1099511627776 0 = some s2 := by
    intro f
    rw [r2_Apart.c1,hl,ilt_pos (by decide),bif_true,req_pos (inL_of (by decide) (by rw [hl]; decide)),e1,bnd_some,iadd_i64 (by decide) (by decide)]
    show r2_Apart.c1 k a b (f + 2) s1 1 = _
    rw [r2_Apart.c1,hl,ilt_pos (by decide),bif_true,req_pos (inL_of (by decide) (by rw [hl]; decide)),e2,bnd_some,iadd_i64 (by decide) (by decide)]
    show r2_Apart.c1 k a b (f + 1) s2 2 = _
    rw [r2_Apart.c1,hl,ilt_neg (by decide),bif_false]
  have r := run (k - 3)
  rw [show k - 3 + 3 = k by omega] at r
  refine ⟨s2,r,z2,Nr1_anti z2 l2 n1,n2,?_⟩
  rcases b2 with h | h
  · exfalso
    have a3 := va.1
    have b3 := vb.1
    have hn := nx_range (n := len b) (i := 0) (by decide) (by omega)
    obtain ⟨m,_,m0,m1,_,m3⟩ := apart_eq hk (va.2.2.1 0 (by decide) (by omega)) (vb.2.2.1 0 (by decide) (by omega)) (vb.2.2.1 _ hn.1 hn.2)
    refine m3 (NrS_anti (by omega) ?_ (Nr1_anti z2 l2 n1 0 0 (by decide) (by omega) (by decide) (by omega)))
    omega
  · exact h
end
theorem Minus_E {k : Nat} (hk : 20 ≤ k) {a b l : List V22} (ha : Val a) (hb : Val b) (h : near_Minus k a b = some (l,0)) : DifE a b l := by
  obtain ⟨a3,a8,wa,ea⟩ := ha
  obtain ⟨b3,b8,wb,eb⟩ := hb
  have lb : (negl b).length = b.length := by unfold negl; simp
  have ln := len_negl b
  obtain ⟨i0,e1,hi⟩ := lowest_eq (k := k) (by omega) ea a3 a8
  obtain ⟨k0,e2,hk0⟩ := lowest_eq (k := k) (by omega) (EdgeP_negl eb) (by omega) (by omega)
  have hA := rot_Cv ea a3 hi
  have hC := rot_Cv (EdgeP_negl eb) (by omega) hk0
  obtain ⟨T,P⟩ := path hA hC
  have hle := P.le
  have la : len a = (a.length : Int) := rfl
  have lbb : len b = (b.length : Int) := rfl
  have L := merge_loop (k := k) a8 wa (by omega) (AllW_negl wb) hi.1 hk0.1 P k 0 (Nat.zero_le _) (by omega)
  have wi := wa i0 (by omega) hi.1
  have wk := AllW_negl wb k0 (by omega) hk0.1
  have r1 : rot a i0 0 = q a i0 := by unfold rot; have := hi.1; rw [if_pos (by omega)]; congr 1
  have r2 : rot (negl b) k0 0 = q (negl b) k0 := by unfold rot; have := hk0.1; rw [if_pos (by omega)]; congr 1
  have hM : Mt a.length (negl b).length (rot a i0) (rot (negl b) k0) 0 = pl (q a i0) (q (negl b) k0) := by
    show pl (rot a i0 0) (rot (negl b) k0 0) = _
    rw [r1,r2]
  have E := dif_edges ea a3 eb b3 hi hk0 (by rw [← lb]; exact P)
  rw [← lb] at E
  have run : near_Minus k a b = some (lst T (Mt a.length (negl b).length (rot a i0) (rot (negl b) k0)),0) := by
    unfold near_Minus
    rw [Check_val (by omega) ⟨a3,a8,wa,ea⟩,bnd_some,ine_neg rfl,bif_false,Check_val (by omega) ⟨b3,b8,wb,eb⟩,bnd_some,ine_neg rfl,bif_false]
    rw [negl_eq (by omega) b8 wb,bnd_some,e1,bnd_some,e2,bnd_some,req_pos (inL_of (by omega) hi.1),req_pos (inL_of (by omega) hk0.1)]
    have x1 : iadd .i64 (el Z22 a i0).1 (el Z22 (negl b) k0).1 = (Mt a.length (negl b).length (rot a i0) (rot (negl b) k0) 0).1 := by
      rw [hM]
      unfold Wn at wi wk
      exact iadd_i64 (x := (q a i0).1) (y := (q (negl b) k0).1) (by omega) (by omega)
    have x2 : iadd .i64 (el Z22 a i0).2.1 (el Z22 (negl b) k0).2.1 = (Mt a.length (negl b).length (rot a i0) (rot (negl b) k0) 0).2.1 := by
      rw [hM]
      unfold Wn at wi wk
      exact iadd_i64 (x := (q a i0).2.1) (y := (q (negl b) k0).2.1) (by omega) (by omega)
    rw [x1,x2]
    have L : near_Minus.c2 k a (negl b) i0 k0 k 0 0 (Mt a.length (negl b).length (rot a i0) (rot (negl b) k0) 0).1 (Mt a.length (negl b).length (rot a i0) (rot (negl b) k0) 0).2.1 [] = _ := L
    rw [L,bnd_some]
  rw [run] at h
  cases h
  exact E
theorem zed_iff {a b l : List V22} (ha : Val a) (hb : Val b) (D : Dif a b l) : InP l zed ↔ MeetP a b := by
  rw [meet_iff ha.2.2.2 ha.1 hb.2.2.2 hb.1]
  constructor
  · intro z
    obtain ⟨X,Y,w,hw,h1,h2⟩ := common ha.2.2.2 hb.2.2.2 D z
    exact ⟨noSep_of hb.2.2.2 hb.1 hw h1 h2,noSep_of ha.2.2.2 ha.1 hw h2 h1⟩
  · intro ⟨n1,n2⟩
    exact D.zero n1 n2
end Go.Proofs.T1
