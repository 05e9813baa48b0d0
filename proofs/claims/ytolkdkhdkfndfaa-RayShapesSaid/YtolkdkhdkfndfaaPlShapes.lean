import Derived.Test.YtolkdkhdkfndfaaPlCasts
import Derived.Test.YtolkdkhdkfndfaaG11
namespace Go.Proofs.T1
open Go Go.Sx
theorem sq_nn (x : Int) : 0 ≤ x * x := by
  rcases Int.le_total 0 x with h | h
  · exact Int.mul_nonneg h h
  · exact Int.mul_nonneg_of_nonpos_of_nonpos h h
end Go.Proofs.T1
namespace Go.Proofs.T1
open Go Go.Sx
theorem HIn_fan {l : List V27} (h3 : 3 ≤ len l) (he : EdgeP l) {X Y w : Int} (hw : 0 < w) (h : HIn l X Y w) :
    ∃ x y z α β γ D,(0 ≤ x ∧ x < len l) ∧ (0 ≤ y ∧ y < len l) ∧ (0 ≤ z ∧ z < len l) ∧ 0 ≤ α ∧ 0 ≤ β ∧ 0 ≤ γ ∧ 0 < D ∧ D * w = α + β + γ ∧
      D * X = α * (q l x).1 + β * (q l y).1 + γ * (q l z).1 ∧ D * Y = α * (q l x).2.1 + β * (q l y).2.1 + γ * (q l z).2.1 := by
  have hi : InP (scl w l) (X,Y,()) := by
    intro i i0 i1
    rw [len_scl] at *
    have hn := nx_range i0 i1
    rw [q_scl w i0 i1,q_scl w hn.1 hn.2,tri_scl]
    exact Int.mul_nonneg (Int.le_of_lt hw) (h i i0 i1)
  obtain ⟨i,i2,i1,c1,c2,c3⟩ := In_Fan (by rw [len_scl]; exact h3) hi
  rw [len_scl] at i1
  have s0 := q_scl w (l := l) (i := 0) (by omega) (by omega)
  have s1 := q_scl w (l := l) (i := i - 1) (by omega) (by omega)
  have s2 := q_scl w (l := l) (i := i) (by omega) (by omega)
  rw [s0,s1,tri_scl] at c1
  rw [s1,s2,tri_scl] at c2
  rw [s2,s0,tri_scl] at c3
  have c1 := nn_of_mul hw c1
  have c2 := nn_of_mul hw c2
  have c3 := nn_of_mul hw c3
  have ht := Edge_Trip he 0 (i - 1) i (by omega) (by omega) (by omega) i1
  refine ⟨0,i - 1,i,hs (q l (i - 1)) (q l i) X Y w,hs (q l i) (q l 0) X Y w,hs (q l 0) (q l (i - 1)) X Y w,_,⟨by omega,by omega⟩,⟨by omega,by omega⟩,⟨by omega,by omega⟩,c2,c3,c1,ht,?_,?_,?_⟩
  · unfold tri hs; grind
  · unfold tri hs; grind
  · unfold tri hs; grind
end Go.Proofs.T1
namespace Go.Proofs.T1
open Go Go.Sx
theorem low_hull {l : List V27} (he : EdgeP l) (h3 : 3 ≤ len l) (hl : LowP l 0) {p : V27} (h : InP l p) : p = q l 0 ∨ Up (sb p (q l 0)) := by
  obtain ⟨x,y,z,α,β,γ,D,hx,hy,hz,a0,b0,c0,hD,e1,e2,e3⟩ := HIn_fan h3 he (by decide) (HIn_one.2 h)
  have lo : ∀ j,0 ≤ j → j < len l → 0 ≤ (q l j).2.1 - (q l 0).2.1 ∧ ((q l j).2.1 - (q l 0).2.1 = 0 → 0 ≤ (q l j).1 - (q l 0).1) := by
    intro j j0 j1
    by_cases c : j = 0
    · subst c; exact ⟨by omega,fun _ => by omega⟩
    · have := hl.2 j j0 j1 c
      unfold Up sb at this
      dsimp only at this
      have z : ((0 : Nat) : Int) = 0 := rfl
      rw [z] at this
      exact ⟨by omega,fun _ => by omega⟩
  have lx := lo x hx.1 hx.2
  have ly := lo y hy.1 hy.2
  have lz := lo z hz.1 hz.2
  rw [Int.mul_one] at e1
  have k1 : D * (p.1 - (q l 0).1) = α * ((q l x).1 - (q l 0).1) + β * ((q l y).1 - (q l 0).1) + γ * ((q l z).1 - (q l 0).1) := by
    rw [Int.mul_sub,e2,e1]; grind
  have k2 : D * (p.2.1 - (q l 0).2.1) = α * ((q l x).2.1 - (q l 0).2.1) + β * ((q l y).2.1 - (q l 0).2.1) + γ * ((q l z).2.1 - (q l 0).2.1) := by
    rw [Int.mul_sub,e3,e1]; grind
  generalize (q l x).1 - (q l 0).1 = x1 at *
  generalize (q l x).2.1 - (q l 0).2.1 = x2 at *
  generalize (q l y).1 - (q l 0).1 = y1 at *
  generalize (q l y).2.1 - (q l 0).2.1 = y2 at *
  generalize (q l z).1 - (q l 0).1 = z1 at *
  generalize (q l z).2.1 - (q l 0).2.1 = z2 at *
  have m1 := Int.mul_nonneg a0 lx.1
  have m2 := Int.mul_nonneg b0 ly.1
  have m3 := Int.mul_nonneg c0 lz.1
  have part : ∀ {s u v : Int},0 ≤ s → 0 ≤ v → (v = 0 → 0 ≤ u) → s * v = 0 → 0 ≤ s * u := by
    intro s u v s0 v0 hu h
    rcases Int.mul_eq_zero.1 h with g | g
    · rw [g]; simp
    · exact Int.mul_nonneg s0 (hu g)
  have hy : 0 ≤ D * (p.2.1 - (q l 0).2.1) := by omega
  have hy := nn_of_mul hD hy
  by_cases c : p.2.1 - (q l 0).2.1 = 0
  · rw [c,Int.mul_zero] at k2
    have n1 := part a0 lx.1 lx.2 (by omega)
    have n2 := part b0 ly.1 ly.2 (by omega)
    have n3 := part c0 lz.1 lz.2 (by omega)
    have hx := nn_of_mul hD (show 0 ≤ D * (p.1 - (q l 0).1) by omega)
    by_cases d : p.1 - (q l 0).1 = 0
    · exact Or.inl (v_ext (by omega) (by omega))
    · exact Or.inr (by unfold Up sb; dsimp only; omega)
  · exact Or.inr (by unfold Up sb; dsimp only; omega)
theorem on_le {l : List V27} (he : EdgeP l) (h3 : 3 ≤ len l) {k : Int} (k0 : 0 ≤ k) (k1 : k < len l) {p : V27} (h : InP l p) (z : tri (q l k) (q l (nx (len l) k)) p = 0) :
    p = q l (nx (len l) k) ∨ dt (sb p (q l k)) (sb p (q l k)) < dt (sb (q l (nx (len l) k)) (q l k)) (sb (q l (nx (len l) k)) (q l k)) := by
  have ne := edge_ne he h3 k0 k1
  obtain ⟨α,β,D,h1,h2,h3,e1,e2,e3⟩ := on_edge he h3 k0 k1 (HIn_one.2 h) (by rw [hs_one]; exact z)
  generalize q l k = u at *
  generalize q l (nx (len l) k) = v at *
  rw [Int.mul_one] at e1
  subst e1
  have k1 : (α + β) * (p.1 - u.1) = β * (v.1 - u.1) := by rw [Int.mul_sub,e2]; grind
  have k2 : (α + β) * (p.2.1 - u.2.1) = β * (v.2.1 - u.2.1) := by rw [Int.mul_sub,e3]; grind
  by_cases c : α = 0
  · subst c
    rw [Int.zero_add] at k1 k2 h3
    have a1 := Int.eq_of_mul_eq_mul_left (show β ≠ 0 by omega) k1
    have a2 := Int.eq_of_mul_eq_mul_left (show β ≠ 0 by omega) k2
    exact Or.inl (v_ext (by omega) (by omega))
  · right
    have S : 0 < dt (sb v u) (sb v u) := sq_pos (ne_part ne)
    have e : (α + β) * (α + β) * dt (sb p u) (sb p u) = β * β * dt (sb v u) (sb v u) := by
      have : (α + β) * (α + β) * dt (sb p u) (sb p u) = ((α + β) * (p.1 - u.1)) * ((α + β) * (p.1 - u.1)) + ((α + β) * (p.2.1 - u.2.1)) * ((α + β) * (p.2.1 - u.2.1)) := by unfold dt sb; grind
      rw [this,k1,k2]
      unfold dt sb
      grind
    have lt : β * β < (α + β) * (α + β) := by
      have x1 := Int.mul_pos (show 0 < α by omega) (show 0 < α + β by omega)
      have x2 := Int.mul_nonneg h1 h2
      have : (α + β) * (α + β) = α * (α + β) + α * β + β * β := by grind
      omega
    have x3 := Int.mul_lt_mul_of_pos_right lt S
    rw [← e] at x3
    exact Int.lt_of_mul_lt_mul_left x3 (sq_nn _)
end Go.Proofs.T1
namespace Go.Proofs.T1
open Go Go.Sx
def Bw (v : V27) : Prop := -200000000 ≤ v.1 ∧ v.1 ≤ 200000000 ∧ -200000000 ≤ v.2.1 ∧ v.2.1 ≤ 200000000
theorem rsub_eq (k : Nat) {a b : V27} (ha : Bw a) (hb : Bw b) : r2_sub k a b = some (sb a b) := by
  unfold Bw at ha hb
  unfold r2_sub
  rw [isub_i64 (by omega) (by omega),isub_i64 (by omega) (by omega)]
  rfl
theorem left2_eq {k : Nat} (hk : 9 ≤ k) {a b p : V27} (ha : Bw a) (hb : Bw b) (hp : Bw p) : r2_left k a b p = some (cmpI (tri a b p) 0) := by
  have e1 := rsub_eq k hb ha
  have e2 := rsub_eq k hp ha
  unfold Bw at *
  obtain ⟨c,e3,r⟩ := BCross hk (a := sb b a) (b := sb p a) (by unfold I64 sb; dsimp only; omega) (by unfold I64 sb; dsimp only; omega) (by unfold I64 sb; dsimp only; omega) (by unfold I64 sb; dsimp only; omega)
  have p1 := mul_bd (x := b.1 - a.1) (y := p.2.1 - a.2.1) (M := 400000000) (N := 400000000) (by omega) (by omega) (by omega) (by omega)
  have p2 := mul_bd (x := b.2.1 - a.2.1) (y := p.1 - a.1) (M := 400000000) (N := 400000000) (by omega) (by omega) (by omega) (by omega)
  have ht : -320000000000000000 ≤ tri a b p ∧ tri a b p ≤ 320000000000000000 := by unfold tri; omega
  unfold r2_left
  have et : (sb b a).1 * (sb p a).2.1 - (sb b a).2.1 * (sb p a).1 = tri a b p := rfl
  rw [et] at r
  rw [e1,bnd_some,e2,bnd_some,e3,bnd_some,BCmp hk r BR_zero (by unfold SR; omega) (by unfold SR; omega),bnd_some]
theorem sq_dot {k : Nat} (hk : 9 ≤ k) {a b : V27} (ha : Bw a) (hb : Bw b) : ∃ c,r2_Dot k (sb a b) (sb a b) = some c ∧ BR c (dt (sb a b) (sb a b)) ∧ SR (dt (sb a b) (sb a b)) := by
  unfold Bw at *
  obtain ⟨c,e3,r⟩ := BDot hk (a := sb a b) (b := sb a b) (by unfold I64 sb; dsimp only; omega) (by unfold I64 sb; dsimp only; omega) (by unfold I64 sb; dsimp only; omega) (by unfold I64 sb; dsimp only; omega)
  have p1 := mul_bd (x := a.1 - b.1) (y := a.1 - b.1) (M := 400000000) (N := 400000000) (by omega) (by omega) (by omega) (by omega)
  have p2 := mul_bd (x := a.2.1 - b.2.1) (y := a.2.1 - b.2.1) (M := 400000000) (N := 400000000) (by omega) (by omega) (by omega) (by omega)
  exact ⟨c,e3,r,by unfold SR dt sb; dsimp only; omega⟩
theorem Up_asymm {u v : V27} (h : Up (sb u v)) : ¬ Up (sb v u) := by unfold Up sb at *; dsimp only at *; omega
theorem Wrap_c2 (k : Nat) {l : List V27} {v : Int} (s : V27) : ∃ b : Bool,r2_Wrap.c2 k l v s = some b ∧ (b = true ↔ Up (sb s (q l v))) := by
  unfold r2_Wrap.c2
  show ∃ b : Bool,bif' (ilt (q l v).2.1 s.2.1) (some true) (bif' (ieq (q l v).2.1 s.2.1) (some (ilt (q l v).1 s.1)) (some false)) = some b ∧ _
  unfold Up sb
  dsimp only
  rcases Int.lt_trichotomy (q l v).2.1 s.2.1 with c | c | c
  · rw [ilt_pos c,bif_true]
    exact ⟨true,rfl,fun _ => by omega,fun _ => rfl⟩
  · rw [ilt_neg (by omega),bif_false,ieq_pos c,bif_true]
    refine ⟨_,rfl,?_⟩
    unfold ilt
    rw [decide_eq_true_iff]
    omega
  · rw [ilt_neg (by omega),bif_false,ieq_neg (by omega),bif_false]
    exact ⟨false,rfl,fun h => (by cases h),fun h => (by omega)⟩
section
variable {k : Nat} {L H : List V27}
theorem Wrap_first (hk : 130 ≤ k) (he : EdgeP H) (h3 : 3 ≤ len H) (hlow : LowP H 0) (hl : len L ≤ 100) (hin : ∀ x,0 ≤ x → x < len L → InP H (q L x)) {x0 : Int} (x00 : 0 ≤ x0) (x01 : x0 < len L) (hx : q L x0 = q H 0) :
    r2_Wrap.c1 k L k 0 (q L 0) = some (q H 0) := by
  obtain ⟨s,⟨_,b⟩,e⟩ := inv_loop (fun n s v => r2_Wrap.c1 k L n v s) 0 (len L) (fun s v => InP H s ∧ (x0 < v → s = q H 0))
    (by
      intro n s v v0 v1 ⟨h1,h2⟩
      obtain ⟨b,e,hb⟩ := Wrap_c2 k (l := L) (v := v) s
      have hv := hin v v0 v1
      refine ⟨if b then q L v else s,⟨?_,fun hlt => ?_⟩,?_⟩
      · cases b with
        | true => exact hv
        | false => exact h1
      · by_cases c : v = x0
        · rw [c] at hb ⊢
          rw [hx] at hb ⊢
          cases b with
          | true => rfl
          | false =>
            show s = q H 0
            rcases low_hull he h3 hlow h1 with g | g
            · exact g
            · exact absurd (hb.2 g) (by decide)
        · have s0 := h2 (by omega)
          cases b with
          | true =>
            show q L v = q H 0
            have g := hb.1 rfl
            rw [s0] at g
            rcases low_hull he h3 hlow hv with f | f
            · exact f
            · exact absurd g (Up_asymm f)
          | false => exact s0
      · show r2_Wrap.c1 k L (n + 1) v s = r2_Wrap.c1 k L n (v + 1) (if b then q L v else s)
        rw [r2_Wrap.c1,ilt_pos v1,bif_true,req_pos (inL_of v0 v1),e,bnd_some,iadd_i64 (by omega) (by omega)]
        cases b <;> rfl)
    (by
      intro n s v a b
      show r2_Wrap.c1 k L (n + 1) v s = some s
      rw [r2_Wrap.c1,ilt_neg b,bif_false])
    k (q L 0) 0 (by omega) (by omega) (by omega) ⟨hin 0 (by omega) (by omega),fun h => by omega⟩
  have e : r2_Wrap.c1 k L k 0 (q L 0) = some s := e
  rw [e,b x01]
theorem Wrap_step (hk : 130 ≤ k) {out : List V27} {a s p : V27} (ho : el Z27 out (isub .i64 (len out) 1) = a) {v : Int} (hp : q L v = p) (ba : Bw a) (bs : Bw s) (bp : Bw p) :
    ∃ o b,r2_Wrap.c5 k L out v s = some o ∧ r2_Wrap.c6 k L o out v s = some b ∧ (b = true ↔ (s = a ∨ tri a s p < 0 ∨ (tri a s p = 0 ∧ dt (sb s a) (sb s a) < dt (sb p a) (sb p a)))) := by
  have hp' : el Z27 L v = p := hp
  unfold r2_Wrap.c5
  rw [ho,hp']
  by_cases c : s = a
  · refine ⟨0,true,?_,?_,fun _ => Or.inl c,fun _ => rfl⟩
    · refine (congrArg (fun b => bif' b _ _) ((eqb24 s (el Z27 out (isub .i64 (len out) 1))).trans (decide_eq_true (c.trans ho.symm)))).trans ?_
      rw [bif_true]
    · unfold r2_Wrap.c6
      rw [ho]
      refine (congrArg (fun b => bif' b _ _) ((eqb24 s (el Z27 out (isub .i64 (len out) 1))).trans (decide_eq_true (c.trans ho.symm)))).trans ?_
      rw [bif_true]
  · have e5 : r2_left k a s p = some (cmpI (tri a s p) 0) := left2_eq (by omega) ba bs bp
    obtain ⟨x,ex,rx,sx⟩ := sq_dot (k := k) (by omega) bp ba
    obtain ⟨y,ey,ry,sy⟩ := sq_dot (k := k) (by omega) bs ba
    refine ⟨cmpI (tri a s p) 0,decide (tri a s p < 0 ∨ (tri a s p = 0 ∧ dt (sb s a) (sb s a) < dt (sb p a) (sb p a))),?_,?_,?_⟩
    · refine (congrArg (fun b => bif' b _ _) ((eqb24 s (el Z27 out (isub .i64 (len out) 1))).trans (decide_eq_false (fun g => c (g.trans ho))))).trans ?_
      rw [bif_false,e5,bnd_some]
    · unfold r2_Wrap.c6
      rw [ho,hp']
      refine (congrArg (fun b => bif' b _ _) ((eqb24 s (el Z27 out (isub .i64 (len out) 1))).trans (decide_eq_false (fun g => c (g.trans ho))))).trans ?_
      rw [bif_false]
      rcases Int.lt_trichotomy (tri a s p) 0 with g | g | g
      · rw [cmpI_lt g,ilt_pos (by decide),bif_true,decide_eq_true (Or.inl g)]
      · rw [cmpI_eq g,ilt_neg (by decide),bif_false,ieq_pos rfl,bif_true,rsub_eq k bp ba,bnd_some,bnd_some,ex,bnd_some,rsub_eq k bs ba,bnd_some,bnd_some,ey,bnd_some,BCmp (by omega) rx ry sx sy,bnd_some]
        congr 1
        unfold igt cmpI
        refine decide_eq_decide.2 ?_
        split
        · exact ⟨fun h => absurd h (by decide),fun h => by omega⟩
        · split
          · exact ⟨fun h => absurd h (by decide),fun h => by omega⟩
          · exact ⟨fun _ => Or.inr ⟨g,by omega⟩,fun _ => by decide⟩
      · rw [cmpI_gt g,ilt_neg (by decide),bif_false,ieq_neg (by decide),bif_false,decide_eq_false (by omega)]
    · rw [decide_eq_true_iff]
      exact ⟨Or.inr,fun h => h.resolve_left c⟩
theorem Wrap_next (hk : 130 ≤ k) (he : EdgeP H) (h3 : 3 ≤ len H) (hl : len L ≤ 100) (hin : ∀ x,0 ≤ x → x < len L → InP H (q L x)) (bw : ∀ x,0 ≤ x → x < len L → Bw (q L x)) (bh : ∀ x,0 ≤ x → x < len H → Bw (q H x))
    {t : Int} (t0 : 0 ≤ t) (t1 : t < len H) {out : List V27} (ho : el Z27 out (isub .i64 (len out) 1) = q H t) {x0 : Int} (x00 : 0 ≤ x0) (x01 : x0 < len L) (hx : q L x0 = q H (nx (len H) t)) :
    r2_Wrap.c4 k L out k 0 (q H t) = some (q H (nx (len H) t)) := by
  have hn := nx_range t0 t1
  have ne := edge_ne he h3 t0 t1
  obtain ⟨s,⟨_,_,b⟩,e⟩ := inv_loop (fun n s v => r2_Wrap.c4 k L out n v s) 0 (len L) (fun s v => InP H s ∧ Bw s ∧ (x0 < v → s = q H (nx (len H) t)))
    (by
      intro n s v v0 v1 ⟨h1,h1',h2⟩
      have hv := hin v v0 v1
      have wv := bw v v0 v1
      show ∃ s',_ ∧ r2_Wrap.c4 k L out (n + 1) v s = r2_Wrap.c4 k L out n (v + 1) s'
      rw [r2_Wrap.c4,ilt_pos v1,bif_true,req_pos (inL_of v0 v1),iadd_i64 (by omega) (by omega)]
      by_cases c : q L v = q H t
      · refine ⟨s,⟨h1,h1',fun g => ?_⟩,?_⟩
        · by_cases d : v = x0
          · rw [d,hx] at c
            exact absurd c.symm ne
          · exact h2 (by omega)
        · refine (congrArg (fun b => bif' b _ _) ((eqb24 (q L v) (el Z27 out (isub .i64 (len out) 1))).trans (decide_eq_true (c.trans ho.symm)))).trans ?_
          rw [bif_true]
      · obtain ⟨o,b,e5,e6,hb⟩ := Wrap_step hk ho (v := v) (p := q L v) rfl (bh t t0 t1) h1' wv
        refine ⟨if b then q L v else s,⟨?_,?_,fun g => ?_⟩,?_⟩
        · cases b with
          | true => exact hv
          | false => exact h1
        · cases b with
          | true => exact wv
          | false => exact h1'
        · by_cases d : v = x0
          · have pB : q L v = q H (nx (len H) t) := by rw [d]; exact hx
            rw [pB] at hb ⊢
            cases b with
            | true => rfl
            | false =>
              show s = _
              have nb : ¬ (s = q H t ∨ tri (q H t) s (q H (nx (len H) t)) < 0 ∨ (tri (q H t) s (q H (nx (len H) t)) = 0 ∧ dt (sb s (q H t)) (sb s (q H t)) < dt (sb (q H (nx (len H) t)) (q H t)) (sb (q H (nx (len H) t)) (q H t)))) := fun g => absurd (hb.2 g) (by decide)
              have k1 := h1 t t0 t1
              have k2 : tri (q H t) s (q H (nx (len H) t)) = - tri (q H t) (q H (nx (len H) t)) s := by unfold tri; grind
              have k3 : tri (q H t) (q H (nx (len H) t)) s = 0 := by
                have : ¬ tri (q H t) s (q H (nx (len H) t)) < 0 := fun g => nb (Or.inr (Or.inl g))
                omega
              rcases on_le he h3 t0 t1 h1 k3 with f | f
              · exact f
              · exact absurd (Or.inr (Or.inr ⟨by omega,f⟩)) nb
          · have sB := h2 (by omega)
            rw [sB] at hb ⊢
            cases b with
            | false => rfl
            | true =>
              show q L v = _
              have k1 := hv t t0 t1
              rcases hb.1 rfl with f | f | ⟨f,f'⟩
              · exact absurd f.symm ne
              · omega
              · rcases on_le he h3 t0 t1 hv f with r | r
                · exact r
                · omega
        · refine (congrArg (fun b => bif' b _ _) ((eqb24 (q L v) (el Z27 out (isub .i64 (len out) 1))).trans (decide_eq_false (fun g => c (g.trans ho))))).trans ?_
          rw [bif_false,e5,bnd_some,e6,bnd_some]
          cases b <;> rfl)
    (by
      intro n s v a b
      show r2_Wrap.c4 k L out (n + 1) v s = some s
      rw [r2_Wrap.c4,ilt_neg b,bif_false])
    k (q H t) 0 (by omega) (by omega) (by omega) ⟨InP_self he t0 t1,bh t t0 t1,fun h => by omega⟩
  have e : r2_Wrap.c4 k L out k 0 (q H t) = some s := e
  rw [e,b x01]
theorem take_succ_q {l : List V27} {t : Nat} (h : t < l.length) : l.take (t + 1) = l.take t ++ [q l t] := by
  rw [List.take_succ_eq_append_getElem h]
  congr 2
  show l[t] = l.getD t Z27
  rw [List.getD_eq_getElem?_getD,List.getElem?_eq_getElem h]
  rfl
theorem last_take {l : List V27} {t : Nat} (h : t < l.length) (h1 : l.length ≤ 1000) : el Z27 (l.take (t + 1)) (isub .i64 (len (l.take (t + 1))) 1) = q l t := by
  have e : len (l.take (t + 1)) = (t : Int) + 1 := by unfold len; rw [List.length_take]; omega
  rw [e,isub_i64 (by omega) (by omega),show (t : Int) + 1 - 1 = (t : Int) by omega]
  show (l.take (t + 1)).getD t Z27 = l.getD t Z27
  rw [List.getD_eq_getElem?_getD,List.getD_eq_getElem?_getD,List.getElem?_take_of_lt (by omega)]
theorem Wrap_eq (hk : 130 ≤ k) (he : EdgeP H) (h3 : 3 ≤ len H) (hlow : LowP H 0) (hl : len L ≤ 100) (hHL : len H ≤ len L) (hin : ∀ x,0 ≤ x → x < len L → InP H (q L x)) (bw : ∀ x,0 ≤ x → x < len L → Bw (q L x))
    (hc : ∀ t,0 ≤ t → t < len H → ∃ x,0 ≤ x ∧ x < len L ∧ q L x = q H t) : r2_Wrap k L = some H := by
  have bh : ∀ x,0 ≤ x → x < len H → Bw (q H x) := by
    intro t t0 t1
    obtain ⟨x,x0,x1,e⟩ := hc t t0 t1
    rw [← e]; exact bw x x0 x1
  have lH : len H = (H.length : Int) := rfl
  have main : ∀ (n t : Nat),t < H.length → H.length - t ≤ n → r2_Wrap.c3 k L (q H 0) n (H.take (t + 1)) = some H := by
    intro n
    induction n with
    | zero => intro t h g; omega
    | succ n ih =>
      intro t ht hn
      have lt : len (H.take (t + 1)) = (t : Int) + 1 := by unfold len; rw [List.length_take]; omega
      have ho := last_take ht (by omega)
      obtain ⟨x,x0,x1,hx⟩ := hc (nx (len H) t) (nx_range (by omega) (by omega)).1 (nx_range (by omega) (by omega)).2
      have N := Wrap_next hk he h3 hl hin bw bh (t := (t : Int)) (by omega) (by omega) ho x0 x1 hx
      rw [r2_Wrap.c3,lt,ile_pos (by omega),bif_true,isub_i64 (by omega) (by omega),show (t : Int) + 1 - 1 = (t : Int) by omega,req_pos (inL_of (by omega) (by omega))]
      have ho2 : el Z27 (H.take (t + 1)) (t : Int) = q H t := by
        rw [← ho,lt,isub_i64 (by omega) (by omega),show (t : Int) + 1 - 1 = (t : Int) by omega]
      rw [ho2,N,bnd_some]
      unfold r2_Wrap.c7
      by_cases c : t + 1 = H.length
      · have e : nx (len H) (t : Int) = 0 := by unfold nx; rw [if_pos (by omega)]
        rw [e]
        refine (congrArg (fun b => bnd b _) ((congrArg (fun b => bif' b (some true) (some (Ty.eqb T27 (q H 0) (el Z27 (H.take (t + 1)) (isub .i64 (len (H.take (t + 1))) 1))))) ((eqb24 (q H 0) (q H 0)).trans (decide_eq_true rfl))).trans (bif_true _ _))).trans ?_
        rw [bnd_some,bif_true,c,List.take_length]
      · have e : nx (len H) (t : Int) = ((t + 1 : Nat) : Int) := by unfold nx; rw [if_neg (by omega)]; rfl
        have n1 : ¬ q H ((t + 1 : Nat) : Int) = q H 0 := EdgeP_ne he h3 (by omega) (by omega) (by omega) (by omega) (by omega)
        have n2 : ¬ q H ((t + 1 : Nat) : Int) = q H t := EdgeP_ne he h3 (by omega) (by omega) (by omega) (by omega) (by omega)
        rw [e]
        refine (congrArg (fun b => bnd b _) ((congrArg (fun b => bif' b (some true) (some (Ty.eqb T27 (q H ((t + 1 : Nat) : Int)) (el Z27 (H.take (t + 1)) (isub .i64 (len (H.take (t + 1))) 1))))) ((eqb24 (q H ((t + 1 : Nat) : Int)) (q H 0)).trans (decide_eq_false n1))).trans ((bif_false _ _).trans (congrArg some ((eqb24 (q H ((t + 1 : Nat) : Int)) (el Z27 (H.take (t + 1)) (isub .i64 (len (H.take (t + 1))) 1))).trans (decide_eq_false (fun g => n2 (g.trans ho)))))))).trans ?_
        rw [bnd_some,bif_false,req_pos (show room 16 (H.take (t + 1)) [q H ((t + 1 : Nat) : Int)] by
          show ((H.take (t + 1)).length + 1) * 16 ≤ 140737488355328
          rw [List.length_take]; omega),← take_succ_q (by omega)]
        exact ih (t + 1) (by omega) (by omega)
  obtain ⟨x0,x00,x01,hx⟩ := hc 0 (by omega) (by omega)
  unfold r2_Wrap
  rw [ieq_neg (by omega),bif_false,req_pos (inL_of (by omega) (by omega))]
  show bnd (r2_Wrap.c1 k L k 0 (q L 0)) _ = _
  rw [Wrap_first hk he h3 hlow hl hin x00 x01 hx,bnd_some]
  have e1 : [q H 0] = H.take (0 + 1) := by rw [take_succ_q (by omega)]; rfl
  rw [e1,main k 0 (by omega) (by omega),bnd_some]
end
theorem Minus_c2 {k : Nat} {a b : List V27} {i : Int} (hb : ∀ j,0 ≤ j → j < len b → Wn (q b j)) (ha : Wn (q a i)) (b8 : len b ≤ 8) : ∀ (n : Nat) (v : Nat) (out : List V27),v ≤ b.length → b.length - v < n → out.length + (b.length - v) ≤ 1000 →
    r2_Minus.c2 k a b i n v out = some (out ++ (b.drop v).map fun p => sb (q a i) p) := by
  have lb : len b = (b.length : Int) := rfl
  intro n
  induction n with
  | zero => intro v out h1 h2 h3; omega
  | succ n ih =>
    intro v out h1 h2 h3
    rw [r2_Minus.c2]
    by_cases c : v < b.length
    · have w := hb v (by omega) (by omega)
      have es : r2_sub k (el Z27 a i) (el Z27 b v) = some (sb (q a i) (q b v)) := by
        show r2_sub k (q a i) (q b v) = _
        exact rsub_eq k (by unfold Wn at ha; unfold Bw; omega) (by unfold Wn at w; unfold Bw; omega)
      rw [ilt_pos (by omega),bif_true,req_pos (inL_of (by omega) (by omega)),es,bnd_some,req_pos (show room 16 out [sb (q a i) (q b v)] by show (out.length + 1) * 16 ≤ 140737488355328; omega),iadd_i64 (by omega) (by omega)]
      have e := ih (v + 1) (out ++ [sb (q a i) (q b v)]) (by omega) (by omega) (by rw [List.length_append]; show out.length + 1 + _ ≤ _; omega)
      refine Eq.trans e ?_
      have d : b.drop v = q b v :: b.drop (v + 1) := by
        rw [List.drop_eq_getElem_cons c]
        congr 1
        show b[v] = b.getD v Z27
        rw [List.getD_eq_getElem?_getD,List.getElem?_eq_getElem c]
        rfl
      rw [d,List.map_cons,List.append_assoc]
      rfl
    · rw [ilt_neg (by omega),bif_false,List.drop_eq_nil_of_le (by omega)]
      simp
theorem Minus_c1 {k : Nat} (hk : 20 ≤ k) {a b : List V27} (hb : AllW b) (ha : AllW a) (a8 : len a ≤ 8) (b8 : len b ≤ 8) : ∀ (n : Nat) (v : Nat) (out : List V27),v ≤ a.length → a.length - v < n → out.length ≤ 8 * v →
    r2_Minus.c1 k a b n v out = some (out ++ (a.drop v).flatMap fun p => b.map fun r => sb p r) := by
  have la : len a = (a.length : Int) := rfl
  have lb : len b = (b.length : Int) := rfl
  intro n
  induction n with
  | zero => intro v out h1 h2 h3; omega
  | succ n ih =>
    intro v out h1 h2 h3
    rw [r2_Minus.c1]
    by_cases c : v < a.length
    · have w := ha v (by omega) (by omega)
      have e2 := Minus_c2 (k := k) (a := a) (i := (v : Int)) hb w b8 k 0 out (by omega) (by omega) (by omega)
      have e2 : r2_Minus.c2 k a b (v : Int) k 0 out = _ := e2
      rw [ilt_pos (by omega),bif_true,req_pos (inL_of (by omega) (by omega)),e2,bnd_some,iadd_i64 (by omega) (by omega),List.drop_zero]
      have e := ih (v + 1) (out ++ b.map fun p => sb (q a v) p) (by omega) (by omega) (by rw [List.length_append,List.length_map]; omega)
      refine Eq.trans e ?_
      have d : a.drop v = q a v :: a.drop (v + 1) := by
        rw [List.drop_eq_getElem_cons c]
        congr 1
        show a[v] = a.getD v Z27
        rw [List.getD_eq_getElem?_getD,List.getElem?_eq_getElem c]
        rfl
      rw [d,List.flatMap_cons,List.append_assoc]
    · rw [ilt_neg (by omega),bif_false,List.drop_eq_nil_of_le (by omega)]
      simp
def difs (a b : List V27) : List V27 := a.flatMap fun p => b.map fun r => sb p r
theorem len_difs (a b : List V27) : (difs a b).length = a.length * b.length := by
  unfold difs
  induction a with
  | nil => simp
  | cons x a ih => rw [List.flatMap_cons,List.length_append,ih,List.length_map,List.length_cons,Nat.succ_mul,Nat.add_comm]
theorem q_mem {l : List V27} {i : Int} (h0 : 0 ≤ i) (h1 : i < len l) : q l i ∈ l := by
  obtain ⟨i,rfl⟩ := Int.eq_ofNat_of_zero_le h0
  have hi : i < l.length := by unfold len at h1; omega
  show l.getD i Z27 ∈ l
  rw [List.getD_eq_getElem?_getD,List.getElem?_eq_getElem hi]
  exact List.getElem_mem hi
theorem mem_q {l : List V27} {x : V27} (h : x ∈ l) : ∃ i,0 ≤ i ∧ i < len l ∧ q l i = x := by
  obtain ⟨i,hi,e⟩ := List.mem_iff_getElem.1 h
  refine ⟨i,by omega,by unfold len; omega,?_⟩
  show l.getD i Z27 = x
  rw [List.getD_eq_getElem?_getD,List.getElem?_eq_getElem hi,← e]
  rfl
theorem mem_difs {a b : List V27} {x : V27} : x ∈ difs a b ↔ ∃ i j,(0 ≤ i ∧ i < len a) ∧ (0 ≤ j ∧ j < len b) ∧ x = sb (q a i) (q b j) := by
  unfold difs
  rw [List.mem_flatMap]
  constructor
  · intro ⟨p,hp,h⟩
    obtain ⟨r,hr,e⟩ := List.mem_map.1 h
    obtain ⟨i,i0,i1,e1⟩ := mem_q hp
    obtain ⟨j,j0,j1,e2⟩ := mem_q hr
    exact ⟨i,j,⟨i0,i1⟩,⟨j0,j1⟩,by rw [e1,e2]; exact e.symm⟩
  · intro ⟨i,j,hi,hj,e⟩
    exact ⟨q a i,q_mem hi.1 hi.2,List.mem_map.2 ⟨q b j,q_mem hj.1 hj.2,e.symm⟩⟩
theorem RMinus_eq {k : Nat} (hk : 130 ≤ k) {a b l : List V27} (ha : Val a) (hb : Val b) (D : Dif a b l) (hl : LowP l 0) : r2_Minus k a b = some l := by
  obtain ⟨a3,a8,wa,ea⟩ := ha
  obtain ⟨b3,b8,wb,eb⟩ := hb
  have la : len a = (a.length : Int) := rfl
  have lb : len b = (b.length : Int) := rfl
  have c1 := Minus_c1 (k := k) (by omega) wb wa a8 b8 k 0 [] (by omega) (by omega) (by simp)
  have c1 : r2_Minus.c1 k a b k 0 [] = some (difs a b) := c1
  have ln : len (difs a b) = len a * len b := by
    show ((difs a b).length : Int) = _
    rw [len_difs,la,lb]
    exact Int.natCast_mul _ _
  have m1 := mul_bd (x := len a) (y := len b) (M := 8) (N := 8) (by omega) (by omega) (by omega) (by omega)
  have m2 : len a + len b ≤ len a * len b := by
    have := Int.mul_nonneg (show 0 ≤ len a - 1 by omega) (show 0 ≤ len b - 2 by omega)
    have e : (len a - 1) * (len b - 2) = len a * len b - 2 * len a - len b + 2 := by grind
    omega
  have W := Wrap_eq (k := k) (L := difs a b) (H := l) hk D.edge D.len3 hl (by omega) (by have := D.le; omega)
    (by
      intro x x0 x1
      obtain ⟨i,j,hi,hj,e⟩ := mem_difs.1 (q_mem x0 x1)
      rw [e]
      exact fun t t0 t1 => D.all t i j t0 t1 hi.1 hi.2 hj.1 hj.2)
    (by
      intro x x0 x1
      obtain ⟨i,j,hi,hj,e⟩ := mem_difs.1 (q_mem x0 x1)
      rw [e]
      have w1 := wa i hi.1 hi.2
      have w2 := wb j hj.1 hj.2
      unfold Wn at w1 w2
      unfold Bw sb
      dsimp only
      omega)
    (by
      intro t t0 t1
      obtain ⟨i,j,hi,hj,e⟩ := D.dif t t0 t1
      exact mem_q (mem_difs.2 ⟨i,j,hi,hj,e⟩))
  unfold r2_Minus
  rw [c1,bnd_some,W,bnd_some]
end Go.Proofs.T1
namespace Go.Proofs.T1
open Go Go.Sx
theorem shape_ref {k : Nat} (hk : 130 ≤ k) {p : List V27} (hp : Val p) {b : V27} (hb : Wn b) (y : V67) (hy : OKb k y) : (∃ P,r2_Placed k y = some P ∧ tourlaw2_RayShapes_1 k P p b = some (hitOf k (fun x => ray_Shape_1 k x.1 p b) y)) ∧ ((hitOf k (fun x => ray_Shape_1 k x.1 p b) y).2 = true → 0 ≤ (hitOf k (fun x => ray_Shape_1 k x.1 p b) y).1) := by
  obtain ⟨P,p1,p2⟩ := place_tot (k := k) (by omega) y hy
  obtain ⟨l,e,D,low⟩ := Minus_dif (k := k) (by omega) p2 hp
  have bg := Dif_big p2 hp D
  have wz : Wn zed := by unfold Wn zed; decide
  obtain ⟨h,e2,H⟩ := rline_hit (k := k) (by omega) (a := zed) (b := b) bg wz hb
  have hh : hitOf k (fun x => ray_Shape_1 k x.1 p b) y = h := by
    unfold hitOf
    rw [p1]
    show (ray_Shape_1 k P p b).getD (0,false) = h
    unfold ray_Shape_1
    rw [e,bnd_some]
    have e2 : ray_line k l (0,0,()) b = some h := e2
    dsimp only
    rw [e2,bnd_some]
    rfl
  rw [hh]
  constructor
  · refine ⟨P,?_,?_⟩
    · obtain ⟨p',v,ang,spin,mass,inertia,bounce,rub,l',asleep,calm,_⟩ := y
      obtain ⟨l'',e1,e3,_⟩ := Place_both (k := k) (by omega) hy
      rw [p1] at e1
      cases e1
      exact e3
    · unfold tourlaw2_RayShapes_1
      rw [RMinus_eq hk p2 hp D low,bnd_some]
      have r := RLine_eq (k := k) (by omega) bg D.edge wz hb H
      have r : r2_Line k l (0,0,()) b = some h := r
      rw [r,bnd_some]
  · intro z
    rcases H with ⟨_,_,_,_,_,_,_,_,⟨t0,_⟩,_⟩ | ⟨w,_⟩
    · exact t0
    · rw [w] at z; cases z
open Classical in
theorem meets_ref {k : Nat} (hk : 130 ≤ k) {p : List V27} (hp : Val p) (y : V67) (hy : OKb k y) : ∃ P m,body_Place k y = some P ∧ r2_Placed k y = some P ∧ near_Meet k P p = some (m,0) ∧ r2_Meet k P p = some m := by
  obtain ⟨P,p1,p2⟩ := place_tot (k := k) (by omega) y hy
  obtain ⟨m,m1,m2⟩ := nmeet_tot (k := k) (by omega) p2 hp
  refine ⟨P,m,p1,?_,m1,?_⟩
  · obtain ⟨p',v,ang,spin,mass,inertia,bounce,rub,l',asleep,calm,_⟩ := y
    obtain ⟨l'',e1,e3,_⟩ := Place_both (k := k) (by omega) hy
    rw [p1] at e1
    cases e1
    exact e3
  · rw [Meet_eq (by omega) p2 hp]
    congr 1
    have mi := meet_iff p2.2.2.2 p2.1 hp.2.2.2 hp.1
    cases m with
    | true => exact decide_eq_true (mi.2 (m2.1 rfl))
    | false => exact decide_eq_false (fun h => by have := m2.2 (mi.1 h); cases this)
theorem meets_same {k : Nat} (hk : 130 ≤ k) {B : List V67} (hA : AllK k B) (hl : len B ≤ 64) {p : List V27} (hp : Val p) : ∀ (n : Nat) (v : Int) (z : List Int),0 ≤ v → tourlaw2_RayShapes.c3 k B p n v z = ray_Meet.c1 k B p n v z := by
  intro n
  induction n with
  | zero => intro v z _; rfl
  | succ n ih =>
    intro v z v0
    rw [tourlaw2_RayShapes.c3,ray_Meet.c1]
    by_cases c : v < len B
    · obtain ⟨P,m,a1,a2,a3,a4⟩ := meets_ref hk hp _ (hA v v0 c)
      have st : iadd .i64 v 1 = v + 1 := iadd_i64 (by omega) (by omega)
      rw [ilt_pos c,bif_true,bif_true,a1,a2,bnd_some,bnd_some,a3,a4,bnd_some,bnd_some,st,ih _ _ (by omega),ih _ _ (by omega)]
    · rw [ilt_neg (by omega),bif_false,bif_false]
theorem sameI {k : Nat} (hk : 100 ≤ k) {l : List Int} (hl : len l ≤ 64) : slices_Equal_62 k l l = some true := by
  have H : ∀ (n : Nat) (i : Int),0 ≤ i → len l - i < (n : Int) → 0 < n → slices_Equal_62.c1 k l l n i = some (.inr ()) := by
    intro n
    induction n with
    | zero => intro i _ _ h; omega
    | succ n ih =>
      intro i i0 i1 _
      rw [slices_Equal_62.c1]
      by_cases c : i < len l
      · rw [ilt_pos c,bif_true,req_pos (inL_of i0 c),req_pos (inL_of i0 c),ine_neg rfl,bif_false,iadd_i64 (by omega) (by omega)]
        exact ih (i + 1) (by omega) (by omega) (by omega)
      · rw [ilt_neg (by omega),bif_false]
  unfold slices_Equal_62
  rw [ine_neg rfl,bif_false,H k 0 (by omega) (by omega) (by omega),bnd_some,two_inr]
theorem RayShapes_true {k : Nat} (hk : 130 ≤ k) (hb : tourlaw2_rayBegun k = some true) (B : List V67) (p : List V27) (b : V27) : tourlaw2_RayShapes k B p b = some true := by
  obtain ⟨e,e1,e2⟩ := Check_eq (k := k) (by omega) p
  obtain ⟨e',f1,f2⟩ := Poly_eq (k := k) (by omega) p
  have ee := Chk_uniq e2 f2
  subst ee
  obtain ⟨g,g1,g2,g3⟩ := kcheck (k := k) (by omega) (by omega) B
  unfold tourlaw2_RayShapes
  rw [hb,bnd_some,bif_true]
  have bad : ∀ x,x ≠ 0 → tourlaw2_RayShapes.c2 k x (0,0,x) ([],x) = some true := by
    intro x _
    unfold tourlaw2_RayShapes.c2
    dsimp only
    rw [ieq_pos rfl,bif_true,bif_true]
    rfl
  by_cases z : g = 0
  · subst z
    obtain ⟨hA,hl⟩ := g3 rfl
    have c1 : tourlaw2_RayShapes.c1 k p 0 = some e := by
      unfold tourlaw2_RayShapes.c1
      rw [ieq_pos rfl,bif_true,f1,bnd_some]
    by_cases w : e = 0
    · subst w
      have hp := Chk_zero e2
      obtain ⟨L,r1,r2,_⟩ := rmeet_ok (k := k) (by omega) hA hl hp
      have r3 : ray_Meet.c1 k B p k 0 [] = some L := by
        have := r1
        unfold ray_Meet at this
        rw [g1,bnd_some,ine_neg rfl,bif_false,e1,bnd_some,ine_neg rfl,bif_false] at this
        obtain ⟨x,x1,x2⟩ := bnd_eq this
        cases x2
        exact x1
      have c3 : tourlaw2_RayShapes.c3 k B p k 0 [] = some L := (meets_same hk hA hl hp k 0 [] (by decide)).trans r3
      have c4 : tourlaw2_RayShapes.c4 k L (L,0) = some false := by
        unfold tourlaw2_RayShapes.c4
        rw [ine_neg rfl,bif_false,sameI (by omega) r2,bnd_some]
        rfl
      by_cases hw : Wn b
      · have rf := rfirst_eq (k := k) (by omega) hA hl (fp := fun x => ray_Shape_1 k x.1 p b) (fr := fun x => tourlaw2_RayShapes_1 k x.1 p b) (fun m hm => by
          obtain ⟨h,_,e,_⟩ := shape1_tot (k := k) (by omega) hp hw hm
          exact ⟨h,e⟩) (fun j j0 j1 => shape_ref hk hp hw _ (hA j j0 j1))
        have ft : ∃ y,ray_first k B (fun x => ray_Shape_1 k x.1 p b) = some y := by
          rcases first_ok (k := k) (by omega) hA hl (f := fun x => ray_Shape_1 k x.1 p b) (fun m hm => by
            obtain ⟨h,_,e,_⟩ := shape1_tot (k := k) (by omega) hp hw hm
            exact ⟨h,e⟩) with ⟨i,_,_,_,h⟩ | ⟨_,h⟩
          · exact ⟨_,h⟩
          · exact ⟨_,h⟩
        obtain ⟨y,hy⟩ := ft
        rw [hy] at rf
        have rs : ray_Shape k B p b = some (y.1,y.2.1,y.2.2) := by
          unfold ray_Shape
          rw [g1,bnd_some,ine_neg rfl,bif_false,e1,bnd_some,ine_neg rfl,bif_false,rwithin k hw,bnd_some,bif_true,hy,bnd_some]
        rw [rs,bnd_some,r1,bnd_some,g2,bnd_some,c1,bnd_some,ine_neg rfl,bif_false,c3,bnd_some,c4,bnd_some,bif_false,near1000_eq,bnd_some,decide_eq_true hw,bif_true,rf,bnd_some]
        dsimp only
        rw [ieq_pos rfl,bif_true,ieq_pos rfl,bif_true,ieq_pos rfl]
      · have rs : ray_Shape k B p b = some (0,0,1) := by
          unfold ray_Shape
          rw [g1,bnd_some,ine_neg rfl,bif_false,e1,bnd_some,ine_neg rfl,bif_false,rwithin_gen,bnd_some,decide_eq_false hw,bif_false]
        have c5 : tourlaw2_RayShapes.c5 k (0,0,1) = some true := rfl
        rw [rs,bnd_some,r1,bnd_some,g2,bnd_some,c1,bnd_some,ine_neg rfl,bif_false,c3,bnd_some,c4,bnd_some,bif_false,near1000_eq,bnd_some,decide_eq_false hw,bif_false,c5,bnd_some]
    · have rs : ray_Shape k B p b = some (0,0,e) := by
        unfold ray_Shape
        rw [g1,bnd_some,ine_neg rfl,bif_false,e1,bnd_some,ine_pos w,bif_true]
      have rm : ray_Meet k B p = some ([],e) := by
        unfold ray_Meet
        rw [g1,bnd_some,ine_neg rfl,bif_false,e1,bnd_some,ine_pos w,bif_true]
      rw [rs,bnd_some,rm,bnd_some,g2,bnd_some,c1,bnd_some,ine_pos w,bif_true,bad e w,bnd_some]
  · have c1 : tourlaw2_RayShapes.c1 k p g = some g := by
      unfold tourlaw2_RayShapes.c1
      rw [ieq_neg z,bif_false]
    have rs : ray_Shape k B p b = some (0,0,g) := by
      unfold ray_Shape
      rw [g1,bnd_some,ine_pos z,bif_true]
    have rm : ray_Meet k B p = some ([],g) := by
      unfold ray_Meet
      rw [g1,bnd_some,ine_pos z,bif_true]
    rw [rs,bnd_some,rm,bnd_some,g2,bnd_some,c1,bnd_some,ine_pos z,bif_true,bad g z,bnd_some]
theorem tourlaw2_RayShapes_plain (x : ((.pair (.slice T67) (.pair (.slice T27) (.pair T27 .unit))) : Ty).den) (_ : Ty.wf (.pair (.slice T67) (.pair (.slice T27) (.pair T27 .unit))) x) : ∃ k,(tourlaw2_RayShapes.sp k).f x = some true := by
  obtain ⟨B,p,b,_⟩ := x
  obtain ⟨K,hK⟩ : ∃ K : Nat,K = 1000 := ⟨_,rfl⟩
  have hb := rbegun_eq
  rw [← hK] at hb
  exact ⟨K,RayShapes_true (by omega) hb B p b⟩
end Go.Proofs.T1
