/-
  Plain laws: no program in sight.
-/
import Derived.Test.YtolkdkhdkfndfaaPlChain
namespace Go.Proofs.T1
open Go Go.Sx

/-! The greatest of some numbers -/
/-! How deep a polygon is below an edge of another one -/
/-! The depth in units -/
theorem sq_nn (x : Int) : 0 ≤ x * x := by
  rcases Int.le_total 0 x with h | h
  · exact Int.mul_nonneg h h
  · exact Int.mul_nonneg_of_nonpos_of_nonpos h h
/-! The axis of the least depth -/
end Go.Proofs.T1
namespace Go.Proofs.T1
open Go Go.Sx

/-! Numbers that are not greater than the distance of the origin from a segment, or from a polygon -/
/-! A rational point of a polygon, from three corners -/
theorem HIn_fan {l : List V27} (h3 : 3 ≤ len l) (he : EdgeP l) {X Y w : Int} (hw : 0 < w) (h : HIn l X Y w) :
    ∃ x y z α β γ D, (0 ≤ x ∧ x < len l) ∧ (0 ≤ y ∧ y < len l) ∧ (0 ≤ z ∧ z < len l) ∧ 0 ≤ α ∧ 0 ≤ β ∧ 0 ≤ γ ∧ 0 < D ∧ D * w = α + β + γ ∧
      D * X = α * (q l x).1 + β * (q l y).1 + γ * (q l z).1 ∧ D * Y = α * (q l x).2.1 + β * (q l y).2.1 + γ * (q l z).2.1 := by
  have hi : InP (scl w l) (X, Y, ()) := by
    intro i i0 i1
    rw [len_scl] at *
    have hn := nx_range i0 i1
    rw [q_scl w i0 i1, q_scl w hn.1 hn.2, tri_scl]
    exact Int.mul_nonneg (Int.le_of_lt hw) (h i i0 i1)
  obtain ⟨i, i2, i1, c1, c2, c3⟩ := In_Fan (by rw [len_scl]; exact h3) hi
  rw [len_scl] at i1
  have s0 := q_scl w (l := l) (i := 0) (by omega) (by omega)
  have s1 := q_scl w (l := l) (i := i - 1) (by omega) (by omega)
  have s2 := q_scl w (l := l) (i := i) (by omega) (by omega)
  rw [s0, s1, tri_scl] at c1
  rw [s1, s2, tri_scl] at c2
  rw [s2, s0, tri_scl] at c3
  have c1 := nn_of_mul hw c1
  have c2 := nn_of_mul hw c2
  have c3 := nn_of_mul hw c3
  have ht := Edge_Trip he 0 (i - 1) i (by omega) (by omega) (by omega) i1
  refine ⟨0, i - 1, i, hs (q l (i - 1)) (q l i) X Y w, hs (q l i) (q l 0) X Y w, hs (q l 0) (q l (i - 1)) X Y w, _, ⟨by omega, by omega⟩, ⟨by omega, by omega⟩, ⟨by omega, by omega⟩, c2, c3, c1, ht, ?_, ?_, ?_⟩
  · unfold tri hs; grind
  · unfold tri hs; grind
  · unfold tri hs; grind
/-! In both orders -/
/-! One of them moved -/
end Go.Proofs.T1
namespace Go.Proofs.T1
open Go Go.Sx

/-! The edges of the difference, and pairs of corners and edges -/
/-! The lowest corner, and the points on an edge -/
theorem low_hull {l : List V27} (he : EdgeP l) (h3 : 3 ≤ len l) (hl : LowP l 0) {p : V27} (h : InP l p) : p = q l 0 ∨ Up (sb p (q l 0)) := by
  obtain ⟨x, y, z, α, β, γ, D, hx, hy, hz, a0, b0, c0, hD, e1, e2, e3⟩ := HIn_fan h3 he (by decide) (HIn_one.2 h)
  have lo : ∀ j, 0 ≤ j → j < len l → 0 ≤ (q l j).2.1 - (q l 0).2.1 ∧ ((q l j).2.1 - (q l 0).2.1 = 0 → 0 ≤ (q l j).1 - (q l 0).1) := by
    intro j j0 j1
    by_cases c : j = 0
    · subst c; exact ⟨by omega, fun _ => by omega⟩
    · have := hl.2 j j0 j1 c
      unfold Up sb at this
      dsimp only at this
      have z : ((0 : Nat) : Int) = 0 := rfl
      rw [z] at this
      exact ⟨by omega, fun _ => by omega⟩
  have lx := lo x hx.1 hx.2
  have ly := lo y hy.1 hy.2
  have lz := lo z hz.1 hz.2
  rw [Int.mul_one] at e1
  have k1 : D * (p.1 - (q l 0).1) = α * ((q l x).1 - (q l 0).1) + β * ((q l y).1 - (q l 0).1) + γ * ((q l z).1 - (q l 0).1) := by
    rw [Int.mul_sub, e2, e1]; grind
  have k2 : D * (p.2.1 - (q l 0).2.1) = α * ((q l x).2.1 - (q l 0).2.1) + β * ((q l y).2.1 - (q l 0).2.1) + γ * ((q l z).2.1 - (q l 0).2.1) := by
    rw [Int.mul_sub, e3, e1]; grind
  generalize (q l x).1 - (q l 0).1 = x1 at *
  generalize (q l x).2.1 - (q l 0).2.1 = x2 at *
  generalize (q l y).1 - (q l 0).1 = y1 at *
  generalize (q l y).2.1 - (q l 0).2.1 = y2 at *
  generalize (q l z).1 - (q l 0).1 = z1 at *
  generalize (q l z).2.1 - (q l 0).2.1 = z2 at *
  have m1 := Int.mul_nonneg a0 lx.1
  have m2 := Int.mul_nonneg b0 ly.1
  have m3 := Int.mul_nonneg c0 lz.1
  have part : ∀ {s u v : Int}, 0 ≤ s → 0 ≤ v → (v = 0 → 0 ≤ u) → s * v = 0 → 0 ≤ s * u := by
    intro s u v s0 v0 hu h
    rcases Int.mul_eq_zero.1 h with g | g
    · rw [g]; simp
    · exact Int.mul_nonneg s0 (hu g)
  have hy : 0 ≤ D * (p.2.1 - (q l 0).2.1) := by omega
  have hy := nn_of_mul hD hy
  by_cases c : p.2.1 - (q l 0).2.1 = 0
  · rw [c, Int.mul_zero] at k2
    have n1 := part a0 lx.1 lx.2 (by omega)
    have n2 := part b0 ly.1 ly.2 (by omega)
    have n3 := part c0 lz.1 lz.2 (by omega)
    have hx := nn_of_mul hD (show 0 ≤ D * (p.1 - (q l 0).1) by omega)
    by_cases d : p.1 - (q l 0).1 = 0
    · exact Or.inl (v_ext (by omega) (by omega))
    · exact Or.inr (by unfold Up sb; dsimp only; omega)
  · exact Or.inr (by unfold Up sb; dsimp only; omega)
theorem on_le {l : List V27} (he : EdgeP l) (h3 : 3 ≤ len l) {k : Int} (k0 : 0 ≤ k) (k1 : k < len l) {p : V27} (h : InP l p) (z : tri (q l k) (q l (nx (len l) k)) p = 0) :
    p = q l (nx (len l) k) ∨ dt (sb p (q l k)) (sb p (q l k)) < dt (sb (q l (nx (len l) k)) (q l k)) (sb (q l (nx (len l) k)) (q l k)) := by
  have ne := edge_ne he h3 k0 k1
  obtain ⟨α, β, D, h1, h2, h3, e1, e2, e3⟩ := on_edge he h3 k0 k1 (HIn_one.2 h) (by rw [hs_one]; exact z)
  generalize q l k = u at *
  generalize q l (nx (len l) k) = v at *
  rw [Int.mul_one] at e1
  subst e1
  have k1 : (α + β) * (p.1 - u.1) = β * (v.1 - u.1) := by rw [Int.mul_sub, e2]; grind
  have k2 : (α + β) * (p.2.1 - u.2.1) = β * (v.2.1 - u.2.1) := by rw [Int.mul_sub, e3]; grind
  by_cases c : α = 0
  · subst c
    rw [Int.zero_add] at k1 k2 h3
    have a1 := Int.eq_of_mul_eq_mul_left (show β ≠ 0 by omega) k1
    have a2 := Int.eq_of_mul_eq_mul_left (show β ≠ 0 by omega) k2
    exact Or.inl (v_ext (by omega) (by omega))
  · right
    have S : 0 < dt (sb v u) (sb v u) := sq_pos (ne_part ne)
    have e : (α + β) * (α + β) * dt (sb p u) (sb p u) = β * β * dt (sb v u) (sb v u) := by
      have : (α + β) * (α + β) * dt (sb p u) (sb p u) = ((α + β) * (p.1 - u.1)) * ((α + β) * (p.1 - u.1)) + ((α + β) * (p.2.1 - u.2.1)) * ((α + β) * (p.2.1 - u.2.1)) := by unfold dt sb; grind
      rw [this, k1, k2]
      unfold dt sb
      grind
    have lt : β * β < (α + β) * (α + β) := by
      have x1 := Int.mul_pos (show 0 < α by omega) (show 0 < α + β by omega)
      have x2 := Int.mul_nonneg h1 h2
      have : (α + β) * (α + β) = α * (α + β) + α * β + β * β := by grind
      omega
    have x3 := Int.mul_lt_mul_of_pos_right lt S
    rw [← e] at x3
    exact Int.lt_of_mul_lt_mul_left x3 (sq_nn _)
end Go.Proofs.T1
namespace Go.Proofs.T1
open Go Go.Sx

/-! Gift wrapping -/
def Bw (v : V27) : Prop := -200000000 ≤ v.1 ∧ v.1 ≤ 200000000 ∧ -200000000 ≤ v.2.1 ∧ v.2.1 ≤ 200000000
theorem rsub_eq (k : Nat) {a b : V27} (ha : Bw a) (hb : Bw b) : tourref2_sub k a b = some (sb a b) := by
  unfold Bw at ha hb
  unfold tourref2_sub
  rw [isub_i64 (by omega) (by omega), isub_i64 (by omega) (by omega)]
  rfl
theorem left2_eq {k : Nat} (hk : 9 ≤ k) {a b p : V27} (ha : Bw a) (hb : Bw b) (hp : Bw p) : tourref2_left k a b p = some (cmpI (tri a b p) 0) := by
  have e1 := rsub_eq k hb ha
  have e2 := rsub_eq k hp ha
  unfold Bw at *
  obtain ⟨c, e3, r⟩ := BCross hk (a := sb b a) (b := sb p a) (by unfold I64 sb; dsimp only; omega) (by unfold I64 sb; dsimp only; omega) (by unfold I64 sb; dsimp only; omega) (by unfold I64 sb; dsimp only; omega)
  have p1 := mul_bd (x := b.1 - a.1) (y := p.2.1 - a.2.1) (M := 400000000) (N := 400000000) (by omega) (by omega) (by omega) (by omega)
  have p2 := mul_bd (x := b.2.1 - a.2.1) (y := p.1 - a.1) (M := 400000000) (N := 400000000) (by omega) (by omega) (by omega) (by omega)
  have ht : -320000000000000000 ≤ tri a b p ∧ tri a b p ≤ 320000000000000000 := by unfold tri; omega
  unfold tourref2_left
  have et : (sb b a).1 * (sb p a).2.1 - (sb b a).2.1 * (sb p a).1 = tri a b p := rfl
  rw [et] at r
  rw [e1, bnd_some, e2, bnd_some, e3, bnd_some, BCmp hk r BR_zero (by unfold SR; omega) (by unfold SR; omega), bnd_some]
theorem sq_dot {k : Nat} (hk : 9 ≤ k) {a b : V27} (ha : Bw a) (hb : Bw b) : ∃ c, tourref2_Dot k (sb a b) (sb a b) = some c ∧ BR c (dt (sb a b) (sb a b)) ∧ SR (dt (sb a b) (sb a b)) := by
  unfold Bw at *
  obtain ⟨c, e3, r⟩ := BDot hk (a := sb a b) (b := sb a b) (by unfold I64 sb; dsimp only; omega) (by unfold I64 sb; dsimp only; omega) (by unfold I64 sb; dsimp only; omega) (by unfold I64 sb; dsimp only; omega)
  have p1 := mul_bd (x := a.1 - b.1) (y := a.1 - b.1) (M := 400000000) (N := 400000000) (by omega) (by omega) (by omega) (by omega)
  have p2 := mul_bd (x := a.2.1 - b.2.1) (y := a.2.1 - b.2.1) (M := 400000000) (N := 400000000) (by omega) (by omega) (by omega) (by omega)
  exact ⟨c, e3, r, by unfold SR dt sb; dsimp only; omega⟩
theorem Up_irr (u : V27) : ¬ Up (sb u u) := by unfold Up sb; dsimp only; omega
theorem Up_asymm {u v : V27} (h : Up (sb u v)) : ¬ Up (sb v u) := by unfold Up sb at *; dsimp only at *; omega
theorem Wrap_c2 (k : Nat) {l : List V27} {v : Int} (s : V27) : ∃ b : Bool, tourref2_Wrap.c2 k l v s = some b ∧ (b = true ↔ Up (sb s (q l v))) := by
  unfold tourref2_Wrap.c2
  show ∃ b : Bool, bif' (ilt (q l v).2.1 s.2.1) (some true) (bif' (ieq (q l v).2.1 s.2.1) (some (ilt (q l v).1 s.1)) (some false)) = some b ∧ _
  unfold Up sb
  dsimp only
  rcases Int.lt_trichotomy (q l v).2.1 s.2.1 with c | c | c
  · rw [ilt_pos c, bif_true]
    exact ⟨true, rfl, fun _ => by omega, fun _ => rfl⟩
  · rw [ilt_neg (by omega), bif_false, ieq_pos c, bif_true]
    refine ⟨_, rfl, ?_⟩
    unfold ilt
    rw [decide_eq_true_iff]
    omega
  · rw [ilt_neg (by omega), bif_false, ieq_neg (by omega), bif_false]
    exact ⟨false, rfl, fun h => (by cases h), fun h => (by omega)⟩
section
variable {k : Nat} {L H : List V27}
theorem Wrap_first (hk : 130 ≤ k) (he : EdgeP H) (h3 : 3 ≤ len H) (hlow : LowP H 0) (hl : len L ≤ 100) (hin : ∀ x, 0 ≤ x → x < len L → InP H (q L x)) {x0 : Int} (x00 : 0 ≤ x0) (x01 : x0 < len L) (hx : q L x0 = q H 0) :
    tourref2_Wrap.c1 k L k 0 (q L 0) = some (q H 0) := by
  obtain ⟨s, ⟨_, b⟩, e⟩ := inv_loop (fun n s v => tourref2_Wrap.c1 k L n v s) 0 (len L) (fun s v => InP H s ∧ (x0 < v → s = q H 0))
    (by
      intro n s v v0 v1 ⟨h1, h2⟩
      obtain ⟨b, e, hb⟩ := Wrap_c2 k (l := L) (v := v) s
      have hv := hin v v0 v1
      refine ⟨if b then q L v else s, ⟨?_, fun hlt => ?_⟩, ?_⟩
      · cases b with
        | true => exact hv
        | false => exact h1
      · by_cases c : v = x0
        · rw [c] at hb ⊢
          rw [hx] at hb ⊢
          cases b with
          | true => rfl
          | false =>
            show s = q H 0
            rcases low_hull he h3 hlow h1 with g | g
            · exact g
            · exact absurd (hb.2 g) (by decide)
        · have s0 := h2 (by omega)
          cases b with
          | true =>
            show q L v = q H 0
            have g := hb.1 rfl
            rw [s0] at g
            rcases low_hull he h3 hlow hv with f | f
            · exact f
            · exact absurd g (Up_asymm f)
          | false => exact s0
      · show tourref2_Wrap.c1 k L (n + 1) v s = tourref2_Wrap.c1 k L n (v + 1) (if b then q L v else s)
        rw [tourref2_Wrap.c1, ilt_pos v1, bif_true, req_pos (inL_of v0 v1), e, bnd_some, iadd_i64 (by omega) (by omega)]
        cases b <;> rfl)
    (by
      intro n s v a b
      show tourref2_Wrap.c1 k L (n + 1) v s = some s
      rw [tourref2_Wrap.c1, ilt_neg b, bif_false])
    k (q L 0) 0 (by omega) (by omega) (by omega) ⟨hin 0 (by omega) (by omega), fun h => by omega⟩
  have e : tourref2_Wrap.c1 k L k 0 (q L 0) = some s := e
  rw [e, b x01]
theorem Wrap_step (hk : 130 ≤ k) {out : List V27} {a s p : V27} (ho : el Z27 out (isub .i64 (len out) 1) = a) {v : Int} (hp : q L v = p) (ba : Bw a) (bs : Bw s) (bp : Bw p) :
    ∃ o b, tourref2_Wrap.c5 k L out v s = some o ∧ tourref2_Wrap.c6 k L o out v s = some b ∧ (b = true ↔ (s = a ∨ tri a s p < 0 ∨ (tri a s p = 0 ∧ dt (sb s a) (sb s a) < dt (sb p a) (sb p a)))) := by
  have hp' : el Z27 L v = p := hp
  unfold tourref2_Wrap.c5
  rw [ho, hp']
  by_cases c : s = a
  · refine ⟨0, true, ?_, ?_, fun _ => Or.inl c, fun _ => rfl⟩
    · refine (congrArg (fun b => bif' b _ _) ((eqb24 s (el Z27 out (isub .i64 (len out) 1))).trans (decide_eq_true (c.trans ho.symm)))).trans ?_
      rw [bif_true]
    · unfold tourref2_Wrap.c6
      rw [ho]
      refine (congrArg (fun b => bif' b _ _) ((eqb24 s (el Z27 out (isub .i64 (len out) 1))).trans (decide_eq_true (c.trans ho.symm)))).trans ?_
      rw [bif_true]
  · have e5 : tourref2_left k a s p = some (cmpI (tri a s p) 0) := left2_eq (by omega) ba bs bp
    obtain ⟨x, ex, rx, sx⟩ := sq_dot (k := k) (by omega) bp ba
    obtain ⟨y, ey, ry, sy⟩ := sq_dot (k := k) (by omega) bs ba
    refine ⟨cmpI (tri a s p) 0, decide (tri a s p < 0 ∨ (tri a s p = 0 ∧ dt (sb s a) (sb s a) < dt (sb p a) (sb p a))), ?_, ?_, ?_⟩
    · refine (congrArg (fun b => bif' b _ _) ((eqb24 s (el Z27 out (isub .i64 (len out) 1))).trans (decide_eq_false (fun g => c (g.trans ho))))).trans ?_
      rw [bif_false, e5, bnd_some]
    · unfold tourref2_Wrap.c6
      rw [ho, hp']
      refine (congrArg (fun b => bif' b _ _) ((eqb24 s (el Z27 out (isub .i64 (len out) 1))).trans (decide_eq_false (fun g => c (g.trans ho))))).trans ?_
      rw [bif_false]
      rcases Int.lt_trichotomy (tri a s p) 0 with g | g | g
      · rw [cmpI_lt g, ilt_pos (by decide), bif_true, decide_eq_true (Or.inl g)]
      · rw [cmpI_eq g, ilt_neg (by decide), bif_false, ieq_pos rfl, bif_true, rsub_eq k bp ba, bnd_some, bnd_some, ex, bnd_some, rsub_eq k bs ba, bnd_some, bnd_some, ey, bnd_some, BCmp (by omega) rx ry sx sy, bnd_some]
        congr 1
        unfold igt cmpI
        refine decide_eq_decide.2 ?_
        split
        · exact ⟨fun h => absurd h (by decide), fun h => by omega⟩
        · split
          · exact ⟨fun h => absurd h (by decide), fun h => by omega⟩
          · exact ⟨fun _ => Or.inr ⟨g, by omega⟩, fun _ => by decide⟩
      · rw [cmpI_gt g, ilt_neg (by decide), bif_false, ieq_neg (by decide), bif_false, decide_eq_false (by omega)]
    · rw [decide_eq_true_iff]
      exact ⟨Or.inr, fun h => h.resolve_left c⟩
theorem Wrap_next (hk : 130 ≤ k) (he : EdgeP H) (h3 : 3 ≤ len H) (hl : len L ≤ 100) (hin : ∀ x, 0 ≤ x → x < len L → InP H (q L x)) (bw : ∀ x, 0 ≤ x → x < len L → Bw (q L x)) (bh : ∀ x, 0 ≤ x → x < len H → Bw (q H x))
    {t : Int} (t0 : 0 ≤ t) (t1 : t < len H) {out : List V27} (ho : el Z27 out (isub .i64 (len out) 1) = q H t) {x0 : Int} (x00 : 0 ≤ x0) (x01 : x0 < len L) (hx : q L x0 = q H (nx (len H) t)) :
    tourref2_Wrap.c4 k L out k 0 (q H t) = some (q H (nx (len H) t)) := by
  have hn := nx_range t0 t1
  have ne := edge_ne he h3 t0 t1
  obtain ⟨s, ⟨_, _, b⟩, e⟩ := inv_loop (fun n s v => tourref2_Wrap.c4 k L out n v s) 0 (len L) (fun s v => InP H s ∧ Bw s ∧ (x0 < v → s = q H (nx (len H) t)))
    (by
      intro n s v v0 v1 ⟨h1, h1', h2⟩
      have hv := hin v v0 v1
      have wv := bw v v0 v1
      show ∃ s', _ ∧ tourref2_Wrap.c4 k L out (n + 1) v s = tourref2_Wrap.c4 k L out n (v + 1) s'
      rw [tourref2_Wrap.c4, ilt_pos v1, bif_true, req_pos (inL_of v0 v1), iadd_i64 (by omega) (by omega)]
      by_cases c : q L v = q H t
      · refine ⟨s, ⟨h1, h1', fun g => ?_⟩, ?_⟩
        · by_cases d : v = x0
          · rw [d, hx] at c
            exact absurd c.symm ne
          · exact h2 (by omega)
        · refine (congrArg (fun b => bif' b _ _) ((eqb24 (q L v) (el Z27 out (isub .i64 (len out) 1))).trans (decide_eq_true (c.trans ho.symm)))).trans ?_
          rw [bif_true]
      · obtain ⟨o, b, e5, e6, hb⟩ := Wrap_step hk ho (v := v) (p := q L v) rfl (bh t t0 t1) h1' wv
        refine ⟨if b then q L v else s, ⟨?_, ?_, fun g => ?_⟩, ?_⟩
        · cases b with
          | true => exact hv
          | false => exact h1
        · cases b with
          | true => exact wv
          | false => exact h1'
        · by_cases d : v = x0
          · have pB : q L v = q H (nx (len H) t) := by rw [d]; exact hx
            rw [pB] at hb ⊢
            cases b with
            | true => rfl
            | false =>
              show s = _
              have nb : ¬ (s = q H t ∨ tri (q H t) s (q H (nx (len H) t)) < 0 ∨ (tri (q H t) s (q H (nx (len H) t)) = 0 ∧ dt (sb s (q H t)) (sb s (q H t)) < dt (sb (q H (nx (len H) t)) (q H t)) (sb (q H (nx (len H) t)) (q H t)))) := fun g => absurd (hb.2 g) (by decide)
              have k1 := h1 t t0 t1
              have k2 : tri (q H t) s (q H (nx (len H) t)) = - tri (q H t) (q H (nx (len H) t)) s := by unfold tri; grind
              have k3 : tri (q H t) (q H (nx (len H) t)) s = 0 := by
                have : ¬ tri (q H t) s (q H (nx (len H) t)) < 0 := fun g => nb (Or.inr (Or.inl g))
                omega
              rcases on_le he h3 t0 t1 h1 k3 with f | f
              · exact f
              · exact absurd (Or.inr (Or.inr ⟨by omega, f⟩)) nb
          · have sB := h2 (by omega)
            rw [sB] at hb ⊢
            cases b with
            | false => rfl
            | true =>
              show q L v = _
              have k1 := hv t t0 t1
              rcases hb.1 rfl with f | f | ⟨f, f'⟩
              · exact absurd f.symm ne
              · omega
              · rcases on_le he h3 t0 t1 hv f with r | r
                · exact r
                · omega
        · refine (congrArg (fun b => bif' b _ _) ((eqb24 (q L v) (el Z27 out (isub .i64 (len out) 1))).trans (decide_eq_false (fun g => c (g.trans ho))))).trans ?_
          rw [bif_false, e5, bnd_some, e6, bnd_some]
          cases b <;> rfl)
    (by
      intro n s v a b
      show tourref2_Wrap.c4 k L out (n + 1) v s = some s
      rw [tourref2_Wrap.c4, ilt_neg b, bif_false])
    k (q H t) 0 (by omega) (by omega) (by omega) ⟨InP_self he t0 t1, bh t t0 t1, fun h => by omega⟩
  have e : tourref2_Wrap.c4 k L out k 0 (q H t) = some s := e
  rw [e, b x01]
theorem take_succ_q {l : List V27} {t : Nat} (h : t < l.length) : l.take (t + 1) = l.take t ++ [q l t] := by
  rw [List.take_succ_eq_append_getElem h]
  congr 2
  show l[t] = l.getD t Z27
  rw [List.getD_eq_getElem?_getD, List.getElem?_eq_getElem h]
  rfl
theorem last_take {l : List V27} {t : Nat} (h : t < l.length) (h1 : l.length ≤ 1000) : el Z27 (l.take (t + 1)) (isub .i64 (len (l.take (t + 1))) 1) = q l t := by
  have e : len (l.take (t + 1)) = (t : Int) + 1 := by unfold len; rw [List.length_take]; omega
  rw [e, isub_i64 (by omega) (by omega), show (t : Int) + 1 - 1 = (t : Int) by omega]
  show (l.take (t + 1)).getD t Z27 = l.getD t Z27
  rw [List.getD_eq_getElem?_getD, List.getD_eq_getElem?_getD, List.getElem?_take_of_lt (by omega)]
theorem Wrap_eq (hk : 130 ≤ k) (he : EdgeP H) (h3 : 3 ≤ len H) (hlow : LowP H 0) (hl : len L ≤ 100) (hHL : len H ≤ len L) (hin : ∀ x, 0 ≤ x → x < len L → InP H (q L x)) (bw : ∀ x, 0 ≤ x → x < len L → Bw (q L x))
    (hc : ∀ t, 0 ≤ t → t < len H → ∃ x, 0 ≤ x ∧ x < len L ∧ q L x = q H t) : tourref2_Wrap k L = some H := by
  have bh : ∀ x, 0 ≤ x → x < len H → Bw (q H x) := by
    intro t t0 t1
    obtain ⟨x, x0, x1, e⟩ := hc t t0 t1
    rw [← e]; exact bw x x0 x1
  have lH : len H = (H.length : Int) := rfl
  have main : ∀ (n t : Nat), t < H.length → H.length - t ≤ n → tourref2_Wrap.c3 k L (q H 0) n (H.take (t + 1)) = some H := by
    intro n
    induction n with
    | zero => intro t h g; omega
    | succ n ih =>
      intro t ht hn
      have lt : len (H.take (t + 1)) = (t : Int) + 1 := by unfold len; rw [List.length_take]; omega
      have ho := last_take ht (by omega)
      obtain ⟨x, x0, x1, hx⟩ := hc (nx (len H) t) (nx_range (by omega) (by omega)).1 (nx_range (by omega) (by omega)).2
      have N := Wrap_next hk he h3 hl hin bw bh (t := (t : Int)) (by omega) (by omega) ho x0 x1 hx
      rw [tourref2_Wrap.c3, lt, ile_pos (by omega), bif_true, isub_i64 (by omega) (by omega), show (t : Int) + 1 - 1 = (t : Int) by omega, req_pos (inL_of (by omega) (by omega))]
      have ho2 : el Z27 (H.take (t + 1)) (t : Int) = q H t := by
        rw [← ho, lt, isub_i64 (by omega) (by omega), show (t : Int) + 1 - 1 = (t : Int) by omega]
      rw [ho2, N, bnd_some]
      unfold tourref2_Wrap.c7
      by_cases c : t + 1 = H.length
      · have e : nx (len H) (t : Int) = 0 := by unfold nx; rw [if_pos (by omega)]
        rw [e]
        refine (congrArg (fun b => bnd b _) ((congrArg (fun b => bif' b (some true) (some (Ty.eqb T27 (q H 0) (el Z27 (H.take (t + 1)) (isub .i64 (len (H.take (t + 1))) 1))))) ((eqb24 (q H 0) (q H 0)).trans (decide_eq_true rfl))).trans (bif_true _ _))).trans ?_
        rw [bnd_some, bif_true, c, List.take_length]
      · have e : nx (len H) (t : Int) = ((t + 1 : Nat) : Int) := by unfold nx; rw [if_neg (by omega)]; rfl
        have n1 : ¬ q H ((t + 1 : Nat) : Int) = q H 0 := EdgeP_ne he h3 (by omega) (by omega) (by omega) (by omega) (by omega)
        have n2 : ¬ q H ((t + 1 : Nat) : Int) = q H t := EdgeP_ne he h3 (by omega) (by omega) (by omega) (by omega) (by omega)
        rw [e]
        refine (congrArg (fun b => bnd b _) ((congrArg (fun b => bif' b (some true) (some (Ty.eqb T27 (q H ((t + 1 : Nat) : Int)) (el Z27 (H.take (t + 1)) (isub .i64 (len (H.take (t + 1))) 1))))) ((eqb24 (q H ((t + 1 : Nat) : Int)) (q H 0)).trans (decide_eq_false n1))).trans ((bif_false _ _).trans (congrArg some ((eqb24 (q H ((t + 1 : Nat) : Int)) (el Z27 (H.take (t + 1)) (isub .i64 (len (H.take (t + 1))) 1))).trans (decide_eq_false (fun g => n2 (g.trans ho)))))))).trans ?_
        rw [bnd_some, bif_false, req_pos (show room 16 (H.take (t + 1)) [q H ((t + 1 : Nat) : Int)] by
          show ((H.take (t + 1)).length + 1) * 16 ≤ 140737488355328
          rw [List.length_take]; omega), ← take_succ_q (by omega)]
        exact ih (t + 1) (by omega) (by omega)
  obtain ⟨x0, x00, x01, hx⟩ := hc 0 (by omega) (by omega)
  unfold tourref2_Wrap
  rw [ieq_neg (by omega), bif_false, req_pos (inL_of (by omega) (by omega))]
  show bnd (tourref2_Wrap.c1 k L k 0 (q L 0)) _ = _
  rw [Wrap_first hk he h3 hlow hl hin x00 x01 hx, bnd_some]
  have e1 : [q H 0] = H.take (0 + 1) := by rw [take_succ_q (by omega)]; rfl
  rw [e1, main k 0 (by omega) (by omega), bnd_some]
end

/-! All differences -/
theorem q_mem {l : List V27} {i : Int} (h0 : 0 ≤ i) (h1 : i < len l) : q l i ∈ l := by
  obtain ⟨i, rfl⟩ := Int.eq_ofNat_of_zero_le h0
  have hi : i < l.length := by unfold len at h1; omega
  show l.getD i Z27 ∈ l
  rw [List.getD_eq_getElem?_getD, List.getElem?_eq_getElem hi]
  exact List.getElem_mem hi
theorem mem_q {l : List V27} {x : V27} (h : x ∈ l) : ∃ i, 0 ≤ i ∧ i < len l ∧ q l i = x := by
  obtain ⟨i, hi, e⟩ := List.mem_iff_getElem.1 h
  refine ⟨i, by omega, by unfold len; omega, ?_⟩
  show l.getD i Z27 = x
  rw [List.getD_eq_getElem?_getD, List.getElem?_eq_getElem hi, ← e]
  rfl
end Go.Proofs.T1
