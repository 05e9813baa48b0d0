/-
  Plain laws: no program in sight.
-/
import Derived.Test.YtddbhngnhegndaaPlTurn
import Derived.Test.YtddbhngnhegndaaPlNearS
import Derived.Test.YtddbhngnhegndaaG8
namespace Go.Proofs.T1
open Go Go.Sx

/-! Bodies meet at the same time in both orders -/
theorem near_sym {k : Nat} (hk : 40 ≤ k) {a b : List V28} (va : Val a) (vb : Val b) : ∃ m n, near_Meet k a b = some (m, 0) ∧ near_Meet k b a = some (m, 0) ∧ near_Apart k a b = some (n, 0) ∧ near_Apart k b a = some (n, 0) ∧ 0 ≤ n ∧ n ≤ 1073741824 := by
  obtain ⟨l1, e1, D1, _⟩ := Minus_dif (k := k) (by omega) va vb
  obtain ⟨l2, e2, D2, _⟩ := Minus_dif (k := k) (by omega) vb va
  obtain ⟨m1, f1, h1⟩ := NMeet_eq hk va vb e1 D1
  obtain ⟨m2, f2, h2⟩ := NMeet_eq hk vb va e2 D2
  obtain ⟨n1, g1, n10, n11, A1, B1⟩ := NApart_eq hk va vb e1 D1
  obtain ⟨n2, g2, n20, n21, A2, B2⟩ := NApart_eq hk vb va e2 D2
  have iff_ : ∀ {a b l : List V28}, Val a → Val b → Dif a b l → (InP l zed ↔ NoSep a b ∧ NoSep b a) := by
    intro a b l ha hb D
    constructor
    · intro z
      obtain ⟨X, Y, w, hw, h1, h2⟩ := common ha.2.2.2 hb.2.2.2 D z
      exact ⟨noSep_of hb.2.2.2 hb.1 hw h1 h2, noSep_of ha.2.2.2 ha.1 hw h2 h1⟩
    · intro ⟨n1, n2⟩
      exact D.zero n1 n2
  have mm : m1 = m2 := by
    have i1 := iff_ va vb D1
    have i2 := iff_ vb va D2
    cases m1 <;> cases m2
    · rfl
    · have := i2.1 (h2.1 rfl)
      have := h1.2 (i1.2 ⟨this.2, this.1⟩)
      cases this
    · have := i1.1 (h1.1 rfl)
      have := h2.2 (i2.2 ⟨this.2, this.1⟩)
      cases this
    · rfl
  have nn : n1 = n2 := NrL_uniq n10 n20 A1 B1 (NrL_swap D2 D1 A2) (fun g => B2 (NrL_swap D1 D2 g))
  subst mm nn
  exact ⟨m1, n1, f1, f2, g1, g2, n10, n11⟩
theorem CM_nn {x : Int} (h : 0 ≤ x) : 0 ≤ CM x ∧ CM x ≤ 1099511627776 := by unfold CM; split <;> (try split) <;> omega
theorem FMul_nn {k : Nat} (hk : 2 ≤ k) {a b : Int} (ha : 0 ≤ a) (hb : 0 ≤ b) : ∃ r, fix_Mul k a b = some r ∧ 0 ≤ r ∧ r ≤ 1099511627776 := by
  have h := CM_nn (rnd_nn (show (0 : Int) < 65536 by decide) (Int.mul_nonneg (CM_nn ha).1 (CM_nn hb).1))
  exact ⟨_, FMul_tot hk a b, h.1, h.2⟩
section
variable {p v : V28} {ang spin mass inertia bounce rub : Int} {l : List V28}
theorem far_nn {k : Nat} (hk : 70 ≤ k) (hl : len l ≤ 8) (hr : AllR l) : ∃ r, reach_far k (p, v, ang, spin, mass, inertia, bounce, rub, l, false, 0, ()) = some r ∧ 0 ≤ r ∧ r ≤ 1099511627778 := by
  unfold reach_far
  have c1 : reach_far.c1 k (p, v, ang, spin, mass, inertia, bounce, rub, l, false, 0, ()) = some (decide (mass = 0)) := by
    unfold reach_far.c1
    dsimp only
    by_cases h : mass = 0
    · rw [ieq_pos h, bif_true, decide_eq_true h]
    · rw [ieq_neg h, bif_false, decide_eq_false h]
  rw [c1, bnd_some]
  by_cases h : mass = 0
  · rw [decide_eq_true h, bif_true]
    exact ⟨0, rfl, by decide, by decide⟩
  rw [decide_eq_false h, bif_false]
  obtain ⟨s, ⟨s0, s1⟩, e⟩ := inv_loop (fun n s i => reach_far.c2 k (p, v, ang, spin, mass, inertia, bounce, rub, l, false, 0, ()) n s i) 0 (len l) (fun s _ => 0 ≤ s ∧ s ≤ 1099511627778)
    (by
      intro n s i i0 i1 ⟨a, b⟩
      have hi := hr i i0 i1
      obtain ⟨r, e, g⟩ := vLen_eq hk (v := q l i) (by omega)
      have e : vec_Len k (el Z28 l i) = some (CM r) := e
      have c := CM_nn g.1
      refine ⟨imax s (CM r + 2), by unfold imax; split <;> omega, ?_⟩
      show reach_far.c2 k (p, v, ang, spin, mass, inertia, bounce, rub, l, false, 0, ()) (n + 1) s i = _
      rw [reach_far.c2]
      dsimp only
      rw [ilt_pos i1, bif_true, req_pos (inL_of i0 i1), e, bnd_some, iadd_i64 (x := CM r) (by omega) (by omega), iadd_i64 (x := i) (by omega) (by omega)])
    (by
      intro n s i i0 i1
      show reach_far.c2 k (p, v, ang, spin, mass, inertia, bounce, rub, l, false, 0, ()) (n + 1) s i = some s
      rw [reach_far.c2]
      dsimp only
      rw [ilt_neg i1, bif_false])
    k 0 0 (by omega) (by unfold len; omega) (by omega) ⟨by decide, by decide⟩
  have e : reach_far.c2 k (p, v, ang, spin, mass, inertia, bounce, rub, l, false, 0, ()) k 0 0 = some s := e
  rw [e, bnd_some]
  exact ⟨s, rfl, s0, s1⟩
theorem turning_nn {k : Nat} (hk : 70 ≤ k) (hl : len l ≤ 8) (hr : AllR l) (hs : -16777216 ≤ spin ∧ spin ≤ 16777216) {st : Int} (st0 : 0 ≤ st) : ∃ r, reach_turning k (p, v, ang, spin, mass, inertia, bounce, rub, l, false, 0, ()) st = some r ∧ 0 ≤ r ∧ r ≤ 1099511627780 := by
  unfold reach_turning
  have c1 : reach_turning.c1 k (p, v, ang, spin, mass, inertia, bounce, rub, l, false, 0, ()) = some (decide (mass = 0)) := by
    unfold reach_turning.c1
    dsimp only
    by_cases h : mass = 0
    · rw [ieq_pos h, bif_true, decide_eq_true h]
    · rw [ieq_neg h, bif_false, decide_eq_false h]
  rw [c1, bnd_some]
  by_cases h : mass = 0
  · rw [decide_eq_true h, bif_true]
    exact ⟨0, rfl, by decide, by decide⟩
  rw [decide_eq_false h, bif_false]
  dsimp only
  obtain ⟨f, ef, f0, f1⟩ := far_nn (p := p) (v := v) (ang := ang) (spin := spin) (mass := mass) (inertia := inertia) (bounce := bounce) (rub := rub) hk hl hr
  have im : imax spin (ineg .i64 spin) = mag spin := imax_mag (by omega) (by omega)
  rw [im]
  obtain ⟨a, ea, a0, a1⟩ := FMul_nn (k := k) (by omega) (a := mag spin) (b := 411775) (mag_bd (M := 16777216) hs.1 hs.2).1 (by decide)
  obtain ⟨b, eb, b0, b1⟩ := FMul_nn (k := k) (by omega) a0 f0
  obtain ⟨c, ec, c0, c1⟩ := FMul_nn (k := k) (by omega) b0 st0
  rw [ea, bnd_some, ef, bnd_some, eb, bnd_some, ec, bnd_some, iadd_i64 (by omega) (by omega)]
  exact ⟨_, rfl, by omega, by omega⟩
/-- Where a body is, later. -/
theorem Move_made {k : Nat} (hk : 9 ≤ k) (h : BMade p v ang spin mass inertia bounce rub l) {st : Int} (s0 : 0 ≤ st) (s1 : st ≤ 65536) :
    ∃ p' ang', body_Move k (p, v, ang, spin, mass, inertia, bounce, rub, l, false, 0, ()) st = some (p', v, ang', spin, mass, inertia, bounce, rub, l, false, 0, ()) ∧ body_Check k (p', v, ang', spin, mass, inertia, bounce, rub, l, false, 0, ()) = some 0 ∧ (mass = 0 → p' = p ∧ ang' = ang) := by
  have hc := h.check hk
  by_cases hm : mass = 0
  · exact ⟨p, ang, Move_still h.hl 0 st hc (Or.inl hm), hc, fun _ => ⟨rfl, rfl⟩⟩
  have c1 : body_Move.c1 k st (p, v, ang, spin, mass, inertia, bounce, rub, l, false, 0, ()) = some false := by
    unfold body_Move.c1
    rw [hc, bnd_some, ine_neg rfl, bif_false]
    dsimp only
    rw [ieq_neg hm, bif_false, bif_false, ilt_neg s0, bif_false, igt_neg (by omega)]
  have cl : ∀ x : Int, ∃ y, body_clamp k x 58982400 = some y ∧ -58982400 ≤ y ∧ y ≤ 58982400 := by
    intro x
    refine ⟨_, clamp_tot k x (by decide) (by decide), ?_⟩
    split <;> (try split) <;> omega
  obtain ⟨x, ex, x0, x1⟩ := cl (iadd .i64 p.1 (CM (rnd (CM v.1 * CM st) 65536)))
  obtain ⟨y, ey, y0, y1⟩ := cl (iadd .i64 p.2.1 (CM (rnd (CM v.2.1 * CM st) 65536)))
  have ar : ∀ z : Int, 0 ≤ irem (iadd .i64 (irem z 65536) 65536) 65536 ∧ irem (iadd .i64 (irem z 65536) 65536) 65536 ≤ 65535 := by
    intro z
    have r := irem_range z (m := 65536) (by decide)
    rw [iadd_i64 (by omega) (by omega), irem_nonneg (by omega)]
    omega
  have a := ar (iadd .i64 ang (CM (rnd (CM spin * CM st) 65536)))
  have h2 := h.hv
  have h3 := h.hspin
  have h4 := h.hw
  refine ⟨(x, y, ()), irem (iadd .i64 (irem (iadd .i64 ang (CM (rnd (CM spin * CM st) 65536))) 65536) 65536) 65536, ?_, ?_, fun g => absurd g hm⟩
  · unfold body_Move
    rw [own_eq h.hl, bnd_some, c1, bnd_some, bif_false]
    dsimp only
    rw [FMul_tot (by omega), bnd_some, ex, bnd_some, FMul_tot (by omega), bnd_some, ey, bnd_some, FMul_tot (by omega), bnd_some]
  · refine bodyCheck_ok hk h.hl (by dsimp only; omega) (by omega) (by omega) a (by omega) (by omega) h.hbounce h.hrub (by decide) ?_ ?_ (fun h => by cases h)
    · omega
    · intro g
      exact absurd g hm
end
end Go.Proofs.T1
namespace Go.Proofs.T1
open Go Go.Sx

/-! ReachBoth -/
theorem iadd_swap (x y z : Int) : iadd .i64 (iadd .i64 x y) z = iadd .i64 (iadd .i64 x z) y := by
  show IntKind.i64.wrap (IntKind.i64.wrap (x + y) + z) = IntKind.i64.wrap (IntKind.i64.wrap (x + z) + y)
  obtain ⟨a, ha⟩ := wrap_i64_mod (x + y)
  obtain ⟨b, hb⟩ := wrap_i64_mod (x + z)
  rw [wrap_i64_eq, wrap_i64_eq (IntKind.i64.wrap (x + z) + y), ha, hb]
  have e : (x + y - a * 18446744073709551616 + z) % 18446744073709551616 = (x + z - b * 18446744073709551616 + y) % 18446744073709551616 := by omega
  rw [e]
section
variable {k : Nat} {A B : V39} {st : Int}
/-- What the two bodies do at a time. -/
def StepP (k : Nat) (A B : V39) (st : Int) (m0 : Bool) (still : Prop) (t : Int) : Prop := ∃ y a' b' P Q m n, fix_Mul k st t = some y ∧ body_Move k A y = some a' ∧ body_Move k B y = some b' ∧ body_Place k a' = some P ∧ body_Place k b' = some Q ∧
  near_Meet k P Q = some (m, 0) ∧ near_Meet k Q P = some (m, 0) ∧ near_Apart k P Q = some (n, 0) ∧ near_Apart k Q P = some (n, 0) ∧ (0 ≤ n ∧ n ≤ 1073741824) ∧ ((still ∨ t = 0) → m = m0)
theorem Time_loop {m0 : Bool} {still : Prop} (H : ∀ t, 0 ≤ t → t ≤ 65536 → StepP k A B st m0 still t) {y1 y4 : Int} {f g : Int} (h1 : 1 ≤ y1) (h4 : 0 ≤ y4 ∧ y4 ≤ 35184372088832) (hf : 0 ≤ f ∧ f ≤ 35184372088832) (hg : 0 ≤ g ∧ g ≤ 35184372088832) :
    ∀ (n : Nat) (t : Int), 0 ≤ t → t ≤ 65536 → 65536 - t ≤ 256 * ((n : Int) - 1) → ∃ r, reach_Time.c1 k A B st (y1, 0) (y4, 0) f g n t = some r ∧ reach_Time.c1 k B A st (y1, 0) (y4, 0) g f n t = some r ∧ (r.2 = true → t ≤ r.1) ∧ (m0 = true → (still ∨ t = 0) → r = (t, true)) ∧ (m0 = false → still → r.2 = false) ∧ (m0 = false → t = 0 → ¬ (r.2 = true ∧ r.1 = 0)) := by
  intro n
  induction n with
  | zero => intro t t0 t1 hn; omega
  | succ n ih =>
    intro t t0 t1 hn
    obtain ⟨y, a', b', P, Q, m, d, e1, e2, e3, e4, e5, e6, e7, e8, e9, ⟨d0, d1⟩, hm⟩ := H t t0 t1
    rw [reach_Time.c1, reach_Time.c1]
    simp only [e1, e2, e3, e4, e5, e6, e7, bnd_some]
    cases m with
    | true =>
      rw [bif_true, bif_true]
      refine ⟨(t, true), rfl, rfl, fun _ => Int.le_refl _, fun _ _ => rfl, fun h g => ?_, fun h g => ?_⟩
      · have := hm (Or.inl g)
        rw [h] at this
        cases this
      · have := hm (Or.inr g)
        rw [h] at this
        cases this
    | false =>
      rw [bif_false, bif_false]
      by_cases c : t = 65536
      · rw [ieq_pos c, bif_true, bif_true]
        refine ⟨(0, false), rfl, rfl, fun h => (by cases h), fun h g => ?_, fun _ _ => rfl, fun _ _ h => (by cases h.1)⟩
        have := hm g
        rw [h] at this
        cases this
      · rw [ieq_neg c, bif_false, bif_false, e8, bnd_some, e9, bnd_some, req_pos (show nz y1 by unfold nz; omega), req_pos (show nz y1 by unfold nz; omega)]
        dsimp only
        rw [iadd_swap _ (iquo .i64 (imul .i64 14 g) 65536) (iquo .i64 (imul .i64 14 f) 65536)]
        -- the slack
        have sl : ∃ s, iadd .i64 (iadd .i64 (iadd .i64 16 (imul .i64 2 (iquo .i64 y4 65536))) (iquo .i64 (imul .i64 14 f) 65536)) (iquo .i64 (imul .i64 14 g) 65536) = s ∧ 0 ≤ s ∧ s ≤ 4611686018427387904 := by
          rw [iquo_i64 h4.1 (by omega) (by decide), imul_i64 (x := 2) (by omega) (by omega), imul_i64 (x := 14) (y := f) (by omega) (by omega), imul_i64 (x := 14) (y := g) (by omega) (by omega), iquo_i64 (by omega) (by omega) (by decide), iquo_i64 (by omega) (by omega) (by decide), iadd_i64 (x := 16) (by omega) (by omega), iadd_i64 (x := 16 + 2 * (y4 / 65536)) (by omega) (by omega), iadd_i64 (by omega) (by omega)]
          exact ⟨_, rfl, by omega, by omega⟩
        obtain ⟨s, es, s0, s1⟩ := sl
        rw [es]
        have adv : ∃ z, iquo .i64 (imul .i64 (imax 0 (isub .i64 d s)) 65536) y1 = z ∧ 0 ≤ z ∧ z ≤ 70368744177664 := by
          rw [isub_i64 (by omega) (by omega)]
          have mx : 0 ≤ imax 0 (d - s) ∧ imax 0 (d - s) ≤ 1073741824 := by unfold imax; split <;> omega
          generalize imax 0 (d - s) = w at *
          rw [imul_i64 (by omega) (by omega), iquo_i64 (by omega) (by omega) (by omega)]
          refine ⟨_, rfl, Int.ediv_nonneg (by omega) (by omega), ?_⟩
          have := Int.ediv_le_self y1 (show 0 ≤ w * 65536 by omega)
          omega
        obtain ⟨z, ez, z0, z1⟩ := adv
        rw [ez]
        have nt : imin 65536 (iadd .i64 t (imax 256 z)) = (if t + (imax 256 z) < 65536 then t + imax 256 z else 65536) := by
          have mx : 256 ≤ imax 256 z ∧ imax 256 z ≤ 70368744177664 := by unfold imax; split <;> omega
          rw [iadd_i64 (by omega) (by omega)]
          rfl
        have mx : 256 ≤ imax 256 z := by unfold imax; split <;> omega
        rw [nt]
        obtain ⟨r, r1, r2, r3, r4, r5, r6⟩ := ih (if t + (imax 256 z) < 65536 then t + imax 256 z else 65536) (by split <;> omega) (by split <;> omega) (by split <;> omega)
        have up : t < (if t + (imax 256 z) < 65536 then t + imax 256 z else 65536) := by split <;> omega
        refine ⟨r, r1, r2, fun h => by have := r3 h; omega, fun h g => ?_, fun h g => r5 h g, fun h g q => ?_⟩
        · have := hm g
          rw [h] at this
          cases this
        · have := r3 q.1
          omega
end
theorem reaches_eq : tourkeep2_reaches 400 = some true := by kernel_rfl
section
variable {p v : V28} {ang spin mass inertia bounce rub : Int} {l : List V28}
theorem made_shape (h : BMade p v ang spin mass inertia bounce rub l) : len l ≤ 8 ∧ AllR l := ⟨by have := h.hl.1.2.1; omega, fun i a b => by have := h.hl.1.2.2.1 i a b; omega⟩
end
theorem Bound_sym {k : Nat} (hk : 70 ≤ k) {p v : V28} {ang spin mass inertia bounce rub : Int} {l : List V28} {p2 v2 : V28} {ang2 spin2 mass2 inertia2 bounce2 rub2 : Int} {l2 : List V28}
    (h : BMade p v ang spin mass inertia bounce rub l) (h2 : BMade p2 v2 ang2 spin2 mass2 inertia2 bounce2 rub2 l2) {st : Int} (s0 : 0 ≤ st) (s1 : st ≤ 65536) :
    ∃ n, reach_Bound k (p, v, ang, spin, mass, inertia, bounce, rub, l, false, 0, ()) (p2, v2, ang2, spin2, mass2, inertia2, bounce2, rub2, l2, false, 0, ()) st = some (n, 0) ∧
      reach_Bound k (p2, v2, ang2, spin2, mass2, inertia2, bounce2, rub2, l2, false, 0, ()) (p, v, ang, spin, mass, inertia, bounce, rub, l, false, 0, ()) st = some (n, 0) ∧ 8 ≤ n ∧ n ≤ 35184372088832 := by
  have c1 : ∀ {X Y : V39}, body_Check k X = some 0 → body_Check k Y = some 0 → reach_Bound.c1 k X Y k 0 = some (.inr ()) := by
    intro X Y hX hY
    have hl : len [X, Y] = 2 := rfl
    have run : ∀ f : Nat, reach_Bound.c1 k X Y (f + 3) 0 = some (.inr ()) := by
      intro f
      rw [reach_Bound.c1, hl, ilt_pos (by decide), bif_true, req_pos (inL_of (by decide) (by rw [hl]; decide))]
      show bnd (body_Check k X) _ = _
      rw [hX, bnd_some, ine_neg rfl, bif_false, iadd_i64 (by decide) (by decide)]
      show reach_Bound.c1 k X Y (f + 2) 1 = _
      rw [reach_Bound.c1, hl, ilt_pos (by decide), bif_true, req_pos (inL_of (by decide) (by rw [hl]; decide))]
      show bnd (body_Check k Y) _ = _
      rw [hY, bnd_some, ine_neg rfl, bif_false, iadd_i64 (by decide) (by decide)]
      show reach_Bound.c1 k X Y (f + 1) 2 = _
      rw [reach_Bound.c1, hl, ilt_neg (by decide), bif_false]
    have r := run (k - 3)
    rw [show k - 3 + 3 = k by omega] at r
    exact r
  have c2 : reach_Bound.c2 k st = some false := by
    unfold reach_Bound.c2
    rw [ilt_neg s0, bif_false, igt_neg s1]
  have sp := h.hspin
  have sp2 := h2.hspin
  have hv := h.hv
  have hv2 := h2.hv
  have m1 := made_shape h
  have m2 := made_shape h2
  obtain ⟨t1, et1, t10, t11⟩ := turning_nn (p := p) (v := v) (ang := ang) (spin := spin) (mass := mass) (inertia := inertia) (bounce := bounce) (rub := rub) hk m1.1 m1.2 (by omega) s0
  obtain ⟨t2, et2, t20, t21⟩ := turning_nn (p := p2) (v := v2) (ang := ang2) (spin := spin2) (mass := mass2) (inertia := inertia2) (bounce := bounce2) (rub := rub2) hk m2.1 m2.2 (by omega) s0
  obtain ⟨r1, er1, g1⟩ := vLen_eq hk (v := v) (by omega)
  obtain ⟨r2, er2, g2⟩ := vLen_eq hk (v := v2) (by omega)
  have q1 := CM_nn g1.1
  have q2 := CM_nn g2.1
  obtain ⟨w, ew, w0, w1⟩ := FMul_nn (k := k) (by omega) (a := CM r1 + CM r2 + 4) (b := st) (by omega) s0
  have C1 := h.check (k := k) (by omega)
  have C2 := h2.check (k := k) (by omega)
  refine ⟨w + 8 + t1 + t2, ?_, ?_, by omega, by omega⟩
  · unfold reach_Bound
    rw [c1 C1 C2, bnd_some, two_inr, c2, bnd_some, bif_false]
    dsimp only
    rw [er1, bnd_some, er2, bnd_some, iadd_i64 (x := CM r1) (by omega) (by omega), iadd_i64 (x := CM r1 + CM r2) (by omega) (by omega), ew, bnd_some, et1, bnd_some, et2, bnd_some, iadd_i64 (x := w) (by omega) (by omega), iadd_i64 (x := w + 8) (by omega) (by omega), iadd_i64 (by omega) (by omega)]
  · unfold reach_Bound
    rw [c1 C2 C1, bnd_some, two_inr, c2, bnd_some, bif_false]
    dsimp only
    rw [er2, bnd_some, er1, bnd_some, iadd_i64 (x := CM r2) (by omega) (by omega), iadd_i64 (x := CM r2 + CM r1) (by omega) (by omega), show CM r2 + CM r1 + 4 = CM r1 + CM r2 + 4 by omega, ew, bnd_some, et2, bnd_some, et1, bnd_some, iadd_i64 (x := w) (by omega) (by omega), iadd_i64 (x := w + 8) (by omega) (by omega), iadd_i64 (by omega) (by omega)]
    congr 2
    omega
theorem ReachBoth_true (ra rb : List Int) (sx : Int) : tourkeep2_ReachBoth 400 ra rb sx = some true := by
  obtain ⟨p, v, ang, spin, mass, inertia, bounce, rub, l, ea, h⟩ := Body_made 400 ra
  obtain ⟨p2, v2, ang2, spin2, mass2, inertia2, bounce2, rub2, l2, eb, h2⟩ := Body_made 400 rb
  obtain ⟨st, es, s0, s1⟩ := Below_eq 400 sx (n := 65537) (by decide) (by decide)
  have hk : 70 ≤ 400 := by decide
  have C1 := h.check (k := 400) (by decide)
  have C2 := h2.check (k := 400) (by decide)
  obtain ⟨P0, eP, vP, _⟩ := Place_val (k := 400) (by decide) C1
  obtain ⟨Q0, eQ, vQ, _⟩ := Place_val (k := 400) (by decide) C2
  obtain ⟨m0, n0, M1, M2, A1, A2, nb0⟩ := near_sym (k := 400) (by decide) vP vQ
  obtain ⟨y1, b1, b2, b3, b4⟩ := Bound_sym hk h h2 s0 (by omega)
  obtain ⟨y4, d1, d2, d3, d4⟩ := Bound_sym hk h h2 (st := 65536) (by decide) (by decide)
  have ms1 := made_shape h
  have ms2 := made_shape h2
  obtain ⟨f, ef, f0, f1⟩ := far_nn (p := p) (v := v) (ang := ang) (spin := spin) (mass := mass) (inertia := inertia) (bounce := bounce) (rub := rub) hk ms1.1 ms1.2
  obtain ⟨g, eg, g0, g1⟩ := far_nn (p := p2) (v := v2) (ang := ang2) (spin := spin2) (mass := mass2) (inertia := inertia2) (bounce := bounce2) (rub := rub2) hk ms2.1 ms2.2
  have H : ∀ t, 0 ≤ t → t ≤ 65536 → StepP 400 (p, v, ang, spin, mass, inertia, bounce, rub, l, false, 0, ()) (p2, v2, ang2, spin2, mass2, inertia2, bounce2, rub2, l2, false, 0, ()) st m0 (mass = 0 ∧ mass2 = 0) t := by
    intro t t0 t1
    have mb := mul_bd (x := st) (y := t) (M := 65536) (N := 65536) (by omega) (by omega) (by omega) (by omega)
    have mn := Int.mul_nonneg s0 t0
    have rb := rnd_bd (x := st * t) (n := 65536) (c := 65536) (by decide) (by omega) (by omega)
    have rn := rnd_nn (x := st * t) (n := 65536) (by decide) mn
    have em : fix_Mul 400 st t = some (rnd (st * t) 65536) := by
      rw [FMul_tot (by decide), CM_in (x := st) (by omega) (by omega), CM_in (x := t) (by omega) (by omega), CM_in (by omega) (by omega)]
    by_cases z : t = 0
    · -- nothing has moved
      have e0 : rnd (st * t) 65536 = 0 := by rw [z, Int.mul_zero]; rfl
      rw [e0] at em
      exact ⟨0, _, _, P0, Q0, m0, n0, em, Move_zero (by decide) h, Move_zero (by decide) h2, eP, eQ, M1, M2, A1, A2, nb0, fun _ => rfl⟩
    · obtain ⟨p', ang', a1, a2, a3⟩ := Move_made (k := 400) (by decide) h rn rb.2
      obtain ⟨p2', ang2', c1, c2, c3⟩ := Move_made (k := 400) (by decide) h2 rn rb.2
      obtain ⟨P, eP', vP', _⟩ := Place_val (k := 400) (by decide) a2
      obtain ⟨Q, eQ', vQ', _⟩ := Place_val (k := 400) (by decide) c2
      obtain ⟨m, n, N1, N2, B1, B2, nb⟩ := near_sym (k := 400) (by decide) vP' vQ'
      refine ⟨_, _, _, P, Q, m, n, em, a1, c1, eP', eQ', N1, N2, B1, B2, nb, fun q => ?_⟩
      rcases q with q | q
      · obtain ⟨w1, w2⟩ := a3 q.1
        obtain ⟨w3, w4⟩ := c3 q.2
        subst w1 w2 w3 w4
        rw [eP] at eP'
        rw [eQ] at eQ'
        cases eP'
        cases eQ'
        rw [M1] at N1
        cases N1
        rfl
      · exact absurd q z
  obtain ⟨r, r1, r2, _, r4, r5, r6⟩ := Time_loop H (by omega) ⟨by omega, d4⟩ ⟨f0, by omega⟩ ⟨g0, by omega⟩ 400 0 (by decide) (by decide) (by decide) (y1 := y1) (y4 := y4)
  obtain ⟨rt, rm⟩ := r
  have T1 : reach_Time 400 (p, v, ang, spin, mass, inertia, bounce, rub, l, false, 0, ()) (p2, v2, ang2, spin2, mass2, inertia2, bounce2, rub2, l2, false, 0, ()) st = some (rt, rm, 0) := by
    unfold reach_Time
    rw [b1, bnd_some, ine_neg rfl, bif_false, d1, bnd_some, ef, bnd_some, eg, bnd_some, r1, bnd_some]
  have T2 : reach_Time 400 (p2, v2, ang2, spin2, mass2, inertia2, bounce2, rub2, l2, false, 0, ()) (p, v, ang, spin, mass, inertia, bounce, rub, l, false, 0, ()) st = some (rt, rm, 0) := by
    unfold reach_Time
    rw [b2, bnd_some, ine_neg rfl, bif_false, d2, bnd_some, eg, bnd_some, ef, bnd_some, r2, bnd_some]
  have eb4 : ∀ x : Bool, Ty.eqb T4 x x = true := fun x => beq_self_eq_true x
  have c1 : tourkeep2_ReachBoth.c1 400 (rt, rm, 0) (rt, rm, 0) (m0, 0) = some false := by
    unfold tourkeep2_ReachBoth.c1
    rw [reaches_eq, bnd_some, bif_true]
    dsimp only
    rw [ine_neg rfl, bif_false, bif_false, bif_false, ine_neg rfl, bif_false]
    refine (congrArg (fun x => bif' x _ _) (eb4 rm)).trans ?_
    rw [bif_true]
    cases m0 with
    | true =>
      have := r4 rfl (Or.inr rfl)
      cases this
      rw [bif_true, ieq_pos rfl]
      rfl
    | false =>
      have := r6 rfl rfl
      cases rm with
      | false => rw [bif_false]; rfl
      | true =>
        rw [bif_true, ieq_neg (fun g => this ⟨rfl, g⟩)]
        rfl
  unfold tourkeep2_ReachBoth
  rw [ea, bnd_some, eb, bnd_some, es, bnd_some, T1, bnd_some, T2, bnd_some, eP, bnd_some, eQ, bnd_some, M1, bnd_some, c1, bnd_some, bif_false]
  dsimp only
  by_cases g1 : mass > 0
  · rw [igt_pos g1, bif_true]
  rw [igt_neg (by omega), bif_false]
  by_cases g2 : mass2 > 0
  · rw [igt_pos g2, bif_true]
  rw [igt_neg (by omega), bif_false]
  have z1 : mass = 0 := by rcases h.hw with q | q <;> omega
  have z2 : mass2 = 0 := by rcases h2.hw with q | q <;> omega
  have : rm = m0 := by
    cases m0 with
    | true =>
      have := r4 rfl (Or.inr rfl)
      cases this
      rfl
    | false => exact r5 rfl ⟨z1, z2⟩
  rw [this]
  exact congrArg some (eb4 m0)
theorem tourkeep2_ReachBoth_plain (x : ((.pair T22 (.pair T22 (.pair T2 .unit))) : Ty).den) (_ : Ty.wf (.pair T22 (.pair T22 (.pair T2 .unit))) x) : ∃ k, (tourkeep2_ReachBoth.sp k).f x = some true := by
  have h := ReachBoth_true x.1 x.2.1 x.2.2.1
  obtain ⟨K, hK⟩ : ∃ K : Nat, K = 400 := ⟨_, rfl⟩
  rw [← hK] at h
  exact ⟨K, h⟩
end Go.Proofs.T1
