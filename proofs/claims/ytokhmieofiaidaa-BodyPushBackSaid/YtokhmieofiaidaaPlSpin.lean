/-
  Plain laws: no program in sight.
-/
import Derived.Test.YtokhmieofiaidaaPlBody
namespace Go.Proofs.T1
open Go Go.Sx

theorem rnd_sum {x y n : Int} (hn : 0 < n) : n * (rnd x n + rnd y n) ≤ x + y + n ∧ x + y - n < n * (rnd x n + rnd y n) := by
  unfold rnd
  have a1 := Int.mul_ediv_add_emod (2 * x + n) (2 * n)
  have a2 := Int.emod_nonneg (2 * x + n) (show 2 * n ≠ 0 by omega)
  have a3 := Int.emod_lt_of_pos (2 * x + n) (show 0 < 2 * n by omega)
  have b1 := Int.mul_ediv_add_emod (2 * y + n) (2 * n)
  have b2 := Int.emod_nonneg (2 * y + n) (show 2 * n ≠ 0 by omega)
  have b3 := Int.emod_lt_of_pos (2 * y + n) (show 0 < 2 * n by omega)
  generalize (2 * x + n) / (2 * n) = r at *
  generalize (2 * y + n) / (2 * n) = s at *
  generalize (2 * x + n) % (2 * n) = u at *
  generalize (2 * y + n) % (2 * n) = w at *
  have e1 : 2 * n * r = 2 * (n * r) := by grind
  have e2 : 2 * n * s = 2 * (n * s) := by grind
  have e3 : n * (r + s) = n * r + n * s := by grind
  rw [e3]
  omega
theorem rnd_opp {x n : Int} (hn : 0 < n) : 0 ≤ rnd x n + rnd (-x) n ∧ rnd x n + rnd (-x) n ≤ 1 := by
  have h := rnd_sum (x := x) (y := -x) hn
  generalize rnd x n + rnd (-x) n = t at *
  constructor
  · rcases Int.lt_or_le t 0 with g | g
    · have : n * t ≤ n * (-1) := Int.mul_le_mul_of_nonneg_left (by omega) (by omega)
      omega
    · exact g
  · rcases Int.lt_or_le 1 t with g | g
    · have : n * 2 ≤ n * t := Int.mul_le_mul_of_nonneg_left (by omega) (by omega)
      omega
    · exact g

section
variable {p v : V24} {ang spin mass inertia bounce rub : Int} {l : List V24}

/-- The velocity of a point. -/
theorem At_made {k : Nat} (hk : 9 ≤ k) (h : BMade p v ang spin mass inertia bounce rub l) {r : V24} (hr : -786432 ≤ r.1 ∧ r.1 ≤ 786432 ∧ -786432 ≤ r.2.1 ∧ r.2.1 ≤ 786432) {a : V24} (ha : a.1 = p.1 + r.1 ∧ a.2.1 = p.2.1 + r.2.1) :
    body_At k (p, v, ang, spin, mass, inertia, bounce, rub, l, false, 0, ()) a = some (v.1 - rnd (rnd (spin * 411775) 65536 * r.2.1) 65536, v.2.1 + rnd (rnd (spin * 411775) 65536 * r.1) 65536, ()) ∧
    (-3000000 ≤ rnd (rnd (spin * 411775) 65536 * r.2.1) 65536 ∧ rnd (rnd (spin * 411775) 65536 * r.2.1) 65536 ≤ 3000000) ∧ (-3000000 ≤ rnd (rnd (spin * 411775) 65536 * r.1) 65536 ∧ rnd (rnd (spin * 411775) 65536 * r.1) 65536 ≤ 3000000) := by
  have h1 := h.hp
  have h2 := h.hv
  have h3 := h.hspin
  have hw : -205888 ≤ rnd (spin * 411775) 65536 ∧ rnd (spin * 411775) 65536 ≤ 205888 := rnd_bd (by decide) (by omega) (by omega)
  have b1 := mul_bd (x := rnd (spin * 411775) 65536) (y := r.2.1) (M := 205888) (N := 786432) (by omega) (by omega) (by omega) (by omega)
  have b2 := mul_bd (x := rnd (spin * 411775) 65536) (y := r.1) (M := 205888) (N := 786432) (by omega) (by omega) (by omega) (by omega)
  have c1 := rnd_bd (x := rnd (spin * 411775) 65536 * r.2.1) (n := 65536) (c := 3000000) (by decide) (by omega) (by omega)
  have c2 := rnd_bd (x := rnd (spin * 411775) 65536 * r.1) (n := 65536) (c := 3000000) (by decide) (by omega) (by omega)
  refine ⟨?_, c1, c2⟩
  unfold body_At vec_Sub
  rw [h.check hk, bnd_some, ine_neg rfl, bif_false]
  dsimp only
  rw [FSub_eq k (by omega) (by omega), bnd_some, FSub_eq k (by omega) (by omega), bnd_some, bnd_some]
  have d1 : CM (a.1 - p.1) = r.1 := by rw [CM_in (by omega) (by omega)]; omega
  have d2 : CM (a.2.1 - p.2.1) = r.2.1 := by rw [CM_in (by omega) (by omega)]; omega
  rw [d1, d2, Mul_eq (by omega) (by omega) (by decide), bnd_some, CM_in (by omega) (by omega)]
  dsimp only
  rw [Mul_eq (by omega) (by omega) (by omega), bnd_some, CM_in (by omega) (by omega), FSub_eq k (by omega) (by omega), bnd_some, CM_in (by omega) (by omega), Mul_eq (by omega) (by omega) (by omega), bnd_some, CM_in (by omega) (by omega), FAdd_eq k (by omega) (by omega), bnd_some, CM_in (by omega) (by omega)]
end

theorem BodySpins_true (raw : List Int) (x y : Int) : tourkeep2_BodySpins 16 raw x y = some true := by
  have hk : 9 ≤ 16 := by decide
  obtain ⟨p, v, ang, spin, mass, inertia, bounce, rub, l, e1, h⟩ := Body_made 16 raw
  obtain ⟨r, e2, r1, r2, r3, r4⟩ := place_eq 16 x y
  have h1 := h.hp
  have h2 := h.hv
  have va : vec_Add 16 p r = some (p.1 + r.1, p.2.1 + r.2.1, ()) := by
    unfold vec_Add
    rw [FAdd_eq 16 (by omega) (by omega), bnd_some, FAdd_eq 16 (by omega) (by omega), bnd_some, CM_in (by omega) (by omega), CM_in (by omega) (by omega)]
  have vs : vec_Sub 16 p r = some (p.1 - r.1, p.2.1 - r.2.1, ()) := by
    unfold vec_Sub
    rw [FSub_eq 16 (by omega) (by omega), bnd_some, FSub_eq 16 (by omega) (by omega), bnd_some, CM_in (by omega) (by omega), CM_in (by omega) (by omega)]
  obtain ⟨a0, _, _⟩ := At_made hk h (r := (0, 0, ())) (a := p) (by decide) (by dsimp only; omega)
  obtain ⟨a1, b1, b2⟩ := At_made hk h (r := r) (a := (p.1 + r.1, p.2.1 + r.2.1, ())) (by omega) (by dsimp only; omega)
  obtain ⟨a2, b3, b4⟩ := At_made hk h (r := (-r.1, -r.2.1, ())) (a := (p.1 - r.1, p.2.1 - r.2.1, ())) (by dsimp only; omega) (by dsimp only; omega)
  dsimp only at a0 a2 b3 b4
  have z0 : rnd (rnd (spin * 411775) 65536 * 0) 65536 = 0 := by rw [Int.mul_zero]; rfl
  rw [z0] at a0
  have a0 : body_At 16 (p, v, ang, spin, mass, inertia, bounce, rub, l, false, 0, ()) p = some v := by
    rw [a0, show v.1 - 0 = v.1 by omega, show v.2.1 + 0 = v.2.1 by omega]
  rw [Int.mul_neg] at a2 b3
  rw [Int.mul_neg] at a2 b4
  have o1 := rnd_opp (x := rnd (spin * 411775) 65536 * r.2.1) (n := 65536) (by decide)
  have o2 := rnd_opp (x := rnd (spin * 411775) 65536 * r.1) (n := 65536) (by decide)
  generalize rnd (rnd (spin * 411775) 65536 * r.2.1) 65536 = A at *
  generalize rnd (rnd (spin * 411775) 65536 * r.1) 65536 = B at *
  generalize rnd (-(rnd (spin * 411775) 65536 * r.2.1)) 65536 = A' at *
  generalize rnd (-(rnd (spin * 411775) 65536 * r.1)) 65536 = B' at *
  unfold tourkeep2_BodySpins
  rw [e1, bnd_some, e2, bnd_some]
  dsimp only
  rw [a0, bnd_some, va, bnd_some, a1, bnd_some, vs, bnd_some, a2, bnd_some]
  have hc1 : tourkeep2_BodySpins.c1 16 (p, v, ang, spin, mass, inertia, bounce, rub, l, false, 0, ()) v = some false := by
    unfold tourkeep2_BodySpins.c1
    rw [pushes_eq, bnd_some, bif_true]
    exact congrArg (fun b => some (!b)) (eqb24_self v)
  rw [hc1, bnd_some, bif_false]
  dsimp only
  have f1 : isub .i64 (iadd .i64 (v.1 - A) (v.1 - A')) (imul .i64 2 v.1) = -(A + A') := by
    rw [iadd_i64 (by omega) (by omega), imul_i64 (by omega) (by omega), isub_i64 (by omega) (by omega)]
    omega
  have f2 : isub .i64 (iadd .i64 (v.2.1 + B) (v.2.1 + B')) (imul .i64 2 v.2.1) = B + B' := by
    rw [iadd_i64 (by omega) (by omega), imul_i64 (by omega) (by omega), isub_i64 (by omega) (by omega)]
    omega
  rw [f1, f2]
  have n1 : ineg .i64 (-(A + A')) = A + A' := by unfold ineg; rw [wrap_i64 (by omega) (by omega)]; omega
  have n2 : ineg .i64 (B + B') = -(B + B') := by unfold ineg; rw [wrap_i64 (by omega) (by omega)]; omega
  rw [n1, n2, ile_pos]
  unfold imax
  split <;> split <;> split <;> omega

theorem tourkeep2_BodySpins_plain (x : ((.pair T34 (.pair T3 (.pair T3 .unit))) : Ty).den) (_ : Ty.wf (.pair T34 (.pair T3 (.pair T3 .unit))) x) : ∃ k, (tourkeep2_BodySpins.sp k).f x = some true := ⟨16, BodySpins_true x.1 x.2.1 x.2.2.1⟩

section
variable {p v : V24} {ang spin mass inertia bounce rub : Int} {l : List V24}

theorem Push_go {k : Nat} (hk : 9 ≤ k) (hl : Solid l) (hp : -655360 ≤ p.1 ∧ p.1 ≤ 655360 ∧ -655360 ≤ p.2.1 ∧ p.2.1 ≤ 655360) (hv : -200000000 ≤ v.1 ∧ v.1 ≤ 200000000 ∧ -200000000 ≤ v.2.1 ∧ v.2.1 ≤ 200000000) (hs : -10000000 ≤ spin ∧ spin ≤ 10000000)
    (hm : 65536 ≤ mass ∧ mass ≤ 524288) (hi : 65536 ≤ inertia ∧ inertia ≤ 1966080)
    (hc : body_Check k (p, v, ang, spin, mass, inertia, bounce, rub, l, false, 0, ()) = some 0) {j r : V24} (hj : -786432 ≤ j.1 ∧ j.1 ≤ 786432 ∧ -786432 ≤ j.2.1 ∧ j.2.1 ≤ 786432) (hr : -786432 ≤ r.1 ∧ r.1 ≤ 786432 ∧ -786432 ≤ r.2.1 ∧ r.2.1 ≤ 786432) :
    ∃ C a t, C = rnd ((r.1 - p.1) * j.2.1) 65536 - rnd ((r.2.1 - p.2.1) * j.1) 65536 ∧ a = rnd (C * 65536) inertia ∧ t = rnd (a * 65536) 411775 ∧ -6000000 ≤ t ∧ t ≤ 6000000 ∧
      -1000000 ≤ rnd (j.1 * 65536) mass ∧ rnd (j.1 * 65536) mass ≤ 1000000 ∧ -1000000 ≤ rnd (j.2.1 * 65536) mass ∧ rnd (j.2.1 * 65536) mass ≤ 1000000 ∧
      body_Push k (p, v, ang, spin, mass, inertia, bounce, rub, l, false, 0, ()) j r = some (p, (v.1 + rnd (j.1 * 65536) mass, v.2.1 + rnd (j.2.1 * 65536) mass, ()), ang, spin + t, mass, inertia, bounce, rub, l, false, 0, ()) := by
  have b1 := mul_bd (x := r.1 - p.1) (y := j.2.1) (M := 1441792) (N := 786432) (by omega) (by omega) (by omega) (by omega)
  have b2 := mul_bd (x := r.2.1 - p.2.1) (y := j.1) (M := 1441792) (N := 786432) (by omega) (by omega) (by omega) (by omega)
  have c1 := rnd_bd (x := (r.1 - p.1) * j.2.1) (n := 65536) (c := 17301505) (by decide) (by omega) (by omega)
  have c2 := rnd_bd (x := (r.2.1 - p.2.1) * j.1) (n := 65536) (c := 17301505) (by decide) (by omega) (by omega)
  refine ⟨_, _, _, rfl, rfl, rfl, ?_⟩
  generalize hC : rnd ((r.1 - p.1) * j.2.1) 65536 - rnd ((r.2.1 - p.2.1) * j.1) 65536 = C
  have hC1 : -34603010 ≤ C ∧ C ≤ 34603010 := by omega
  have hI : 65536 * 34603010 ≤ inertia * 34603010 := Int.mul_le_mul_of_nonneg_right hi.1 (by decide)
  have a1 := rnd_bd (x := C * 65536) (n := inertia) (c := 34603010) (by omega) (by omega) (by omega)
  have t1 := rnd_bd (x := rnd (C * 65536) inertia * 65536) (n := 411775) (c := 6000000) (by decide) (by omega) (by omega)
  have hM : 65536 * 1000000 ≤ mass * 1000000 := Int.mul_le_mul_of_nonneg_right hm.1 (by decide)
  have x1 := rnd_bd (x := j.1 * 65536) (n := mass) (c := 1000000) (by omega) (by omega) (by omega)
  have x2 := rnd_bd (x := j.2.1 * 65536) (n := mass) (c := 1000000) (by omega) (by omega) (by omega)
  refine ⟨t1.1, t1.2, x1.1, x1.2, x2.1, x2.2, ?_⟩
  have g1 : body_Push.c1 k (p, v, ang, spin, mass, inertia, bounce, rub, l, false, 0, ()) = some false := by
    unfold body_Push.c1
    rw [hc, bnd_some, ine_neg rfl, bif_false]
    dsimp only
    rw [ieq_neg (by omega), bif_false]
  unfold body_Push
  rw [own_eq hl, bnd_some, g1, bnd_some, bif_false]
  dsimp only
  unfold vec_Sub vec_Cross
  rw [FSub_eq k (by omega) (by omega), bnd_some, FSub_eq k (by omega) (by omega), bnd_some, bnd_some]
  dsimp only
  rw [CM_in (by omega) (by omega), CM_in (by omega) (by omega), Mul_eq (by omega) (by omega) (by omega), bnd_some, CM_in (by omega) (by omega), Mul_eq (by omega) (by omega) (by omega), bnd_some, CM_in (by omega) (by omega), FSub_eq k (by omega) (by omega), bnd_some, CM_in (by omega) (by omega), bnd_some, hC]
  rw [Over_eq (by omega) (by omega) (by omega) (by omega), bnd_some, CM_in (by omega) (by omega), Over_eq (by omega) (by omega) (by decide) (by decide), bnd_some, CM_in (by omega) (by omega), Over_eq (by omega) (by omega) (by omega) (by omega), bnd_some, CM_in (by omega) (by omega), FAdd_eq k (by omega) (by omega), bnd_some, CM_in (by omega) (by omega), clamp_in k (by omega) (by omega) (by decide), bnd_some]
  rw [Over_eq (by omega) (by omega) (by omega) (by omega), bnd_some, CM_in (by omega) (by omega), FAdd_eq k (by omega) (by omega), bnd_some, CM_in (by omega) (by omega), clamp_in k (by omega) (by omega) (by decide), bnd_some, FAdd_eq k (by omega) (by omega), bnd_some, CM_in (by omega) (by omega), clamp_in k (by omega) (by omega) (by decide), bnd_some]
end

theorem near_eq (k : Nat) {a b : Int} (h0 : -2 ≤ a - b) (h1 : a - b ≤ 2) (ha : -1000000000 ≤ a) (ha' : a ≤ 1000000000) : tourkeep2_BodyPushBack_1 k a b = some true := by
  unfold tourkeep2_BodyPushBack_1
  rw [isub_i64 (by omega) (by omega), isub_i64 (by omega) (by omega), ile_pos (by omega), bif_true, ile_pos (by omega)]

theorem small {n t M N : Int} (hn : 0 < n) (h0 : -(n * M) < n * t) (h1 : n * t < n * N) : -M < t ∧ t < N := by
  constructor
  · rcases Int.lt_or_le (-M) t with g | g
    · exact g
    · have : n * t ≤ n * (-M) := Int.mul_le_mul_of_nonneg_left g (by omega)
      have e : n * (-M) = -(n * M) := by grind
      omega
  · rcases Int.lt_or_le t N with g | g
    · exact g
    · have : n * N ≤ n * t := Int.mul_le_mul_of_nonneg_left g (by omega)
      omega

theorem BodyPushBack_true (raw : List Int) (x y u w : Int) : tourkeep2_BodyPushBack 16 raw x y u w = some true := by
  have hk : 9 ≤ 16 := by decide
  obtain ⟨p, v, ang, spin, mass, inertia, bounce, rub, l, e1, h⟩ := Body_made 16 raw
  obtain ⟨j, e2, j1, j2, j3, j4⟩ := place_eq 16 x y
  obtain ⟨r, e3, r1, r2, r3, r4⟩ := place_eq 16 u w
  have h1 := h.hp
  have h2 := h.hv
  have h3 := h.hspin
  have n1 : ineg .i64 j.1 = -j.1 := by unfold ineg; rw [wrap_i64 (by omega) (by omega)]; omega
  have n2 : ineg .i64 j.2.1 = -j.2.1 := by unfold ineg; rw [wrap_i64 (by omega) (by omega)]; omega
  unfold tourkeep2_BodyPushBack
  rw [e1, bnd_some, e2, bnd_some, e3, bnd_some, n1, n2]
  have fin : ∀ (v' : V24) (spin' : Int), -2 ≤ v'.1 - v.1 → v'.1 - v.1 ≤ 2 → -2 ≤ v'.2.1 - v.2.1 → v'.2.1 - v.2.1 ≤ 2 → -2 ≤ spin' - spin → spin' - spin ≤ 2 →
      (bnd (tourkeep2_pushes 16) fun y11 =>
  bif' y11
  (bnd (tourkeep2_BodyPushBack_1 16 v'.1 v.1) fun y14 =>
   bif' y14
   (bnd (tourkeep2_BodyPushBack_1 16 v'.2.1 v.2.1) fun y17 =>
    bif' y17
    (bnd (tourkeep2_BodyPushBack_1 16 spin' spin) fun y20 =>
     bif' y20
     (bif' (Ty.eqb T24 p p)
      (some (ieq ang ang))
      (some false))
     (some false))
    (some false))
   (some false))
  (some false)) = some true := by
    intro v' spin' a1 a2 a3 a4 a5 a6
    rw [pushes_eq, bnd_some, bif_true, near_eq 16 a1 a2 (by omega) (by omega), bnd_some, bif_true, near_eq 16 a3 a4 (by omega) (by omega), bnd_some, bif_true, near_eq 16 a5 a6 (by omega) (by omega), bnd_some, bif_true]
    refine (congrArg (fun b => bif' b _ _) (eqb24_self p)).trans ?_
    rw [bif_true, ieq_pos rfl]
  rcases h.hw with hw | hw
  · have hc := h.check hk
    rw [Push_still h.hl 0 j r hc (Or.inl hw.1), bnd_some, Push_still h.hl 0 _ r hc (Or.inl hw.1), bnd_some]
    exact fin v spin (by omega) (by omega) (by omega) (by omega) (by omega) (by omega)
  · have hc := h.check hk
    obtain ⟨C, a, t, hC, ha, ht, t0, t1, x0, x1, y0, y1, e4⟩ := Push_go hk h.hl (by omega) (by omega) (by omega) ⟨hw.1, hw.2.1⟩ hw.2.2 hc (j := j) (r := r) (by omega) (by omega)
    have hc2 : body_Check 16 (p, (v.1 + rnd (j.1 * 65536) mass, v.2.1 + rnd (j.2.1 * 65536) mass, ()), ang, spin + t, mass, inertia, bounce, rub, l, false, 0, ()) = some 0 :=
      bodyCheck_ok hk h.hl (by omega) (by dsimp only; omega) (by omega) h.hang (by omega) (by omega) h.hbounce h.hrub (by decide) (by omega) (fun h => by omega) (fun h => by cases h)
    obtain ⟨C', a', t', hC', ha', ht', t0', t1', x0', x1', y0', y1', e5⟩ := Push_go hk h.hl (by omega) (v := (v.1 + rnd (j.1 * 65536) mass, v.2.1 + rnd (j.2.1 * 65536) mass, ())) (by dsimp only; omega) (spin := spin + t) (by omega) ⟨hw.1, hw.2.1⟩ hw.2.2 hc2 (j := (-j.1, -j.2.1, ())) (r := r) (by dsimp only; omega) (by omega)
    rw [e4, bnd_some, e5, bnd_some]
    dsimp only at *
    -- how far apart
    have o1 := rnd_opp (x := (r.1 - p.1) * j.2.1) (n := 65536) (by decide)
    have o2 := rnd_opp (x := (r.2.1 - p.2.1) * j.1) (n := 65536) (by decide)
    rw [Int.mul_neg, Int.mul_neg] at hC'
    have hCC : -1 ≤ C + C' ∧ C + C' ≤ 1 := by omega
    have s1 := rnd_sum (x := C * 65536) (y := C' * 65536) (n := inertia) (by omega)
    rw [← ha, ← ha'] at s1
    have hA := small (n := inertia) (t := a + a') (M := 2) (N := 3) (by omega) (by omega) (by omega)
    have s2 := rnd_sum (x := a * 65536) (y := a' * 65536) (n := 411775) (by decide)
    rw [← ht, ← ht'] at s2
    have q1 := rnd_opp (x := j.1 * 65536) (n := mass) (by omega)
    have q2 := rnd_opp (x := j.2.1 * 65536) (n := mass) (by omega)
    rw [Int.neg_mul] at x0' x1'
    rw [Int.neg_mul] at y0' y1'
    rw [Int.neg_mul, Int.neg_mul]
    exact fin (v.1 + rnd (j.1 * 65536) mass + rnd (-(j.1 * 65536)) mass, v.2.1 + rnd (j.2.1 * 65536) mass + rnd (-(j.2.1 * 65536)) mass, ()) (spin + t + t') (by dsimp only; omega) (by dsimp only; omega) (by dsimp only; omega) (by dsimp only; omega) (by omega) (by omega)

theorem tourkeep2_BodyPushBack_plain (x : ((.pair T34 (.pair T3 (.pair T3 (.pair T3 (.pair T3 .unit))))) : Ty).den) (_ : Ty.wf (.pair T34 (.pair T3 (.pair T3 (.pair T3 (.pair T3 .unit))))) x) : ∃ k, (tourkeep2_BodyPushBack.sp k).f x = some true := ⟨16, BodyPushBack_true x.1 x.2.1 x.2.2.1 x.2.2.2.1 x.2.2.2.2.1⟩
end Go.Proofs.T1
