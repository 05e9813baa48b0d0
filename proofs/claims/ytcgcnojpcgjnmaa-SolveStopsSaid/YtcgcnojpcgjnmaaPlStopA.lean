/-
  Plain laws: no program in sight.
-/
import Derived.Test.YtcgcnojpcgjnmaaPlStopN
namespace Go.Proofs.T1
open Go Go.Sx

/-! SolveStops: the walk -/
theorem sf_add (k : Nat) {a b : Int} (h : -1000000000000 ≤ a ∧ a ≤ 1000000000000) (g : -1000000000000 ≤ b ∧ b ≤ 1000000000000) (hs : -1000000000000 ≤ a + b ∧ a + b ≤ 1000000000000) : fix_Add k a b = some (a + b) := by
  rw [FAdd_tot, CM_in (x := a) (by omega) (by omega), CM_in (x := b) (by omega) (by omega), CM_in (by omega) (by omega)]
theorem sf_sub (k : Nat) {a b : Int} (h : -1000000000000 ≤ a ∧ a ≤ 1000000000000) (g : -1000000000000 ≤ b ∧ b ≤ 1000000000000) (hs : -1000000000000 ≤ a - b ∧ a - b ≤ 1000000000000) : fix_Sub k a b = some (a - b) := by
  rw [FSub_tot, CM_in (x := a) (by omega) (by omega), CM_in (x := b) (by omega) (by omega), CM_in (by omega) (by omega)]
theorem sf_mul {k : Nat} (hk : 2 ≤ k) {a b : Int} (h : -1000000000000 ≤ a ∧ a ≤ 1000000000000) (g : -1000000000000 ≤ b ∧ b ≤ 1000000000000) (hs : -65536000000000000 ≤ a * b ∧ a * b ≤ 65536000000000000) : fix_Mul k a b = some (rnd (a * b) 65536) := by
  have r := rnd_bd (x := a * b) (n := 65536) (c := 1000000000000) (by decide) (by omega) (by omega)
  rw [FMul_tot hk, CM_in (x := a) (by omega) (by omega), CM_in (x := b) (by omega) (by omega), CM_in (by omega) (by omega)]
theorem sf_over {k : Nat} (hk : 2 ≤ k) {a n : Int} (h : -100000000000 ≤ a ∧ a ≤ 100000000000) (n0 : 8000 ≤ n) (n1 : n ≤ 1099511627776) : body_over k a n = some (rnd (a * 65536) n) := by
  have r := rnd_bd (x := a * 65536) (n := n) (c := 1000000000000) (by omega) (by omega) (by omega)
  rw [FOver_tot hk a (by omega) n1, CM_in (x := a) (by omega) (by omega), CM_in (x := 65536) (by omega) (by omega), CM_in (by omega) (by omega)]
theorem CM0 : CM 0 = 0 := by decide
theorem sf_zero {k : Nat} (hk : 2 ≤ k) (a : Int) : fix_Mul k a 0 = some 0 := by
  rw [FMul_tot hk, CM0, Int.mul_zero]
  rfl
theorem sf_zero' {k : Nat} (hk : 2 ≤ k) (a : Int) : fix_Mul k 0 a = some 0 := by
  rw [FMul_tot hk, CM0, Int.zero_mul]
  rfl
theorem sf_one {k : Nat} (hk : 2 ≤ k) {a : Int} (h : -1000000000000 ≤ a ∧ a ≤ 1000000000000) : fix_Mul k a 65536 = some a := by
  rw [FMul_tot hk, CM_in (x := a) (by omega) (by omega), CM_in (x := 65536) (by omega) (by omega)]
  have : rnd (a * 65536) 65536 = a := by unfold rnd; omega
  rw [this, CM_in (by omega) (by omega)]
theorem sf_ov0 {k : Nat} (hk : 2 ≤ k) {n : Int} (n0 : 0 < n) (n1 : n ≤ 1099511627776) : body_over k 0 n = some 0 := by
  rw [FOver_tot hk 0 n0 n1, CM0, Int.zero_mul]
  have : rnd 0 n = 0 := by
    unfold rnd
    exact Int.ediv_eq_zero_of_lt (by omega) (by omega)
  rw [this, CM0]
abbrev Bo (v : V22) (ang spin mass inertia : Int) (l : List V22) : V25 := ((0, 0, ()), v, ang, spin, mass, inertia, 0, 0, l, false, 0, ())
abbrev Ct (X Y : Int) : V78 := (0, 1, 0, (X, Y, ()), (0, 65536, ()), 0, 0, 0, ())
section
variable {v : V22} {ang spin mass inertia : Int} {l : List V22} {k : Nat}
theorem st_At (hk : 2 ≤ k) (hc : body_Check k (Bo v ang spin mass inertia l) = some 0) {X Y : Int} (hX : -131072 ≤ X ∧ X ≤ 131072) (hY : -131072 ≤ Y ∧ Y ≤ 131072) (hw : -3000000 ≤ spin ∧ spin ≤ 3000000) (hv : -10000000 ≤ v.2.1 ∧ v.2.1 ≤ 10000000) :
    ∃ s, body_At k (Bo v ang spin mass inertia l) (X, Y, ()) = some (s, v.2.1 + rnd (rnd (spin * 411775) 65536 * X) 65536, ()) := by
  have w1 := rnd_bd (x := spin * 411775) (n := 65536) (c := 20000000) (by decide) (by omega) (by omega)
  have bx := mul_bd (x := rnd (spin * 411775) 65536) (y := X) (M := 20000000) (N := 131072) w1.1 w1.2 hX.1 hX.2
  have w2 := rnd_bd (x := rnd (spin * 411775) 65536 * X) (n := 65536) (c := 40000000) (by decide) (by omega) (by omega)
  unfold body_At vec_Sub
  rw [hc, bnd_some, ine_neg rfl, bif_false]
  dsimp only
  rw [sf_sub k (a := X) (b := 0) (by omega) (by omega) (by omega), bnd_some, sf_sub k (a := Y) (b := 0) (by omega) (by omega) (by omega), bnd_some, bnd_some, Int.sub_zero, Int.sub_zero]
  dsimp only
  rw [sf_mul hk (a := spin) (b := 411775) (by omega) (by omega) (by omega), bnd_some, FMul_tot hk, bnd_some, FSub_tot, bnd_some, sf_mul hk (a := rnd (spin * 411775) 65536) (b := X) (by omega) (by omega) (by omega), bnd_some,
    sf_add k (by omega) (by omega) (by omega), bnd_some]
  exact ⟨_, rfl⟩
theorem st_Push (hk : 2 ≤ k) (hl : l.length ≤ 2000000) (hc : body_Check k (Bo v ang spin mass inertia l) = some 0) (M0 : 65536 ≤ mass) (M1 : mass ≤ 524288) (I0 : 65536 ≤ inertia) (I1 : inertia ≤ 1966080)
    {X Y P : Int} (hX : -131072 ≤ X ∧ X ≤ 131072) (hY : -131072 ≤ Y ∧ Y ≤ 131072) (hP : 0 ≤ P ∧ P ≤ 8000000) (hw : -32768 ≤ spin ∧ spin ≤ 32768) (hv : -327680 ≤ v.1 ∧ v.1 ≤ 327680 ∧ -327680 ≤ v.2.1 ∧ v.2.1 ≤ 327680) :
    body_Push k (Bo v ang spin mass inertia l) (0, P, ()) (X, Y, ()) = some (Bo (v.1, v.2.1 + rnd (P * 65536) mass, ()) ang (spin + rnd (rnd (rnd (X * P) 65536 * 65536) inertia * 65536) 411775) mass inertia l) ∧
      (0 ≤ rnd (P * 65536) mass ∧ rnd (P * 65536) mass ≤ 8000000) ∧ (-2546480 ≤ rnd (rnd (rnd (X * P) 65536 * 65536) inertia * 65536) 411775 ∧ rnd (rnd (rnd (X * P) 65536 * 65536) inertia * 65536) 411775 ≤ 2546480) := by
  have bx := mul_bd (x := X) (y := P) (M := 131072) (N := 8000000) hX.1 hX.2 (by omega) (by omega)
  have w1 := rnd_bd (x := X * P) (n := 65536) (c := 16000000) (by decide) (by omega) (by omega)
  have w2 := rnd_bd (x := rnd (X * P) 65536 * 65536) (n := inertia) (c := 16000000) (by omega) (by omega) (by omega)
  have w3 := rnd_bd (x := rnd (rnd (X * P) 65536 * 65536) inertia * 65536) (n := 411775) (c := 2546480) (by decide) (by omega) (by omega)
  have w4 := rnd_bd (x := P * 65536) (n := mass) (c := 8000000) (by omega) (by omega) (by omega)
  have w5 : 0 ≤ rnd (P * 65536) mass := rndnn (by omega) (by omega)
  refine ⟨?_, ⟨w5, w4.2⟩, w3⟩
  unfold body_Push vec_Sub vec_Cross
  rw [own_room hl, bnd_some]
  have c1 : body_Push.c1 k (Bo v ang spin mass inertia l) = some false := by
    unfold body_Push.c1
    rw [hc, bnd_some]
    dsimp only
    rw [ine_neg rfl, bif_false, ieq_neg (by omega), bif_false]
  rw [c1, bnd_some, bif_false]
  dsimp only
  rw [sf_sub k (a := X) (b := 0) (by omega) (by omega) (by omega), bnd_some, sf_sub k (a := Y) (b := 0) (by omega) (by omega) (by omega), bnd_some, bnd_some, Int.sub_zero, Int.sub_zero]
  dsimp only
  rw [sf_mul hk (a := X) (b := P) (by omega) (by omega) (by omega), bnd_some, sf_zero hk, bnd_some, sf_sub k (by omega) (by omega) (by omega), bnd_some, Int.sub_zero, bnd_some, sf_over hk (by omega) (by omega) (by omega), bnd_some,
    sf_over hk (n := 411775) (by omega) (by omega) (by omega), bnd_some, sf_ov0 hk (by omega) (by omega), bnd_some, sf_add k (by omega) (by omega) (by omega), bnd_some, Int.add_zero, clamp_in k (by omega) (by omega) (by omega), bnd_some,
    sf_over hk (by omega) (by omega) (by omega), bnd_some, sf_add k (by omega) (by omega) (by omega), bnd_some, clamp_in k (by omega) (by omega) (by omega), bnd_some,
    sf_add k (by omega) (by omega) (by omega), bnd_some, clamp_in k (by omega) (by omega) (by omega), bnd_some]
theorem st_EaseY (hk : 2 ≤ k) (hc : body_Check k (Bo v ang spin mass inertia l) = some 0) (M0 : 65536 ≤ mass) (M1 : mass ≤ 524288) (I0 : 65536 ≤ inertia) (I1 : inertia ≤ 1966080) {X Y : Int} (hX : -131072 ≤ X ∧ X ≤ 131072) (hY : -131072 ≤ Y ∧ Y ≤ 131072) :
    body_Ease k (Bo v ang spin mass inertia l) (X, Y, ()) (0, 65536, ()) = some (rnd 4294967296 mass + rnd (rnd (X * X) 65536 * 65536) inertia) ∧
      (0 ≤ rnd 4294967296 mass + rnd (rnd (X * X) 65536 * 65536) inertia ∧ rnd 4294967296 mass + rnd (rnd (X * X) 65536 * 65536) inertia ≤ 1000000) := by
  have bx := mul_bd (x := X) (y := X) (M := 131072) (N := 131072) hX.1 hX.2 hX.1 hX.2
  have w1 := rnd_bd (x := X * X) (n := 65536) (c := 262144) (by decide) (by omega) (by omega)
  have w2 := rnd_bd (x := rnd (X * X) 65536 * 65536) (n := inertia) (c := 262144) (by omega) (by omega) (by omega)
  have w3 := rnd_bd (x := 4294967296) (n := mass) (c := 65536) (by omega) (by omega) (by omega)
  have v1 : 0 ≤ rnd (X * X) 65536 := rndnn (by decide) (nn_sq X)
  have v2 : 0 ≤ rnd (rnd (X * X) 65536 * 65536) inertia := rndnn (by omega) (by omega)
  have v3 : 0 ≤ rnd 4294967296 mass := rndnn (by omega) (by omega)
  refine ⟨?_, by omega, by omega⟩
  unfold body_Ease vec_Sub vec_Cross
  have c1 : body_Ease.c1 k (Bo v ang spin mass inertia l) = some false := by
    unfold body_Ease.c1
    rw [hc, bnd_some]
    dsimp only
    rw [ine_neg rfl, bif_false, ieq_neg (by omega), bif_false]
  rw [c1, bnd_some, bif_false]
  dsimp only
  rw [sf_sub k (a := X) (b := 0) (by omega) (by omega) (by omega), bnd_some, sf_sub k (a := Y) (b := 0) (by omega) (by omega) (by omega), bnd_some, bnd_some, Int.sub_zero, Int.sub_zero]
  dsimp only
  rw [sf_one hk (a := X) (by omega), bnd_some, sf_zero hk, bnd_some, sf_sub k (by omega) (by omega) (by omega), bnd_some, Int.sub_zero, bnd_some, sf_over hk (a := 65536) (by omega) (by omega) (by omega), bnd_some,
    sf_mul hk (a := X) (b := X) (by omega) (by omega) (by omega), bnd_some, sf_over hk (by omega) (by omega) (by omega), bnd_some]
  have e : (65536 : Int) * 65536 = 4294967296 := by decide
  rw [e, sf_add k (by omega) (by omega) (by omega), bnd_some]
theorem st_EaseT (hk : 2 ≤ k) (hc : body_Check k (Bo v ang spin mass inertia l) = some 0) (M0 : 65536 ≤ mass) (M1 : mass ≤ 524288) (I0 : 65536 ≤ inertia) (I1 : inertia ≤ 1966080) (j r : V22) :
    ∃ s, body_Ease k (Bo v ang spin mass inertia l) j r = some s ∧ 0 ≤ s ∧ s ≤ 1099511627776 := by
  unfold body_Ease
  have c1 : body_Ease.c1 k (Bo v ang spin mass inertia l) = some false := by
    unfold body_Ease.c1
    rw [hc, bnd_some]
    dsimp only
    rw [ine_neg rfl, bif_false, ieq_neg (by omega), bif_false]
  rw [c1, bnd_some, bif_false]
  dsimp only
  obtain ⟨w, hw⟩ := vsub_tot k j (0, 0, ())
  obtain ⟨c, hcr⟩ := vcross_tot hk w r
  obtain ⟨q1, h1, g1, _⟩ := over_nn hk (show (0 : Int) ≤ 65536 by decide) (show 0 < mass by omega) (by omega)
  obtain ⟨q2, h2, g2, _⟩ := sq_nn hk c
  obtain ⟨q3, h3, g3, _⟩ := over_nn hk g2 (show 0 < inertia by omega) (by omega)
  obtain ⟨q4, h4, g4, g5⟩ := add_nn k g1 g3
  refine ⟨q4, ?_, g4, g5⟩
  rw [hw, bnd_some, hcr, bnd_some, h1, bnd_some, h2, bnd_some, h3, bnd_some, h4, bnd_some]
/-- The wall. -/
abbrev Wall (s : List V22) : V25 := ((0, -1310720, ()), (0, 0, ()), 0, 0, 0, 0, 0, 0, s, false, 0, ())
theorem wall_At (hk : 2 ≤ k) {s : List V22} (hc : body_Check k (Wall s) = some 0) {X Y : Int} (hX : -131072 ≤ X ∧ X ≤ 131072) (hY : -131072 ≤ Y ∧ Y ≤ 131072) : body_At k (Wall s) (X, Y, ()) = some (0, 0, ()) := by
  unfold body_At vec_Sub
  rw [hc, bnd_some, ine_neg rfl, bif_false]
  dsimp only
  rw [sf_sub k (a := X) (b := 0) (by omega) (by omega) (by omega), bnd_some, sf_sub k (a := Y) (b := -1310720) (by omega) (by omega) (by omega), bnd_some, bnd_some]
  dsimp only
  rw [sf_zero' hk, bnd_some, sf_zero' hk, bnd_some, sf_sub k (by omega) (by omega) (by omega), bnd_some, sf_zero' hk, bnd_some, sf_add k (by omega) (by omega) (by omega), bnd_some]
  rfl
theorem st_speed (hk : 2 ≤ k) {s : List V22} (hs : body_Check k (Wall s) = some 0) (hc : body_Check k (Bo v ang spin mass inertia l) = some 0) {X Y : Int} (hX : -131072 ≤ X ∧ X ≤ 131072) (hY : -131072 ≤ Y ∧ Y ≤ 131072) (hw : -32768 ≤ spin ∧ spin ≤ 32768) (hv : -327680 ≤ v.2.1 ∧ v.2.1 ≤ 327680)
    {x : V78} (x0 : x.1 = 0) (x1 : x.2.1 = 1) (x2 : x.2.2.2.1 = (X, Y, ())) (cs : List V78) (rs : List V145) :
    ∃ s0, solve_solver_speed_h_2 k x [Wall s, Bo v ang spin mass inertia l] cs rs = some (s0, v.2.1 + rnd (rnd (spin * 411775) 65536 * X) 65536, ()) := by
  obtain ⟨s0, e⟩ := st_At hk hc hX hY (by omega) (by omega)
  have w1 := rnd_bd (x := spin * 411775) (n := 65536) (c := 300000) (by decide) (by omega) (by omega)
  have bx := mul_bd (x := rnd (spin * 411775) 65536) (y := X) (M := 300000) (N := 131072) w1.1 w1.2 hX.1 hX.2
  have w2 := rnd_bd (x := rnd (spin * 411775) 65536 * X) (n := 65536) (c := 600000) (by decide) (by omega) (by omega)
  unfold solve_solver_speed_h_2
  rw [x0, x1, x2]
  have e0 : el Z25 [Wall s, Bo v ang spin mass inertia l] 0 = Wall s := rfl
  have e1 : el Z25 [Wall s, Bo v ang spin mass inertia l] 1 = Bo v ang spin mass inertia l := rfl
  rw [e0, e1, req_pos (inL_of (by decide) (show (1 : Int) < 2 by decide)), e, bnd_some, req_pos (inL_of (by decide) (show (0 : Int) < 2 by decide)), wall_At hk hs hX hY, bnd_some]
  unfold vec_Sub
  dsimp only
  rw [FSub_tot, bnd_some, sf_sub k (by omega) (by omega) (by omega), bnd_some, Int.sub_zero, bnd_some]
  exact ⟨_, rfl⟩
end
theorem sf_one' {k : Nat} (hk : 2 ≤ k) {a : Int} (h : -1000000000000 ≤ a ∧ a ≤ 1000000000000) : fix_Mul k 65536 a = some a := by
  have e : fix_Mul k 65536 a = fix_Mul k a 65536 := by rw [FMul_tot hk, FMul_tot hk, Int.mul_comm]
  rw [e, sf_one hk h]
theorem so_eq (k : Nat) (a n : Int) : solve_over k a n = body_over k a n := rfl
theorem rnd0 {n : Int} (h : 0 < n) : rnd 0 n = 0 := Int.ediv_eq_zero_of_lt (by omega) (by omega)
section
variable {v : V22} {ang spin mass inertia : Int} {l s : List V22} {k : Nat}
theorem st_push (hk : 2 ≤ k) (hs : body_Check k (Wall s) = some 0) (hsl : s.length ≤ 2000000) {B B' : V25} {X Y P : Int} (hB : body_Push k B (0, P, ()) (X, Y, ()) = some B')
    {x : V78} (x0 : x.1 = 0) (x1 : x.2.1 = 1) (x2 : x.2.2.2.1 = (X, Y, ())) (cs : List V78) (rs : List V145) :
    solve_solver_push k x (0, P, ()) [Wall s, B] cs rs = some [Wall s, B'] := by
  unfold solve_solver_push
  rw [x0, x1, x2]
  have e0 : el Z25 [Wall s, B] 0 = Wall s := rfl
  have e1 : ∀ W, st [Wall s, B] 0 W = [W, B] := fun _ => rfl
  have e2 : ∀ W, el Z25 [W, B] 1 = B := fun _ => rfl
  have e3 : ∀ W C, st [W, B] 1 C = [W, C] := fun _ _ => rfl
  rw [e0, req_pos (inL_of (by decide) (show (0 : Int) < 2 by decide)), Push_out hsl hs (Or.inr (Or.inl rfl)), bnd_some, e1, req_pos (inL_of (by decide) (show (1 : Int) < 2 by decide)), e2, hB, bnd_some, e3]
theorem st_row (hk : 2 ≤ k) (hs : body_Check k (Wall s) = some 0) (hc : body_Check k (Bo v ang spin mass inertia l) = some 0) {X Y : Int} (hX : -131072 ≤ X ∧ X ≤ 131072) (hY : -131072 ≤ Y ∧ Y ≤ 131072) (hw : -32768 ≤ spin ∧ spin ≤ 32768) (hv : -327680 ≤ v.2.1 ∧ v.2.1 ≤ 327680)
    {E S : Int} (hE : body_Ease k (Bo v ang spin mass inertia l) (X, Y, ()) (0, 65536, ()) = some E) (E0 : 0 ≤ E ∧ E ≤ 1000000) (hS : body_Ease k (Bo v ang spin mass inertia l) (X, Y, ()) (-65536, 0, ()) = some S) (S0 : 0 ≤ S) (cs : List V78) (rs : List V145) :
    ∃ sl, solve_solver_row_2 k (Ct X Y) 4096 [Wall s, Bo v ang spin mass inertia l] cs rs = some ((-65536, 0, ()), E, sl, 0, 0, ()) ∧ 0 ≤ sl ∧ sl ≤ 1099511627776 := by
  obtain ⟨s0, sp⟩ := st_speed hk hs hc hX hY hw hv (x := Ct X Y) rfl rfl rfl cs rs
  have w1 := rnd_bd (x := spin * 411775) (n := 65536) (c := 300000) (by decide) (by omega) (by omega)
  have bx := mul_bd (x := rnd (spin * 411775) 65536) (y := X) (M := 300000) (N := 131072) w1.1 w1.2 hX.1 hX.2
  have w2 := rnd_bd (x := rnd (spin * 411775) 65536 * X) (n := 65536) (c := 600000) (by decide) (by omega) (by omega)
  have e0 : el Z25 [Wall s, Bo v ang spin mass inertia l] 0 = Wall s := rfl
  have e1 : el Z25 [Wall s, Bo v ang spin mass inertia l] 1 = Bo v ang spin mass inertia l := rfl
  have n1 : ineg .i64 65536 = -65536 := by decide
  have n2 : imax 0 (isub .i64 0 512) = 0 := by decide
  have n3 : imax 0 0 = 0 := by decide
  have n4 : imin 0 0 = 0 := by decide
  obtain ⟨q, hq, q0, q1⟩ := add_nn k (show (0 : Int) ≤ 0 by decide) S0
  refine ⟨q, ?_, q0, q1⟩
  unfold solve_solver_row_2
  dsimp only
  rw [e0, e1, req_pos (inL_of (by decide) (show (0 : Int) < 2 by decide)), req_pos (inL_of (by decide) (show (1 : Int) < 2 by decide)), Ease_out hs (Or.inr (Or.inl rfl)), bnd_some, hE, bnd_some, sf_add k (by omega) (by omega) (by omega), bnd_some, Int.zero_add, n1,
    Ease_out hs (Or.inr (Or.inl rfl)), bnd_some, hS, bnd_some, hq, bnd_some, n2, sf_zero' hk, bnd_some, so_eq, sf_ov0 hk (by decide) (by decide), bnd_some, sp, bnd_some]
  unfold vec_Dot
  dsimp only
  rw [sf_zero hk, bnd_some, sf_one hk (by omega), bnd_some, sf_add k (by omega) (by omega) (by omega), bnd_some, Int.zero_add, bnd_some, n3, n4]
  cases ilt (v.2.1 + rnd (rnd (spin * 411775) 65536 * X) 65536) (-32768) with
  | true => rw [bif_true, sf_zero' hk, bnd_some, sf_add k (by omega) (by omega) (by omega), bnd_some]; rfl
  | false => rw [bif_false]
theorem round_c1 (hk : 2 ≤ k) (hs : body_Check k (Wall s) = some 0) (hsl : s.length ≤ 2000000) (hc : body_Check k (Bo v ang spin mass inertia l) = some 0) {X Y : Int} (hX : -131072 ≤ X ∧ X ≤ 131072) (hY : -131072 ≤ Y ∧ Y ≤ 131072) (hw : -32768 ≤ spin ∧ spin ≤ 32768) (hv : -327680 ≤ v.2.1 ∧ v.2.1 ≤ 327680)
    (hp : body_Push k (Bo v ang spin mass inertia l) (0, 0, ()) (X, Y, ()) = some (Bo v ang spin mass inertia l)) {E sl : Int} (s0 : 0 ≤ sl) (s1 : sl ≤ 1099511627776) :
    solve_solver_round.c1 k 0 [Wall s, Bo v ang spin mass inertia l] [Ct X Y] [((-65536, 0, ()), E, sl, 0, 0, ())] = some ([Wall s, Bo v ang spin mass inertia l], [Ct X Y]) := by
  have e0 : el Z145 [((-65536, 0, ()), E, sl, 0, 0, ())] 0 = ((-65536, 0, ()), E, sl, 0, 0, ()) := rfl
  have e1 : el Z78 [Ct X Y] 0 = Ct X Y := rfl
  have e2 : ∀ y, st [Ct X Y] 0 y = [y] := fun _ => rfl
  have n0 : ineg .i64 0 = 0 := by decide
  have n1 : ∀ y, imin (imax y 0) 0 = 0 := by intro y; unfold imin imax; split <;> split <;> omega
  unfold solve_solver_round.c1
  rw [e0, e1]
  dsimp only
  by_cases z : sl = 0
  · rw [ine_neg z, bif_false]
  · obtain ⟨a, sp⟩ := st_speed hk hs hc hX hY hw hv (x := Ct X Y) rfl rfl rfl [Ct X Y] [((-65536, 0, ()), E, sl, 0, 0, ())]
    obtain ⟨d, hd⟩ := vdot_tot hk (a, v.2.1 + rnd (rnd (spin * 411775) 65536 * X) 65536, ()) (-65536, 0, ())
    rw [ine_pos z, bif_true, req_pos (inL_of (by decide) (show (0 : Int) < 1 by decide)), sf_zero hk, bnd_some, sp, bnd_some, hd, bnd_some, so_eq, FOver_tot hk d (by omega) s1, bnd_some, FSub_tot, bnd_some, n0, n1, sf_sub k (by omega) (by omega) (by omega), bnd_some]
    unfold vec_Scale
    dsimp only
    rw [Int.sub_zero, sf_zero hk, bnd_some, sf_zero hk, bnd_some, bnd_some, st_push hk hs hsl hp (x := Ct X Y) rfl rfl rfl, bnd_some, e2]
theorem round_all (hk : 2 ≤ k) (hs : body_Check k (Wall s) = some 0) (hsl : s.length ≤ 2000000) (hl : l.length ≤ 2000000) (hc : body_Check k (Bo v ang spin mass inertia l) = some 0) (M0 : 65536 ≤ mass) (M1 : mass ≤ 524288) (I0 : 65536 ≤ inertia) (I1 : inertia ≤ 1966080)
    {X Y : Int} (hX : -131072 ≤ X ∧ X ≤ 131072) (hY : -131072 ≤ Y ∧ Y ≤ 131072) (hw : -32768 ≤ spin ∧ spin ≤ 32768) (hv : -327680 ≤ v.1 ∧ v.1 ≤ 327680 ∧ -327680 ≤ v.2.1 ∧ v.2.1 ≤ 327680)
    (hp : body_Push k (Bo v ang spin mass inertia l) (0, 0, ()) (X, Y, ()) = some (Bo v ang spin mass inertia l)) {E sl : Int} (hE : E = rnd 4294967296 mass + rnd (rnd (X * X) 65536 * 65536) inertia) (s0 : 0 ≤ sl) (s1 : sl ≤ 1099511627776) :
    ∃ v' spin' x', solve_solver_round k 0 [Wall s, Bo v ang spin mass inertia l] [Ct X Y] [((-65536, 0, ()), E, sl, 0, 0, ())] = some ([Wall s, Bo v' ang spin' mass inertia l], [x']) ∧
      (-10000000 ≤ v'.1 ∧ v'.1 ≤ 10000000 ∧ -10000000 ≤ v'.2.1 ∧ v'.2.1 ≤ 10000000) ∧ (-3000000 ≤ spin' ∧ spin' ≤ 3000000) ∧ -512 ≤ v'.2.1 + rnd (rnd (spin' * 411775) 65536 * X) 65536 := by
  have e0 : el Z145 [((-65536, 0, ()), E, sl, 0, 0, ())] 0 = ((-65536, 0, ()), E, sl, 0, 0, ()) := rfl
  have e1 : el Z78 [Ct X Y] 0 = Ct X Y := rfl
  have e2 : ∀ y, st [Ct X Y] 0 y = [y] := fun _ => rfl
  have w1 := rnd_bd (x := spin * 411775) (n := 65536) (c := 300000) (by decide) (by omega) (by omega)
  have bx := mul_bd (x := rnd (spin * 411775) 65536) (y := X) (M := 300000) (N := 131072) w1.1 w1.2 hX.1 hX.2
  have w2 := rnd_bd (x := rnd (spin * 411775) 65536 * X) (n := 65536) (c := 600000) (by decide) (by omega) (by omega)
  have hEb : 8191 ≤ E ∧ E ≤ 400000 := (stop_num M0 M1 I0 I1 hX.1 hX.2 (VY := -327680) (s := 0) (by decide) (by decide) (by decide) (by decide) rfl rfl rfl hE rfl rfl (by rw [Int.zero_mul, rnd0 (by decide), Int.zero_mul, rnd0 (by decide)]; decide) rfl rfl rfl rfl rfl rfl rfl).1
  obtain ⟨a, sp⟩ := st_speed hk hs hc hX hY hw hv.2.2 (x := Ct X Y) rfl rfl rfl [Ct X Y] [((-65536, 0, ()), E, sl, 0, 0, ())]
  have w3 := rnd_bd (x := -(v.2.1 + rnd (rnd (spin * 411775) 65536 * X) 65536) * 65536) (n := E) (c := 100000000) (by omega) (by omega) (by omega)
  have key : ∃ P, imax 0 (rnd (-(v.2.1 + rnd (rnd (spin * 411775) 65536 * X) 65536) * 65536) E) = P ∧ (0 ≤ P ∧ P ≤ 8000000) ∧ -512 ≤ v.2.1 + rnd (P * 65536) mass + rnd (rnd ((spin + rnd (rnd (rnd (X * P) 65536 * 65536) inertia * 65536) 411775) * 411775) 65536 * X) 65536 := by
    by_cases d : v.2.1 + rnd (rnd (spin * 411775) 65536 * X) 65536 < 0
    · have sn := stop_num M0 M1 I0 I1 hX.1 hX.2 hv.2.2.1 hv.2.2.2 hw.1 hw.2 rfl rfl rfl hE rfl rfl d rfl rfl rfl rfl rfl rfl rfl
      refine ⟨_, rfl, ?_⟩
      have m : imax 0 (rnd (-(v.2.1 + rnd (rnd (spin * 411775) 65536 * X) 65536) * 65536) E) = rnd (-(v.2.1 + rnd (rnd (spin * 411775) 65536 * X) 65536) * 65536) E := by
        have := sn.2.1.1
        unfold imax
        split <;> omega
      rw [m]
      exact sn.2
    · have r0 : rnd (-(v.2.1 + rnd (rnd (spin * 411775) 65536 * X) 65536) * 65536) E ≤ 0 := by
        have h := rerr2 (x := -(v.2.1 + rnd (rnd (spin * 411775) 65536 * X) 65536) * 65536) (n := E) (by omega)
        by_cases g : rnd (-(v.2.1 + rnd (rnd (spin * 411775) 65536 * X) 65536) * 65536) E ≤ 0
        · exact g
        · have := Int.mul_le_mul_of_nonneg_left (show 1 ≤ rnd (-(v.2.1 + rnd (rnd (spin * 411775) 65536 * X) 65536) * 65536) E by omega) (show 0 ≤ E by omega)
          omega
      refine ⟨0, by unfold imax; split <;> omega, by decide, ?_⟩
      rw [Int.mul_zero, Int.zero_mul, rnd0 (by omega), rnd0 (by omega), Int.zero_mul, rnd0 (by omega), Int.zero_mul, rnd0 (by omega)]
      rw [Int.add_zero, Int.add_zero]
      omega
  obtain ⟨P, hP, P0, fin⟩ := key
  obtain ⟨pu, pb, pc⟩ := st_Push hk hl hc M0 M1 I0 I1 hX hY P0 hw hv
  refine ⟨(v.1, v.2.1 + rnd (P * 65536) mass, ()), spin + rnd (rnd (rnd (X * P) 65536 * 65536) inertia * 65536) 411775, (0, 1, 0, (X, Y, ()), (0, 65536, ()), 0, P, 0, ()), ?_, by dsimp only; omega, by omega, fin⟩
  unfold solve_solver_round
  rw [req_pos (inL_of (by decide) (show (0 : Int) < 1 by decide)), req_pos (inL_of (by decide) (show (0 : Int) < 1 by decide)), round_c1 hk hs hsl hc hX hY hw hv.2.2 hp s0 s1, bnd_some, e0]
  dsimp only
  rw [ine_pos (by omega), bif_true, req_pos (inL_of (by decide) (show (0 : Int) < 1 by decide)), e1, sp, bnd_some]
  unfold vec_Dot vec_Scale
  dsimp only
  rw [sf_zero hk, bnd_some, sf_one hk (by omega), bnd_some, sf_add k (by omega) (by omega) (by omega), bnd_some, Int.zero_add, bnd_some, sf_sub k (by omega) (by omega) (by omega), bnd_some, Int.zero_sub, so_eq,
    sf_over hk (by omega) (by omega) (by omega), bnd_some, sf_add k (by omega) (by omega) (by omega), bnd_some, Int.zero_add, hP, sf_sub k (by omega) (by omega) (by omega), bnd_some, Int.sub_zero, sf_zero' hk, bnd_some, sf_one' hk (by omega), bnd_some, bnd_some,
    st_push hk hs hsl pu (x := Ct X Y) rfl rfl rfl, bnd_some, e2]
end
end Go.Proofs.T1
