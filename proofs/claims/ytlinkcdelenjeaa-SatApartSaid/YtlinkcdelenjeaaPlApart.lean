/-
  Plain laws: no program in sight.
-/
import Derived.Test.YtlinkcdelenjeaaPlSwap
namespace Go.Proofs.T1
open Go Go.Sx

/-! Two polygons that are moved apart along the axis -/
theorem Unit_eq2 {k : Nat} (hk : 70 ≤ k) {v : V33} (h : -1099511627776 ≤ v.1 ∧ v.1 ≤ 1099511627776 ∧ -1099511627776 ≤ v.2.1 ∧ v.2.1 ≤ 1099511627776) (hv : ¬ (v.1 = 0 ∧ v.2.1 = 0)) :
    ∃ c l, vec_Unit k v = some (rnd (65536 * (c * v.1)) l, rnd (65536 * (c * v.2.1)) l, ()) ∧ Rt (c * v.1 * (c * v.1) + c * v.2.1 * (c * v.2.1)) l ∧ 1073741824 ≤ l ∧ 0 < c := by
  unfold vec_Unit
  rw [Clamp_eq, bnd_some, Clamp_eq, bnd_some, CM_in h.1 h.2.1, CM_in h.2.2.1 h.2.2.2]
  have c1 : vec_Unit.c1 k v.1 v.2.1 = some false := by
    unfold vec_Unit.c1
    by_cases a : v.1 = 0
    · rw [ieq_pos a, bif_true, ieq_neg (fun b => hv ⟨a, b⟩)]
    · rw [ieq_neg a, bif_false]
  rw [c1, bnd_some, bif_false]
  have hp : 1 ≤ imax (mag v.1) (mag v.2.1) := by
    unfold imax mag
    split <;> (try split) <;> (try split) <;> omega
  obtain ⟨x, y, c, e1, e2, e3, c0, hm, b1, b2, b3, b4⟩ := double k 30 k v.1 v.2.1 (by omega) h.1 h.2.1 h.2.2.1 h.2.2.2 (by
    have : (2 : Int) ^ 30 = 1073741824 := by decide
    rw [this]
    have := Int.mul_le_mul_of_nonneg_right hp (show (0 : Int) ≤ 1073741824 by decide)
    omega)
  rw [e1, bnd_some]
  dsimp only
  obtain ⟨l, f1, f2⟩ := vlength_eq hk b1 b2 b3 b4
  have hl : 1073741824 ≤ l := by
    have key : 1073741824 * 1073741824 ≤ x * x + y * y := by
      have sx := sq_nn x
      have sy := sq_nn y
      unfold imax at hm
      split at hm
      · have := sq_le (a := 1073741824) (by decide) hm
        rw [sq_mag] at this; omega
      · have := sq_le (a := 1073741824) (by decide) hm
        rw [sq_mag] at this; omega
    have := sq_lt (a := 1073741824) (b := l + 1) (by decide) (by have := f2.1; omega) (by have := f2.2.2; omega)
    omega
  have lb : l ≤ 4398046511104 := by
    have p1 := mul_bd (x := x) (y := x) (M := 1099511627776) (N := 1099511627776) b1 b2 b1 b2
    have p2 := mul_bd (x := y) (y := y) (M := 1099511627776) (N := 1099511627776) b3 b4 b3 b4
    have := sq_lt (a := l) (b := 4398046511104) f2.1 (by decide) (by have := f2.2.1; omega)
    omega
  rw [f1, bnd_some, through_eq k b1 b2 (by omega) lb, bnd_some, through_eq k b3 b4 (by omega) lb, bnd_some]
  subst e2 e3
  exact ⟨c, l, rfl, f2, hl, c0⟩
theorem rnd_err {x n : Int} (hn : 0 < n) : -n ≤ 2 * n * rnd x n - 2 * x ∧ 2 * n * rnd x n - 2 * x ≤ n := by
  unfold rnd
  have hm := Int.mul_ediv_add_emod (2 * x + n) (2 * n)
  have em0 := Int.emod_nonneg (2 * x + n) (show 2 * n ≠ 0 by omega)
  have em1 := Int.emod_lt_of_pos (2 * x + n) (show 0 < 2 * n by omega)
  omega
theorem err_mul {e n l : Int} (l0 : 0 ≤ l) (h0 : -l ≤ e) (h1 : e ≤ l) : -(l * mag n) ≤ e * n := by
  have h := mul_bd (x := e) (y := n) (M := l) (N := mag n) h0 h1 (by unfold mag; split <;> omega) (by unfold mag; split <;> omega)
  exact h.1
theorem sum_le {nx ny L : Int} (h : Rt (nx * nx + ny * ny) L) (L1 : 0 < L) : mag nx + mag ny ≤ 2 * L := by
  have a0 : 0 ≤ mag nx := by unfold mag; split <;> omega
  have b0 : 0 ≤ mag ny := by unfold mag; split <;> omega
  rw [← sq_mag nx, ← sq_mag ny] at h
  have h2 := h.2.2
  generalize mag nx = a at *
  generalize mag ny = b at *
  rcases Int.lt_or_le (2 * L) (a + b) with c | c
  · exfalso
    have k1 := sq_le (show 0 ≤ 2 * L + 1 by omega) (show 2 * L + 1 ≤ a + b by omega)
    have k2 := sq_nn (a - b)
    have e1 : (a + b) * (a + b) + (a - b) * (a - b) = 2 * (a * a + b * b) := by grind
    have e2 : (2 * L + 1) * (2 * L + 1) = 4 * (L * L) + 4 * L + 1 := by grind
    have e3 : (L + 1) * (L + 1) = L * L + 2 * L + 1 := by grind
    have k3 := sq_nn L
    rw [e3] at h2
    omega
  · exact c
theorem apart_core {nx ny c l L d p : Int} (hl : Rt (c * nx * (c * nx) + c * ny * (c * ny)) l) (l1 : 0 < l) (c0 : 0 < c) (hL : Rt (nx * nx + ny * ny) L) (L1 : 0 < L) (hd : d = rnd p L) (d0 : 0 ≤ d) (db : d ≤ 2621441) :
    p < rnd (rnd (65536 * (c * nx)) l * (d + 64)) 65536 * nx + rnd (rnd (65536 * (c * ny)) l * (d + 64)) 65536 * ny := by
  have hS := sum_le hL L1
  have S0 : 0 ≤ mag nx + mag ny := by unfold mag; split <;> split <;> omega
  have ex := rnd_err (x := 65536 * (c * nx)) l1
  have ey := rnd_err (x := 65536 * (c * ny)) l1
  generalize rnd (65536 * (c * nx)) l = ux at *
  generalize rnd (65536 * (c * ny)) l = uy at *
  have fx := rnd_err (x := ux * (d + 64)) (n := 65536) (by decide)
  have fy := rnd_err (x := uy * (d + 64)) (n := 65536) (by decide)
  generalize rnd (ux * (d + 64)) 65536 = vx at *
  generalize rnd (uy * (d + 64)) 65536 = vy at *
  have ep := rnd_err (x := p) L1
  rw [← hd] at ep
  have gx := err_mul (n := nx) (by omega) ex.1 ex.2
  have gy := err_mul (n := ny) (by omega) ey.1 ey.2
  have ix := err_mul (n := nx) (by decide) fx.1 fx.2
  have iy := err_mul (n := ny) (by decide) fy.1 fy.2
  generalize mag nx = a at *
  generalize mag ny = b at *
  -- the length of the axis
  have hc : c * L ≤ l := by
    have := sq_lt (a := c * L) (b := l + 1) (Int.mul_nonneg (by omega) (by omega)) (by omega) (by
      have e1 : c * L * (c * L) = c * c * (L * L) := by grind
      have e2 : c * nx * (c * nx) + c * ny * (c * ny) = c * c * (nx * nx + ny * ny) := by grind
      have h1 := Int.mul_le_mul_of_nonneg_left hL.2.1 (show 0 ≤ c * c by exact sq_nn c)
      have h2 := hl.2.2
      omega)
    omega
  have k1 : 131072 * L - (a + b) ≤ 2 * (ux * nx + uy * ny) := by
    refine le_of_mul_le (c := l * c) (Int.mul_pos l1 c0) ?_
    have h1 := hl.2.1
    have e1 : l * c * (2 * (ux * nx + uy * ny)) = c * ((2 * l * ux - 2 * (65536 * (c * nx))) * nx) + c * ((2 * l * uy - 2 * (65536 * (c * ny))) * ny) + 131072 * (c * nx * (c * nx) + c * ny * (c * ny)) := by grind
    have g1 := Int.mul_le_mul_of_nonneg_left gx (show 0 ≤ c by omega)
    have g2 := Int.mul_le_mul_of_nonneg_left gy (show 0 ≤ c by omega)
    have e2 : l * c * (131072 * L - (a + b)) = 131072 * (l * (c * L)) + c * -(l * a) + c * -(l * b) := by grind
    have g3 := Int.mul_le_mul_of_nonneg_left hc (show 0 ≤ l by omega)
    omega
  have k2 : (d + 64) * (131072 * L - (a + b)) - 65536 * (a + b) ≤ 131072 * (vx * nx + vy * ny) := by
    have g := Int.mul_le_mul_of_nonneg_left k1 (show 0 ≤ d + 64 by omega)
    have e1 : 131072 * (vx * nx + vy * ny) = (2 * 65536 * vx - 2 * (ux * (d + 64))) * nx + (2 * 65536 * vy - 2 * (uy * (d + 64))) * ny + (d + 64) * (2 * (ux * nx + uy * ny)) := by grind
    omega
  have k3 := Int.mul_le_mul_of_nonneg_right db S0
  have e3 : (d + 64) * (131072 * L - (a + b)) = 131072 * (d * L) + 8388608 * L - d * (a + b) - 64 * (a + b) := by grind
  have e4 : 2 * L * d = 2 * (d * L) := by grind
  generalize vx * nx + vy * ny = V at *
  generalize d * L = dL at *
  generalize d * (a + b) = dS at *
  omega
theorem tri_move (a b p v : V33) : tri a b (p.1 + v.1, p.2.1 + v.2.1, ()) = tri a b p - (v.1 * (b.2.1 - a.2.1) + v.2.1 * (a.1 - b.1)) := by unfold tri; grind
theorem tri_move2 (a b p v : V33) : tri (a.1 + v.1, a.2.1 + v.2.1, ()) (b.1 + v.1, b.2.1 + v.2.1, ()) p = tri a b p - (v.1 * -(b.2.1 - a.2.1) + v.2.1 * -(a.1 - b.1)) := by unfold tri; grind
theorem dp_small {a b : List V33} {A B : Int} (hA : ∀ i, 0 ≤ i → i < len a → -A ≤ (q a i).1 ∧ (q a i).1 ≤ A ∧ -A ≤ (q a i).2.1 ∧ (q a i).2.1 ≤ A) (hB : ∀ i, 0 ≤ i → i < len b → -B ≤ (q b i).1 ∧ (q b i).1 ≤ B ∧ -B ≤ (q b i).2.1 ∧ (q b i).2.1 ≤ B)
    (b0 : 0 < len b) {i : Int} (i0 : 0 ≤ i) (i1 : i < len a) : dp a b i ≤ (A + B) * (mag (outw a i).1 + mag (outw a i).2.1) := by
  obtain ⟨j, j0, j1, e⟩ := dp_ex (a := a) i b0
  have ha := hA i i0 i1
  have hb := hB j j0 j1
  rw [e]
  have e1 : tri (q a i) (q a (nx (len a) i)) (q b j) = -(((q b j).2.1 - (q a i).2.1) * (outw a i).2.1) + -(((q b j).1 - (q a i).1) * (outw a i).1) := by unfold tri outw; grind
  have g1 := err_mul (e := (q b j).2.1 - (q a i).2.1) (n := (outw a i).2.1) (l := A + B) (by omega) (by omega) (by omega)
  have g2 := err_mul (e := (q b j).1 - (q a i).1) (n := (outw a i).1) (l := A + B) (by omega) (by omega) (by omega)
  rw [e1, Int.mul_add]
  omega
theorem SatApart_true (a b : List Int) (x y : Int) : tourkeep2_SatApart 80 a b x y = some true := by
  obtain ⟨l, m, p, e1, hl, hm, hp⟩ := made_pair 80 (by decide) a b x y
  have vl := Made_val hl
  have vm := Made_shift hm (p := p) (by omega)
  have l4 := hl.2.2.1
  have m16 : ∀ i, 0 ≤ i → i < len (shift m p) → -1048576 ≤ (q (shift m p) i).1 ∧ (q (shift m p) i).1 ≤ 1048576 ∧ -1048576 ≤ (q (shift m p) i).2.1 ∧ (q (shift m p) i).2.1 ≤ 1048576 := by
    intro i i0 i1
    rw [len_shift] at i1
    have := hm.2.2.1 i i0 i1
    rw [q_shift i0 i1]
    dsimp only
    omega
  generalize shift m p = m' at *
  have l0 : 0 < len l := by have := vl.1; omega
  have m0 : 0 < len m' := by have := vm.1; omega
  unfold tourkeep2_SatApart
  rw [e1, bnd_some]
  dsimp only
  rcases Test_eq (k := 80) (by decide) vl vm with ⟨n, e⟩ | ⟨ns, s, e, d, u, h, pb, hu⟩
  · have c1 : tourkeep2_SatApart.c1 80 (false, 0, (0, 0, ())) = some true := by
      unfold tourkeep2_SatApart.c1
      dsimp only
      rw [ieq_pos rfl, bif_true]
      exact congrArg some ((eqb24 (0, 0, ()) (0, 0, ())).trans (decide_eq_true rfl))
    rw [e, bnd_some, tests_eq, bnd_some, bif_true]
    show bif' false _ _ = _
    rw [bif_false, c1, bnd_some]
  · rw [h, bnd_some, tests_eq, bnd_some, bif_true]
    show bif' true _ _ = _
    rw [bif_true]
    dsimp only
    obtain ⟨wne, wbd⟩ := wayV_ok vl vm pb
    obtain ⟨c, r, hu2, hr, r1, c0⟩ := Unit_eq2 (k := 80) (by decide) wbd wne
    rw [hu2] at hu
    cases hu
    have rg := PB_range pb
    -- the axis, its length and the depth
    have ax : ∃ L P, Rt ((wayV l m' s e).1 * (wayV l m' s e).1 + (wayV l m' s e).2.1 * (wayV l m' s e).2.1) L ∧ 0 < L ∧ d = rnd P L ∧ 0 ≤ P ∧ P ≤ 1310720 * (mag (wayV l m' s e).1 + mag (wayV l m' s e).2.1) ∧
        ∀ v : V33, P < v.1 * (wayV l m' s e).1 + v.2.1 * (wayV l m' s e).2.1 → ¬ (NoSep l (shift m' v) ∧ NoSep (shift m' v) l) := by
      cases s with
      | false =>
        obtain ⟨i0, i1⟩ := rg.1 rfl
        have L := Length_eq (k := 80) (by decide) vl i0 i1
        have hd : d = wt l m' e := by
          rcases pb with ⟨_, _, _, h4, _⟩ | ⟨h1, _⟩
          · exact h4
          · cases h1
        have w : wayV l m' false e = outw l e := by unfold wayV; rw [if_neg (by decide)]
        rw [w]
        refine ⟨lenN l e, dp l m' e, L.2.2.2, L.2.1, hd, (NoSep_dp m0).1 ns.1 e i0 i1, dp_small (A := 262144) (B := 1048576) l4 m16 m0 i0 i1, fun v hv hx => ?_⟩
        obtain ⟨j, j0, j1, g⟩ := hx.1 e i0 i1
        rw [len_shift] at j1
        rw [q_shift j0 j1, tri_move] at g
        have := dp_ge (a := l) (b := m') e j0 j1
        unfold outw at hv
        dsimp only at hv
        omega
      | true =>
        obtain ⟨i0, i1⟩ := rg.2 rfl
        have L := Length_eq (k := 80) (by decide) vm i0 i1
        have hd : d = wt m' l e := by
          rcases pb with ⟨h1, _⟩ | ⟨_, _, _, h4, _⟩
          · cases h1
          · exact h4
        have w : wayV l m' true e = (-(outw m' e).1, -(outw m' e).2.1, ()) := by unfold wayV; rw [if_pos rfl]
        rw [w]
        have sm := dp_small (A := 1048576) (B := 262144) m16 l4 l0 i0 i1
        have mn : ∀ z : Int, mag (-z) = mag z := by intro z; unfold mag; split <;> split <;> omega
        refine ⟨lenN m' e, dp m' l e, ?_, L.2.1, hd, (NoSep_dp l0).1 ns.2 e i0 i1, ?_, fun v hv hx => ?_⟩
        · dsimp only
          rw [Int.neg_mul_neg, Int.neg_mul_neg]
          exact L.2.2.2
        · dsimp only
          rw [mn, mn]
          exact sm
        · obtain ⟨j, j0, j1, g⟩ := hx.2 e i0 (by rw [len_shift]; exact i1)
          have hn := nx_range i0 i1
          rw [len_shift, q_shift i0 i1, q_shift hn.1 hn.2, tri_move2] at g
          have := dp_ge (a := m') (b := l) e j0 j1
          unfold outw at hv
          dsimp only at hv
          omega
    obtain ⟨L, P, hL, L1, hd, P0, P1, out⟩ := ax
    have hS := sum_le hL L1
    have ep := rnd_err (x := P) L1
    rw [← hd] at ep
    have d0 : 0 ≤ d := by rw [hd]; unfold rnd; exact Int.ediv_nonneg (by omega) (by omega)
    have db : d ≤ 2621441 := by
      rcases Int.lt_or_le 2621441 d with g | g
      · exfalso
        have := Int.mul_le_mul_of_nonneg_left (show 2621442 ≤ d by omega) (show 0 ≤ 2 * L by omega)
        omega
      · exact g
    have core := apart_core (nx := (wayV l m' s e).1) (ny := (wayV l m' s e).2.1) hr (by omega) c0 hL L1 hd d0 db
    have ul := unit_len (x := c * (wayV l m' s e).1) (y := c * (wayV l m' s e).2.1) hr r1
    generalize rnd (65536 * (c * (wayV l m' s e).1)) r = ux at *
    generalize rnd (65536 * (c * (wayV l m' s e).2.1)) r = uy at *
    have vb : ∀ z : Int, -65536 ≤ z → z ≤ 65536 → -2621505 ≤ rnd (z * (d + 64)) 65536 ∧ rnd (z * (d + 64)) 65536 ≤ 2621505 := by
      intro z z0 z1
      have g := mul_bd (x := z) (y := d + 64) (M := 65536) (N := 2621505) z0 z1 (by omega) (by omega)
      exact rnd_bd (by omega) (by omega) (by omega)
    have bx := vb ux ul.1.1 ul.1.2
    have by_ := vb uy ul.2.1.1 ul.2.1.2
    have sc : vec_Scale 80 (ux, uy, ()) (iadd .i64 d 64) = some (rnd (ux * (d + 64)) 65536, rnd (uy * (d + 64)) 65536, ()) := by
      unfold vec_Scale
      rw [iadd_i64 (by omega) (by omega)]
      dsimp only
      rw [Mul_eq (by decide) (by omega) (by omega), bnd_some, Mul_eq (by decide) (by omega) (by omega), bnd_some, CM_in (by omega) (by omega), CM_in (by omega) (by omega)]
    have hv := out (rnd (ux * (d + 64)) 65536, rnd (uy * (d + 64)) 65536, ()) core
    have wv : Wn (rnd (ux * (d + 64)) 65536, rnd (uy * (d + 64)) 65536, ()) := by unfold Wn; dsimp only; omega
    have vm2 : Val (shift m' (rnd (ux * (d + 64)) 65536, rnd (uy * (d + 64)) 65536, ())) := by
      refine Val_shift vm fun i i0 i1 => ?_
      rw [len_shift] at i1
      have := m16 i i0 i1
      rw [q_shift i0 i1]
      unfold Wn
      dsimp only
      omega
    rw [sc, bnd_some, moved_eq (p := (rnd (ux * (d + 64)) 65536, rnd (uy * (d + 64)) 65536, ())) (by decide) vm.2.1 vm.2.2.1 wv, bnd_some]
    rcases Test_eq (k := 80) (by decide) vl vm2 with ⟨_, f⟩ | ⟨n2, _⟩
    · rw [f, bnd_some]
      rfl
    · exact absurd n2 hv
theorem tourkeep2_SatApart_plain (x : ((.pair T39 (.pair T39 (.pair T2 (.pair T2 .unit)))) : Ty).den) (_ : Ty.wf (.pair T39 (.pair T39 (.pair T2 (.pair T2 .unit)))) x) : ∃ k, (tourkeep2_SatApart.sp k).f x = some true :=
  ⟨80, SatApart_true _ _ _ _⟩
end Go.Proofs.T1
