/-
  Plain laws: no program in sight.
-/
import Derived.Test.YtcgcnojpcgjnmaaPlPairs
namespace Go.Proofs.T1
open Go Go.Sx

/-! SolveStops: the numbers -/
theorem rerr1 {x n : Int} (hn : 0 < n) : -n ≤ 2 * n * rnd x n - 2 * x ∧ 2 * n * rnd x n - 2 * x ≤ n := by
  unfold rnd
  have hm := Int.mul_ediv_add_emod (2 * x + n) (2 * n)
  have em0 := Int.emod_nonneg (2 * x + n) (show 2 * n ≠ 0 by omega)
  have em1 := Int.emod_lt_of_pos (2 * x + n) (show 0 < 2 * n by omega)
  omega
theorem rerr2 {x n : Int} (hn : 0 < n) : -n ≤ 2 * (n * rnd x n) - 2 * x ∧ 2 * (n * rnd x n) - 2 * x ≤ n := by
  have h := rerr1 (x := x) hn
  rw [Int.mul_assoc] at h
  exact h
/-- How fast the bodies approach each other after the push, in terms of rounded numbers. -/
theorem stop_num {M I X s VY : Int} (M0 : 65536 ≤ M) (M1 : M ≤ 524288) (I0 : 65536 ≤ I) (I1 : I ≤ 1966080) (X0 : -131072 ≤ X) (X1 : X ≤ 131072)
    (v0 : -327680 ≤ VY) (v1 : VY ≤ 327680) (s0 : -32768 ≤ s) (s1 : s ≤ 32768)
    {r1 c2 r2 e w0 u0 P a q1 q2 q3 w1 u1 : Int} (hr1 : r1 = rnd 4294967296 M) (hc2 : c2 = rnd (X * X) 65536) (hr2 : r2 = rnd (c2 * 65536) I) (he : e = r1 + r2)
    (hw0 : w0 = rnd (s * 411775) 65536) (hu0 : u0 = rnd (w0 * X) 65536) (hv : VY + u0 < 0) (hP : P = rnd (-(VY + u0) * 65536) e) (ha : a = rnd (X * P) 65536)
    (hq1 : q1 = rnd (P * 65536) M) (hq2 : q2 = rnd (a * 65536) I) (hq3 : q3 = rnd (q2 * 65536) 411775) (hw1 : w1 = rnd ((s + q3) * 411775) 65536) (hu1 : u1 = rnd (w1 * X) 65536) :
    (8191 ≤ e ∧ e ≤ 400000) ∧ (0 ≤ P ∧ P ≤ 8000000) ∧ -512 ≤ VY + q1 + u1 := by
  have k1 := rerr2 (x := 4294967296) (n := M) (by omega)
  have k2 := rerr2 (x := X * X) (n := 65536) (by decide)
  have k3 := rerr2 (x := c2 * 65536) (n := I) (by omega)
  rw [← hr1] at k1
  rw [← hc2] at k2
  rw [← hr2] at k3
  have xx := mul_bd X0 X1 X0 X1
  have xn := nn_sq X
  have c0 : 0 ≤ c2 := by rw [hc2]; exact rndnn (by decide) xn
  have c1 : c2 ≤ 262144 := by omega
  have r20 : 0 ≤ r2 := by rw [hr2]; exact rndnn (by omega) (by omega)
  have r21 : r2 ≤ 262160 := by
    have h := Int.mul_le_mul_of_nonneg_right I0 r20
    omega
  have r10 : 8192 ≤ r1 := by
    by_cases z : 8192 ≤ r1
    · exact z
    · have h := Int.mul_le_mul (show M ≤ 524288 from M1) (show r1 ≤ 8191 by omega) (by rw [hr1]; exact rndnn (by omega) (by decide)) (by decide)
      omega
  have r11 : r1 ≤ 65541 := by
    have h := Int.mul_le_mul_of_nonneg_right M0 (show 0 ≤ r1 by omega)
    omega
  have e0 : 8191 ≤ e := by omega
  have e1 : e ≤ 400000 := by omega
  have k4 := rerr2 (x := s * 411775) (n := 65536) (by decide)
  have k5 := rerr2 (x := w0 * X) (n := 65536) (by decide)
  rw [← hw0] at k4
  rw [← hu0] at k5
  have wb : -205889 ≤ w0 ∧ w0 ≤ 205889 := by omega
  have wx := mul_bd (x := w0) (y := X) (M := 205889) (N := 131072) (by omega) (by omega) X0 X1
  have ub : -411779 ≤ u0 ∧ u0 ≤ 411779 := by omega
  have k6 := rerr2 (x := -(VY + u0) * 65536) (n := e) (by omega)
  rw [← hP] at k6
  have P0 : 0 ≤ P := by rw [hP]; exact rndnn (by omega) (by omega)
  have P1 : P ≤ 8000000 := by
    have h := Int.mul_le_mul_of_nonneg_right e0 P0
    omega
  refine ⟨⟨e0, e1⟩, ⟨P0, P1⟩, ?_⟩
  have k7 := rerr2 (x := X * P) (n := 65536) (by decide)
  have k8 := rerr2 (x := P * 65536) (n := M) (by omega)
  have k9 := rerr2 (x := a * 65536) (n := I) (by omega)
  have k10 := rerr2 (x := q2 * 65536) (n := 411775) (by decide)
  have k11 := rerr2 (x := (s + q3) * 411775) (n := 65536) (by decide)
  have k12 := rerr2 (x := w1 * X) (n := 65536) (by decide)
  rw [← ha] at k7
  rw [← hq1] at k8
  rw [← hq2] at k9
  rw [← hq3] at k10
  rw [← hw1] at k11
  rw [← hu1] at k12
  -- the turning
  have D : -5 ≤ w1 - w0 - q2 ∧ w1 - w0 - q2 ≤ 5 := by omega
  have XD := mul_bd (x := X) (y := w1 - w0 - q2) (M := 131072) (N := 5) X0 X1 D.1 D.2
  have eD : X * (w1 - w0 - q2) = w1 * X - w0 * X - X * q2 := by grind
  rw [eD] at XD
  have A : X * q2 - 786432 ≤ 65536 * (u1 - u0) := by omega
  have B := mul_bd (x := X) (y := 2 * (I * q2) - 2 * (a * 65536)) (M := 131072) (N := I) X0 X1 k9.1 k9.2
  have eB : X * (2 * (I * q2) - 2 * (a * 65536)) = 2 * (I * (X * q2)) - 131072 * (X * a) := by grind
  rw [eB] at B
  have C := mul_bd (x := X) (y := 2 * (65536 * a) - 2 * (X * P)) (M := 131072) (N := 65536) X0 X1 k7.1 k7.2
  have eC : X * (2 * (65536 * a) - 2 * (X * P)) = 131072 * (X * a) - 2 * (X * X * P) := by grind
  rw [eC] at C
  have A2 := Int.mul_le_mul_of_nonneg_left A (show 0 ≤ I by omega)
  have eA : I * (X * q2 - 786432) = I * (X * q2) - 786432 * I := by grind
  have eA2 : I * (65536 * (u1 - u0)) = 65536 * (I * (u1 - u0)) := by grind
  rw [eA, eA2] at A2
  have tB : 0 ≤ 65536 * (I * (u1 - u0)) - X * X * P + 1000000 * I := by omega
  -- the ease
  have IM : 0 < M * I := Int.mul_pos (by omega) (by omega)
  have hD1 := Int.mul_le_mul_of_nonneg_left k1.2 (show 0 ≤ I by omega)
  have hD2 := Int.mul_le_mul_of_nonneg_left k3.2 (show 0 ≤ M by omega)
  have hD3 := Int.mul_le_mul_of_nonneg_left k2.2 (show 0 ≤ M by omega)
  have hD4 := Int.mul_le_mul_of_nonneg_left I0 (show 0 ≤ M by omega)
  have hee : 2 * (M * I * e) = I * (2 * (M * r1) - 2 * 4294967296) + M * (2 * (I * r2) - 2 * (c2 * 65536)) + M * (2 * (65536 * c2) - 2 * (X * X)) + 8589934592 * I + 2 * (M * (X * X)) := by rw [he]; grind
  have tC : 0 ≤ 8589934592 * I + 2 * (M * (X * X)) + 3 * (M * I) - 2 * (M * I * e) := by
    have c1' : I * M = M * I := Int.mul_comm I M
    omega
  have tA : 0 ≤ 2 * (M * q1) - 131072 * P + M := by omega
  have tD : 0 ≤ 2 * (e * P) - 131072 * -(VY + u0) + e := by omega
  have s1 := Int.mul_nonneg (show 0 ≤ I by omega) tA
  have s2 := Int.mul_nonneg (show 0 ≤ M by omega) tB
  have s3 := Int.mul_nonneg P0 tC
  have s4 := Int.mul_nonneg (Int.le_of_lt IM) tD
  have tot : M * I * (131072 * (VY + q1 + u1) + e + 3 * P + 65536 + 2000000) = 65536 * (I * (2 * (M * q1) - 131072 * P + M)) + 2 * (M * (65536 * (I * (u1 - u0)) - X * X * P + 1000000 * I)) + P * (8589934592 * I + 2 * (M * (X * X)) + 3 * (M * I) - 2 * (M * I * e)) + M * I * (2 * (e * P) - 131072 * -(VY + u0) + e) := by grind
  have f := Int.add_nonneg (Int.add_nonneg (Int.add_nonneg (Int.mul_nonneg (show (0 : Int) ≤ 65536 by decide) s1) (Int.mul_nonneg (show (0 : Int) ≤ 2 by decide) s2)) s3) s4
  rw [← tot] at f
  have fin := nn_of_mul IM f
  omega
end Go.Proofs.T1
