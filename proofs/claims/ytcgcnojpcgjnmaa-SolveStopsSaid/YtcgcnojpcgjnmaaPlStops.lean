/-
  Plain laws: no program in sight.
-/
import Derived.Test.YtcgcnojpcgjnmaaPlStopA
import Derived.Test.YtcgcnojpcgjnmaaG9
import Derived.Test.YtcgcnojpcgjnmaaG13
namespace Go.Proofs.T1
open Go Go.Sx

/-! Contacts: their check, their rows, a round -/
def P1 (nb : Int) (x : V78) : Prop := 0 ≤ x.1 ∧ x.1 < x.2.1 ∧ x.2.1 < nb ∧ 0 ≤ x.2.2.1
def P2 (x : V78) : Prop := Bd x.2.2.2.1 65536000 ∧ Bd x.2.2.2.2.1 65536
def P3 (x : V78) : Prop := (0 ≤ x.2.2.2.2.2.1 ∧ x.2.2.2.2.2.1 ≤ 65536000) ∧ (0 ≤ x.2.2.2.2.2.2.1 ∧ x.2.2.2.2.2.2.1 ≤ 1099511627776) ∧ (-1099511627776 ≤ x.2.2.2.2.2.2.2.1 ∧ x.2.2.2.2.2.2.2.1 ≤ 1099511627776)
instance (nb : Int) (x : V78) : Decidable (P1 nb x) := by unfold P1; infer_instance
instance (x : V78) : Decidable (P2 x) := by unfold P2; infer_instance
instance (x : V78) : Decidable (P3 x) := by unfold P3; infer_instance
theorem sin_gen (k : Nat) (n a b : Int) : solve_Check_1 k n a b = some (decide (a ≤ n ∧ n ≤ b)) := by
  unfold solve_Check_1
  by_cases h : n ≥ a
  · rw [ige_pos h, bif_true]
    unfold ile
    congr 1
    rw [decide_eq_decide]
    exact ⟨fun x => ⟨h, x⟩, fun x => x.2⟩
  · rw [ige_neg (by omega), bif_false, decide_eq_false (fun x => h x.1)]
theorem SC_c2 (k : Nat) {l : List V25} (hl : len l ≤ 64) (c : List V78) (v : Int) : solve_Check.c2 k l c v = some (!decide (P1 (len l) (el Z78 c v))) := by
  have h0 : (0 : Int) ≤ len l := by unfold len; omega
  unfold solve_Check.c2
  generalize el Z78 c v = x
  rw [isub_i64 (by omega) (by omega), sin_gen, bnd_some, sin_gen]
  by_cases a : 0 ≤ x.1 ∧ x.1 ≤ len l - 1
  · rw [decide_eq_true a, bif_true, bnd_some]
    by_cases b : 0 ≤ x.2.1 ∧ x.2.1 ≤ len l - 1
    · rw [decide_eq_true b, bif_true]
      by_cases d : x.1 ≥ x.2.1
      · rw [ige_pos d, bif_true, decide_eq_false (by unfold P1; omega)]; rfl
      · rw [ige_neg (by omega), bif_false]
        unfold ilt
        by_cases e : x.2.2.1 < 0
        · rw [decide_eq_true e, decide_eq_false (by unfold P1; omega)]; rfl
        · rw [decide_eq_false e, decide_eq_true (by unfold P1; omega)]; rfl
    · rw [decide_eq_false b, bif_false, decide_eq_false (by unfold P1; omega)]; rfl
  · rw [decide_eq_false a, bif_false, decide_eq_false (by unfold P1; omega)]; rfl
theorem SC_c3 (k : Nat) (c : List V78) (v : Int) : solve_Check.c3 k c v = some (!decide (P2 (el Z78 c v))) := by
  unfold solve_Check.c3
  generalize el Z78 c v = x
  simp only [sin_gen, bnd_some]
  by_cases a : -65536000 ≤ x.2.2.2.1.1 ∧ x.2.2.2.1.1 ≤ 65536000
  · rw [decide_eq_true a, bif_true]
    by_cases b : -65536000 ≤ x.2.2.2.1.2.1 ∧ x.2.2.2.1.2.1 ≤ 65536000
    · rw [decide_eq_true b, bif_true]
      by_cases d : -65536 ≤ x.2.2.2.2.1.1 ∧ x.2.2.2.2.1.1 ≤ 65536
      · rw [decide_eq_true d, bif_true]
        congr 2
        rw [decide_eq_decide]
        exact ⟨fun e => ⟨⟨a.1, a.2, b.1, b.2⟩, d.1, d.2, e.1, e.2⟩, fun e => e.2.2.2⟩
      · rw [decide_eq_false d, bif_false, decide_eq_false (fun e => d ⟨e.2.1, e.2.2.1⟩)]; rfl
    · rw [decide_eq_false b, bif_false, decide_eq_false (fun e => b e.1.2.2)]; rfl
  · rw [decide_eq_false a, bif_false, decide_eq_false (fun e => a ⟨e.1.1, e.1.2.1⟩)]; rfl
theorem SC_c4 (k : Nat) (c : List V78) (v : Int) : solve_Check.c4 k c v = some (!decide (P3 (el Z78 c v))) := by
  unfold solve_Check.c4
  generalize el Z78 c v = x
  simp only [sin_gen, bnd_some]
  by_cases a : 0 ≤ x.2.2.2.2.2.1 ∧ x.2.2.2.2.2.1 ≤ 65536000
  · rw [decide_eq_true a, bif_true]
    by_cases b : 0 ≤ x.2.2.2.2.2.2.1 ∧ x.2.2.2.2.2.2.1 ≤ 1099511627776
    · rw [decide_eq_true b, bif_true]
      congr 2
      rw [decide_eq_decide]
      exact ⟨fun e => ⟨a, b, e⟩, fun e => e.2.2⟩
    · rw [decide_eq_false b, bif_false, decide_eq_false (fun e => b e.2.1)]; rfl
  · rw [decide_eq_false a, bif_false, decide_eq_false (fun e => a e.1)]; rfl
def CVx (nb : Int) (x : V78) : Prop := P1 nb x ∧ P2 x ∧ P3 x
instance (nb : Int) (x : V78) : Decidable (CVx nb x) := by unfold CVx; infer_instance
end Go.Proofs.T1
namespace Go.Proofs.T1
open Go Go.Sx

/-! SolveStops -/
theorem run_check {k : Nat} {W B : V25} (hW : body_Check (k + 3) W = some 0) (hB : body_Check (k + 3) B = some 0) {X Y : Int} (hX : -131072 ≤ X ∧ X ≤ 131072) (hY : -131072 ≤ Y ∧ Y ≤ 131072) : solve_Check (k + 3) [W, B] [Ct X Y] = some 0 := by
  have e0 : el Z25 [W, B] 0 = W := rfl
  have e1 : el Z25 [W, B] (iadd .i64 0 1) = B := rfl
  have kc : keep_Check (k + 3) [W, B] = some 0 := by
    unfold keep_Check
    rw [igt_neg (show len [W, B] ≤ 64 by show (2 : Int) ≤ 64; decide), bif_false]
    rw [keep_Check.c1, ilt_pos (show (0 : Int) < len [W, B] by show (0 : Int) < 2; decide), bif_true, req_pos (inL_of (by decide) (show (0 : Int) < 2 by decide)), e0, hW, bnd_some, ine_neg rfl, bif_false]
    rw [keep_Check.c1, ilt_pos (show iadd .i64 0 1 < len [W, B] by show iadd .i64 0 1 < (2 : Int); decide), bif_true, req_pos (inL_of (by decide) (show iadd .i64 0 1 < (2 : Int) by decide)), e1, hB, bnd_some, ine_neg rfl, bif_false]
    rw [keep_Check.c1, ilt_neg (show len [W, B] ≤ iadd .i64 (iadd .i64 0 1) 1 by show (2 : Int) ≤ iadd .i64 (iadd .i64 0 1) 1; decide), bif_false, bnd_some, two_inr]
  unfold solve_Check
  rw [kc, bnd_some, ine_neg rfl, bif_false, igt_neg (show len [Ct X Y] ≤ 4096 by show (1 : Int) ≤ 4096; decide), bif_false]
  have c0 : el Z78 [Ct X Y] 0 = Ct X Y := rfl
  rw [solve_Check.c1, ilt_pos (show (0 : Int) < len [Ct X Y] by show (0 : Int) < 1; decide), bif_true, req_pos (inL_of (by decide) (show (0 : Int) < 1 by decide))]
  rw [SC_c2 (k + 3) (show len [W, B] ≤ 64 by show (2 : Int) ≤ 64; decide), bnd_some, SC_c3, SC_c4, c0]
  have d1 : P1 (len [W, B]) (Ct X Y) := by
    show P1 2 (Ct X Y)
    unfold P1
    dsimp only
    decide
  have d2 : P2 (Ct X Y) := by
    unfold P2 Bd
    dsimp only
    omega
  have d3 : P3 (Ct X Y) := by
    unfold P3
    dsimp only
    decide
  rw [decide_eq_true d1, decide_eq_true d2, decide_eq_true d3]
  show bnd (bif' false _ _) _ = _
  rw [bif_false, bnd_some]
  show bnd (bif' false _ _) _ = _
  rw [bif_false, bnd_some]
  show bnd (bif' false _ _) _ = _
  rw [bif_false, solve_Check.c1, ilt_neg (show len [Ct X Y] ≤ iadd .i64 0 1 by show (1 : Int) ≤ iadd .i64 0 1; decide), bif_false, bnd_some, two_inr]
theorem run_copy {k n : Nat} {W B : V25} (hW : W.2.2.2.2.2.2.2.2.1.length ≤ 1000) (hB : B.2.2.2.2.2.2.2.2.1.length ≤ 1000) : solve_Run.c2 k [W, B] (n + 3) 0 [] = some [W, B] := by
  have e0 : el Z25 [W, B] 0 = W := rfl
  have e1 : el Z25 [W, B] (iadd .i64 0 1) = B := rfl
  rw [solve_Run.c2, ilt_pos (show (0 : Int) < len [W, B] by show (0 : Int) < 2; decide), bif_true, req_pos (inL_of (by decide) (show (0 : Int) < 2 by decide)), e0]
  unfold slices_Clone_129
  rw [req_pos (show room0 16 W.2.2.2.2.2.2.2.2.1 by show (0 + W.2.2.2.2.2.2.2.2.1.length) * 16 ≤ 140737488355328; omega), bnd_some]
  refine (req_pos (show (0 + 1) * 120 ≤ 140737488355328 by decide) _).trans ?_
  rw [solve_Run.c2, ilt_pos (show iadd .i64 0 1 < len [W, B] by show iadd .i64 0 1 < (2 : Int); decide), bif_true, req_pos (inL_of (by decide) (show iadd .i64 0 1 < (2 : Int) by decide)), e1]
  unfold slices_Clone_129
  rw [req_pos (show room0 16 B.2.2.2.2.2.2.2.2.1 by show (0 + B.2.2.2.2.2.2.2.2.1.length) * 16 ≤ 140737488355328; omega), bnd_some]
  refine (req_pos (show (1 + 1) * 120 ≤ 140737488355328 by decide) _).trans ?_
  rw [solve_Run.c2, ilt_neg (show len [W, B] ≤ iadd .i64 (iadd .i64 0 1) 1 by show (2 : Int) ≤ iadd .i64 (iadd .i64 0 1) 1; decide), bif_false]
  rfl
theorem run_gen {k : Nat} {W B : V25} {X Y : Int} {r : V145} {bs : List V25} {cs : List V78} (hcheck : solve_Check (k + 3) [W, B] [Ct X Y] = some 0) (hcopy : solve_Run.c2 (k + 3) [W, B] (k + 3) 0 [] = some [W, B])
    (hrow : solve_solver_row_2 (k + 3) (Ct X Y) 4096 [W, B] [Ct X Y] [] = some r) (hr : r.1 = (-65536, 0, ())) (hpush : solve_solver_push (k + 3) (Ct X Y) (0, 0, ()) [W, B] [Ct X Y] [r] = some [W, B])
    (hround : solve_solver_round (k + 3) 0 [W, B] [Ct X Y] [r] = some (bs, cs)) : solve_Run (k + 3) [W, B] [Ct X Y] 4096 1 = some (bs, cs, 0) := by
  have q1 : solve_Run.c1 (k + 3) 4096 1 = some false := rfl
  have cl : slices_Clone (k + 3) [Ct X Y] = some [Ct X Y] := by
    unfold slices_Clone
    exact req_pos (show (0 + 1) * 80 ≤ 140737488355328 by decide) _
  have c0 : el Z78 [Ct X Y] 0 = Ct X Y := rfl
  have r0 : el Z145 [r] 0 = r := rfl
  have l1 : (0 : Int) < len [Ct X Y] := by show (0 : Int) < 1; decide
  have l2 : len [Ct X Y] ≤ iadd .i64 0 1 := by show (1 : Int) ≤ iadd .i64 0 1; decide
  have c3 : solve_Run.c3 (k + 3) 4096 [W, B] [Ct X Y] (k + 3) 0 [] = some [r] := by
    rw [solve_Run.c3, ilt_pos l1, bif_true, req_pos (inL_of (by decide) l1), c0, hrow, bnd_some]
    refine (req_pos (show (0 + 1) * 48 ≤ 140737488355328 by decide) _).trans ?_
    rw [solve_Run.c3, ilt_neg l2, bif_false]
    rfl
  have c4 : solve_Run.c4 (k + 3) [r] [Ct X Y] (k + 3) 0 [W, B] = some [W, B] := by
    have v1 : vec_Scale (k + 3) (0, 65536, ()) 0 = some (0, 0, ()) := by
      unfold vec_Scale
      rw [sf_zero (by omega), bnd_some, sf_zero (by omega), bnd_some]
    have v2 : vec_Scale (k + 3) (-65536, 0, ()) 0 = some (0, 0, ()) := by
      unfold vec_Scale
      rw [sf_zero (by omega), bnd_some, sf_zero (by omega), bnd_some]
    have v3 : vec_Add (k + 3) (0, 0, ()) (0, 0, ()) = some (0, 0, ()) := by
      have z : fix_Add (k + 3) 0 0 = some 0 := by rw [sf_add (k + 3) (by decide) (by decide) (by decide)]; rfl
      unfold vec_Add
      dsimp only
      rw [z, bnd_some, bnd_some]
    rw [solve_Run.c4, ilt_pos l1, bif_true, req_pos (inL_of (by decide) l1), c0]
    dsimp only
    rw [v1, bnd_some, req_pos (inL_of (by decide) (show (0 : Int) < 1 by decide)), r0, hr, v2, bnd_some, v3, bnd_some, hpush, bnd_some, solve_Run.c4, ilt_neg l2, bif_false]
  have c5 : solve_Run.c5 (k + 3) 1 [r] (k + 3) 0 [W, B] [Ct X Y] = some (bs, cs) := by
    rw [solve_Run.c5, ilt_pos (by decide), bif_true, solve_Run.c6, ilt_pos l1, bif_true, hround, bnd_some, solve_Run.c6, ilt_neg l2, bif_false, bnd_some, solve_Run.c5, ilt_neg (show (1 : Int) ≤ iadd .i64 0 1 by decide), bif_false]
  unfold solve_Run
  rw [hcheck, bnd_some, ine_neg rfl, bif_false, q1, bnd_some, bif_false, cl, bnd_some, hcopy, bnd_some, c3, bnd_some, c4, bnd_some, c5, bnd_some]
theorem solves_eq : tourkeep2_solves 1003 = some true := by kernel_rfl
theorem stop_square (k : Nat) : tourkeep2_square k 0 0 1 = some [(-65536, -65536, ()), (65536, -65536, ()), (65536, 65536, ()), (-65536, 65536, ())] := rfl
abbrev Sq : List V22 := [(-65536, -65536, ()), (65536, -65536, ()), (65536, 65536, ()), (-65536, 65536, ())]
theorem wall_ok : body_Check 1003 (Wall Sq) = some 0 := by kernel_rfl
theorem stop_wall (k : Nat) : tourkeep2_block k 0 (-20) 1 false = some (Wall Sq) := rfl
theorem stop_c1 {k : Nat} (hs : tourkeep2_solves k = some true) (A B : V25) (x : V78) : tourkeep2_SolveStops.c1 k ([A, B], [x], 0) = some false := by
  unfold tourkeep2_SolveStops.c1
  rw [hs, bnd_some, bif_true, ine_neg rfl, bif_false, ine_neg (show len ([A, B] : List V25) = 2 from rfl), bif_false, ine_neg (show len ([x] : List V78) = 1 from rfl)]
theorem SolveStops_true {k : Nat} (hk : 9 ≤ k) (hs : tourkeep2_solves (k + 3) = some true) (hwall : body_Check (k + 3) (Wall Sq) = some 0) (raw : List Int) (u w : Int) : tourkeep2_SolveStops (k + 3) raw u w = some true := by
  obtain ⟨p, v, ang, spin, mass, inertia, bounce, rub, l, e, hm⟩ := Body_made (k + 3) raw
  obtain ⟨y5, e5, a5, b5⟩ := Below_eq (k + 3) u (n := 262144) (by decide) (by decide)
  obtain ⟨y7, e7, a7, b7⟩ := Below_eq (k + 3) w (n := 131072) (by decide) (by decide)
  have hm' : BMade (0, 0, ()) v ang spin mass inertia 0 0 l := ⟨hm.hl, by decide, hm.hv, hm.hang, hm.hspin, by decide, by decide, hm.hw⟩
  have hc : body_Check (k + 3) (Bo v ang spin mass inertia l) = some 0 := hm'.check (by omega)
  have hl8 := hm.hl.1.2.1
  have hl : l.length ≤ 8 := by unfold len at hl8; omega
  unfold tourkeep2_SolveStops
  rw [e, bnd_some, stop_wall, bnd_some, e5, bnd_some, e7, bnd_some, isub_i64 (by omega) (by omega), isub_i64 (by omega) (by omega)]
  dsimp only
  have hX : -131072 ≤ y5 - 131072 ∧ y5 - 131072 ≤ 131072 := by omega
  have hY : -131072 ≤ y7 - 131072 ∧ y7 - 131072 ≤ 131072 := by omega
  have h1 := run_check (k := k) hwall hc hX hY
  have h2 := run_copy (k := k + 3) (n := k) (W := Wall Sq) (B := Bo v ang spin mass inertia l) (by decide) (by show l.length ≤ 1000; omega)
  have hv := hm.hv
  have hsp := hm.hspin
  rcases hm.hw with ⟨m0, i0, v0, s0⟩ | ⟨m0, m1, i0, i1⟩
  · subst m0 i0 v0 s0
    have hE := Ease_out (K := k + 3) hc (Or.inr (Or.inl rfl)) (y5 - 131072, y7 - 131072, ()) (0, 65536, ())
    have hT := Ease_out (K := k + 3) hc (Or.inr (Or.inl rfl)) (y5 - 131072, y7 - 131072, ()) (-65536, 0, ())
    obtain ⟨sl, hrow, sl0, sl1⟩ := st_row (k := k + 3) (by omega) hwall hc hX hY (by decide) (by decide) hE (by decide) hT (by decide) [Ct (y5 - 131072) (y7 - 131072)] []
    have hp0 := Push_out (K := k + 3) (show l.length ≤ 2000000 by omega) hc (Or.inr (Or.inl rfl)) (0, 0, ()) (y5 - 131072, y7 - 131072, ())
    have hpush := st_push (k := k + 3) (by omega) hwall (by decide) hp0 (x := Ct (y5 - 131072) (y7 - 131072)) rfl rfl rfl [Ct (y5 - 131072) (y7 - 131072)] [((-65536, 0, ()), 0, sl, 0, 0, ())]
    have hr : solve_solver_round (k + 3) 0 [Wall Sq, Bo (0, 0, ()) ang 0 0 0 l] [Ct (y5 - 131072) (y7 - 131072)] [((-65536, 0, ()), 0, sl, 0, 0, ())] = some ([Wall Sq, Bo (0, 0, ()) ang 0 0 0 l], [Ct (y5 - 131072) (y7 - 131072)]) := by
      have e0 : el Z145 [((-65536, 0, ()), 0, sl, 0, 0, ())] 0 = ((-65536, 0, ()), 0, sl, 0, 0, ()) := rfl
      unfold solve_solver_round
      rw [req_pos (inL_of (by decide) (show (0 : Int) < 1 by decide)), req_pos (inL_of (by decide) (show (0 : Int) < 1 by decide)), round_c1 (by omega) hwall (by decide) hc hX hY (by decide) (by decide) hp0 sl0 sl1, bnd_some, e0]
      dsimp only
      rw [ine_neg rfl, bif_false]
    rw [run_gen h1 h2 hrow rfl hpush hr, bnd_some]
    rw [stop_c1 hs, bnd_some, bif_false, ieq_pos rfl, bif_true]
  · obtain ⟨hE, E0⟩ := st_EaseY (k := k + 3) (by omega) hc m0 m1 i0 i1 hX hY
    obtain ⟨S, hS, S0, _⟩ := st_EaseT (k := k + 3) (by omega) hc m0 m1 i0 i1 (y5 - 131072, y7 - 131072, ()) (-65536, 0, ())
    obtain ⟨sl, hrow, sl0, sl1⟩ := st_row (k := k + 3) (by omega) hwall hc hX hY (by omega) hv.2.2 hE E0 hS S0 [Ct (y5 - 131072) (y7 - 131072)] []
    have hp0 : body_Push (k + 3) (Bo v ang spin mass inertia l) (0, 0, ()) (y5 - 131072, y7 - 131072, ()) = some (Bo v ang spin mass inertia l) := by
      have h := (st_Push (k := k + 3) (by omega) (show l.length ≤ 2000000 by omega) hc m0 m1 i0 i1 hX hY (P := 0) (by decide) (by omega) hv).1
      rw [Int.mul_zero, Int.zero_mul, rnd0 (by omega), rnd0 (by omega), Int.zero_mul, rnd0 (by omega), Int.zero_mul, rnd0 (by omega), Int.add_zero, Int.add_zero] at h
      exact h
    have hpush := st_push (k := k + 3) (by omega) hwall (by decide) hp0 (x := Ct (y5 - 131072) (y7 - 131072)) rfl rfl rfl [Ct (y5 - 131072) (y7 - 131072)] [((-65536, 0, ()), rnd 4294967296 mass + rnd (rnd ((y5 - 131072) * (y5 - 131072)) 65536 * 65536) inertia, sl, 0, 0, ())]
    obtain ⟨v', spin', x', hr, bv, bs, fin⟩ := round_all (k := k + 3) (by omega) hwall (by decide) (show l.length ≤ 2000000 by omega) hc m0 m1 i0 i1 hX hY (by omega) hv hp0 rfl sl0 sl1
    have hv2 : Bd v' 268435456 := by unfold Bd; omega
    have hc' : body_Check (k + 3) (Bo v' ang spin' mass inertia l) = some 0 :=
      bodyCheck_ok (by omega) hm.hl (by decide) (by unfold Bd at hv2; omega) (by omega) hm.hang (by omega) (by omega) (by decide) (by decide) (by decide) (by omega) (fun h => absurd h (by omega)) (fun h => by cases h)
    obtain ⟨s0, hat⟩ := st_At (k := k + 3) (by omega) hc' hX hY bs bv.2.2
    have l1 : el Z25 [Wall Sq, Bo v' ang spin' mass inertia l] 1 = Bo v' ang spin' mass inertia l := rfl
    rw [run_gen h1 h2 hrow rfl hpush hr, bnd_some]
    rw [stop_c1 hs, bnd_some, bif_false, ieq_neg (by omega), bif_false, req_pos (inL_of (by decide) (show (1 : Int) < 2 by decide))]
    dsimp only
    rw [l1, hat, bnd_some]
    exact congrArg some (ige_pos fin)
theorem tourkeep2_SolveStops_plain (x : ((.pair T49 (.pair T2 (.pair T2 .unit))) : Ty).den) (_ : Ty.wf (.pair T49 (.pair T2 (.pair T2 .unit))) x) : ∃ k, (tourkeep2_SolveStops.sp k).f x = some true := by
  obtain ⟨raw, u, w, _⟩ := x
  obtain ⟨K, hK⟩ : ∃ K : Nat, K = 1000 := ⟨_, rfl⟩
  have h1 := solves_eq
  have h2 := wall_ok
  rw [show (1003 : Nat) = K + 3 by omega] at h1 h2
  exact ⟨K + 3, SolveStops_true (by omega) h1 h2 raw u w⟩
end Go.Proofs.T1
