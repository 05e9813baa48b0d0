/-
  Plain laws: no program in sight.
-/
import Derived.Test.YtokhmieofiaidaaPlSays
namespace Go.Proofs.T1
open Go Go.Sx

theorem eqb40_self (a : V40) : Ty.eqb T40 a a = true := by rw [eqb40]; exact decide_eq_true rfl

theorem list8 {l : List Int} (h : l.length = 8) : ∃ a0 a1 a2 a3 a4 a5 a6 a7, l = [a0, a1, a2, a3, a4, a5, a6, a7] := by
  match l, h with
  | [a0, a1, a2, a3, a4, a5, a6, a7], _ => exact ⟨a0, a1, a2, a3, a4, a5, a6, a7, rfl⟩

theorem OfWide_eq {k : Nat} (hk : 9 ≤ k) {w : V40} (hw : WOk w) : ∃ a, tourref2_OfWide k w = some a ∧ BR a (wv w) := by
  unfold WOk at hw
  have hr := wrap_i64_range w.2.1
  obtain ⟨q1, hq1⟩ := wrap_i64_mod w.2.1
  obtain ⟨y1, e1, d1, p1⟩ := BOf hk (n := icv .i64 w.2.1) hr.1 hr.2
  obtain ⟨y3, e3, d3, p3⟩ := BOf hk (n := w.1) hw.1 hw.2.1
  unfold tourref2_OfWide
  rw [e1, bnd_some, e3, bnd_some]
  refine ⟨_, rfl, ?_⟩
  obtain ⟨a0, a1, a2, a3, a4, a5, a6, a7, rfl⟩ := list8 d1.1
  obtain ⟨b0, b1, b2, b3, b4, b5, b6, b7, rfl⟩ := list8 d3.1
  have ec : cpy [a0, a1, a2, a3, a4, a5, a6, a7] 4 [b0, b1, b2, b3, b4, b5, b6, b7] 0 4 = [a0, a1, a2, a3, b0, b1, b2, b3] := rfl
  rw [ec]
  have A0 := d1.2 0 (by decide)
  have A1 := d1.2 1 (by decide)
  have A2 := d1.2 2 (by decide)
  have A3 := d1.2 3 (by decide)
  have B0 := d3.2 0 (by decide)
  have B1 := d3.2 1 (by decide)
  have B2 := d3.2 2 (by decide)
  have B3 := d3.2 3 (by decide)
  simp only [List.getD_cons_zero, List.getD_cons_succ] at A0 A1 A2 A3 B0 B1 B2 B3
  rw [psum8] at p1 p3
  simp only [List.getD_cons_zero, List.getD_cons_succ] at p1 p3
  refine ⟨⟨rfl, ?_⟩, ?_⟩
  · intro i hi
    have : i = 0 ∨ i = 1 ∨ i = 2 ∨ i = 3 ∨ i = 4 ∨ i = 5 ∨ i = 6 ∨ i = 7 := by omega
    rcases this with h | h | h | h | h | h | h | h <;> subst h <;> simp only [List.getD_cons_zero, List.getD_cons_succ] <;> assumption
  · rw [psum8]
    simp only [List.getD_cons_zero, List.getD_cons_succ]
    unfold wv
    unfold icv at p1
    rw [hq1] at p1
    omega

theorem wv_SR {w : V40} (hw : WOk w) : SR (wv w) := by
  unfold WOk at hw
  unfold SR wv
  omega

theorem rndM_z {t : Bool} {c : Int} (hc : 0 < c) : rndM t 0 c = 0 := by
  unfold rndM
  cases t
  · simp only [Bool.false_eq_true, if_false]
    exact Int.ediv_eq_zero_of_lt (by omega) (by omega)
  · simp only [if_true]
    rw [Int.ediv_eq_zero_of_lt (by omega) (by omega)]
    decide

theorem Over_neg {k : Nat} (hk : 2 ≤ k) {w : V40} (hw : WOk w) {n : Int} (hn : n < 0) (hn' : -9223372036854775808 ≤ n) : poly_Wide_Over k w n = some (fit (rnd (-wv w) (-n))) := by
  rw [Over_gen hk hw ⟨hn', by omega⟩ (by omega)]
  have h := rnd_pos (x := -wv w) (n := -n) (by omega)
  have m1 : mag (-wv w) = mag (wv w) := by unfold mag; split <;> split <;> omega
  have m2 : mag (-n) = mag n := by unfold mag; rw [if_neg (by omega), if_pos hn]
  have m3 : 0 < mag n := by unfold mag; split <;> omega
  rw [m1, m2] at h
  rw [← h]
  congr 2
  by_cases hz : wv w = 0
  · have : mag (wv w) = 0 := by unfold mag; rw [hz]; rfl
    rw [this, rndM_z m3, rndM_z m3]
  · congr 1
    have d1 : decide (n < 0) = true := decide_eq_true hn
    have d2 : decide (-n < 0) = false := decide_eq_false (by omega)
    rw [d1, d2]
    by_cases hx : wv w < 0
    · have : ¬ -wv w < 0 := by omega
      rw [decide_eq_true hx, decide_eq_false this]
      rfl
    · have : -wv w < 0 := by omega
      rw [decide_eq_false hx, decide_eq_true this]
      rfl

theorem BOver_neg {k : Nat} (hk : 200 ≤ k) {a : List Int} {x n : Int} (ha : BR a x) (h0 : -42535295865117307932921825928971026432 ≤ x) (h1 : x ≤ 42535295865117307932921825928971026432) (hn : n < 0) (hn' : -2305843009213693952 ≤ n) :
    tourref2_Big_Over k a n = some (fit (rnd (-x) (-n))) := by
  obtain ⟨na, e0, r0⟩ := BNeg (k := k) (by omega) ha
  have en : ineg .i64 n = -n := by unfold ineg; rw [wrap_i64 (by omega) (by omega)]; omega
  have hp := BOver_pos hk r0 (x := -x) (n := -n) (by omega) (by omega) (by omega) (by omega)
  rw [← hp]
  unfold tourref2_Big_Over tourref2_Big_Over.c1
  rw [ieq_neg (by omega), bif_false, ilt_pos hn, bif_true, e0, bnd_some, en, bnd_some, ieq_neg (by omega), bif_false, ilt_neg (by omega), bif_false, bnd_some]

theorem PolyWide_true (v w : V40) (a b : V24) (n : Int) (hv : WOk v) (hw : WOk w) (a1 : I64 a.1) (a2 : I64 a.2.1) (b1 : I64 b.1) (b2 : I64 b.2.1) : tourlaw2_PolyWide 200 v w a b n = some true := by
  have hk : 200 ≤ 200 := by decide
  have hk9 : 9 ≤ 200 := by decide
  have ht : poly_Times 200 (-3) 5 = some (-1, 18446744073709551601, ()) := by kernel_rfl
  obtain ⟨x, ex, rx⟩ := OfWide_eq hk9 hv
  obtain ⟨y, ey, ry⟩ := OfWide_eq hk9 hw
  have c1 : tourlaw2_PolyWide.c1 200 v w a b x y = some false := by
    obtain ⟨t, e8, o8, v8⟩ := Times_eq 200 a1.1 a1.2 b1.1 b1.2
    obtain ⟨y10, e10, r10⟩ := BOf hk9 a1.1 a1.2
    obtain ⟨y12, e12, r12⟩ := BOf hk9 b1.1 b1.2
    obtain ⟨y14, e14, r14⟩ := BMul hk9 r10 r12
    obtain ⟨y16, e16, o16, v16, _⟩ := BWide hk9 r14
    obtain rfl : y16 = t := wv_inj o16 o8 (by rw [v16, v8])
    obtain ⟨p, e19, o19, v19⟩ := Plus_eq 200 hv hw
    obtain ⟨y21, e21, r21⟩ := BAdd hk9 rx ry
    obtain ⟨y23, e23, o23, v23, _⟩ := BWide hk9 r21
    obtain rfl : y23 = p := wv_inj o23 o19 (by rw [v23, v19])
    obtain ⟨m, e26, o26, v26⟩ := Minus_eq 200 hv hw
    obtain ⟨y28, e28, r28⟩ := BSub hk9 rx ry
    obtain ⟨y30, e30, o30, v30, _⟩ := BWide hk9 r28
    obtain rfl : y30 = m := wv_inj o30 o26 (by rw [v30, v26])
    unfold tourlaw2_PolyWide.c1
    rw [e8, bnd_some, e10, bnd_some, e12, bnd_some, e14, bnd_some, e16, bnd_some]
    refine (congrArg (fun b => bif' b _ _) (eqb40_self _)).trans ?_
    rw [bif_true, e19, bnd_some, e21, bnd_some, e23, bnd_some]
    refine (congrArg (fun b => bif' b _ _) (eqb40_self _)).trans ?_
    rw [bif_true, e26, bnd_some, e28, bnd_some, e30, bnd_some]
    refine (congrArg (fun b => bif' b _ _) (eqb40_self _)).trans ?_
    rw [bif_true, WCmp_eq 200 hv hw, bnd_some, BCmp hk9 rx ry (wv_SR hv) (wv_SR hw), bnd_some, ine_neg rfl]
  have c2 : tourlaw2_PolyWide.c2 200 a b = some false := by
    obtain ⟨s1, e1, o1, v1⟩ := Times_eq 200 a1.1 a1.2 b1.1 b1.2
    obtain ⟨s2, e2, o2, v2⟩ := Times_eq 200 a2.1 a2.2 b2.1 b2.2
    obtain ⟨d, e3, o3, v3⟩ := Plus_eq 200 o1 o2
    obtain ⟨y42, e42, r42⟩ := BDot hk9 a1 a2 b1 b2
    obtain ⟨y44, e44, o44, v44, _⟩ := BWide hk9 r42
    obtain rfl : y44 = d := wv_inj o44 o3 (by rw [v44, v3, v1, v2])
    obtain ⟨s3, e5, o5, v5⟩ := Times_eq 200 a1.1 a1.2 b2.1 b2.2
    obtain ⟨s4, e6, o6, v6⟩ := Times_eq 200 a2.1 a2.2 b1.1 b1.2
    obtain ⟨c, e7, o7, v7⟩ := Minus_eq 200 o5 o6
    obtain ⟨y49, e49, r49⟩ := BCross hk9 a1 a2 b1 b2
    obtain ⟨y51, e51, o51, v51, _⟩ := BWide hk9 r49
    obtain rfl : y51 = c := wv_inj o51 o7 (by rw [v51, v7, v5, v6])
    have hd : poly_Dot 200 a b = some y44 := by
      unfold poly_Dot
      rw [e1, bnd_some, e2, bnd_some, e3, bnd_some]
    have hc : poly_Cross 200 a b = some y51 := by
      unfold poly_Cross
      rw [e5, bnd_some, e6, bnd_some, e7, bnd_some]
    unfold tourlaw2_PolyWide.c2
    rw [hd, bnd_some, e42, bnd_some, e44, bnd_some]
    refine (congrArg (fun b => bif' b _ _) (eqb40_self _)).trans ?_
    rw [bif_true, hc, bnd_some, e49, bnd_some, e51, bnd_some]
    exact congrArg (fun b => some (!b)) (eqb40_self _)
  unfold tourlaw2_PolyWide
  rw [ht, bnd_some]
  refine (congrArg (fun b => bif' b _ _) (eqb40_self _)).trans ?_
  rw [bif_true, ex, bnd_some, ey, bnd_some, c1, bnd_some, bif_false, c2, bnd_some, bif_false]
  unfold tourlaw2_PolyWide.c3
  by_cases g1 : v.1 ≥ 2305843009213693952
  · rw [ige_pos g1, bif_true, bnd_some, bif_true]
  rw [ige_neg (by omega), bif_false]
  by_cases g2 : v.1 < -2305843009213693952
  · rw [ilt_pos g2, bif_true, bnd_some, bif_true]
  rw [ilt_neg (by omega), bif_false]
  by_cases g3 : n > 2305843009213693952
  · rw [igt_pos g3, bif_true, bnd_some, bif_true]
  rw [igt_neg (by omega), bif_false]
  by_cases g4 : n < -2305843009213693952
  · rw [ilt_pos g4, bnd_some, bif_true]
  rw [ilt_neg (by omega), bnd_some, bif_false]
  have hwv : wv v = v.1 * 18446744073709551616 + v.2.1 := rfl
  have hb : -42535295865117307932921825928971026432 ≤ wv v ∧ wv v ≤ 42535295865117307932921825928971026432 := by
    unfold WOk at hv
    omega
  have hsame : ∃ r, poly_Wide_Over 200 v n = some r ∧ tourref2_Big_Over 200 x n = some r := by
    rcases Int.lt_trichotomy n 0 with h | h | h
    · exact ⟨_, Over_neg (by decide) hv h (by omega), BOver_neg hk rx hb.1 hb.2 h (by omega)⟩
    · refine ⟨(0, 17), ?_, ?_⟩
      · unfold poly_Wide_Over
        rw [ieq_pos h, bif_true]
      · unfold tourref2_Big_Over
        rw [ieq_pos h, bif_true]
    · exact ⟨_, Over_pos (by decide) hv h (by omega), BOver_pos hk rx hb.1 hb.2 h (by omega)⟩
  obtain ⟨r, f1, f2⟩ := hsame
  rw [f1, bnd_some, f2, bnd_some, ieq_pos rfl, bif_true, ieq_pos rfl]

end Go.Proofs.T1
namespace Go.Proofs.T1
open Go Go.Sx
set_option maxRecDepth 100000 in
theorem tourlaw2_PolyWide_plain (x : ((.pair T40 (.pair T40 (.pair T24 (.pair T24 (.pair T3 .unit))))) : Ty).den) (h : Ty.wf (.pair T40 (.pair T40 (.pair T24 (.pair T24 (.pair T3 .unit))))) x) : ∃ k, (tourlaw2_PolyWide.sp k).f x = some true := by
  obtain ⟨⟨v1, v2, _⟩, ⟨w1, w2, _⟩, ⟨p1, p2, _⟩, ⟨q1, q2, _⟩, _⟩ := h
  have v1 := wf_i64.1 v1
  have v2 := wf_u64.1 v2
  have w1 := wf_i64.1 w1
  have w2 := wf_u64.1 w2
  exact ⟨200, PolyWide_true x.1 x.2.1 x.2.2.1 x.2.2.2.1 x.2.2.2.2.1 ⟨v1.1, v1.2, v2.1, v2.2⟩ ⟨w1.1, w1.2, w2.1, w2.2⟩ (wf_i64.1 p1) (wf_i64.1 p2) (wf_i64.1 q1) (wf_i64.1 q2)⟩
end Go.Proofs.T1
