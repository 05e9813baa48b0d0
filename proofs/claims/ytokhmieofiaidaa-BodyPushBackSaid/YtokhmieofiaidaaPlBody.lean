/-
  Plain laws: no program in sight.
-/
import Derived.Test.YtokhmieofiaidaaPlDense
import Derived.Test.YtokhmieofiaidaaG8
namespace Go.Proofs.T1
open Go Go.Sx

/-! Fixed-point numbers -/
def CM (x : Int) : Int := if x < -1099511627776 then -1099511627776 else if 1099511627776 < x then 1099511627776 else x
theorem Clamp_eq (k : Nat) (x : Int) : fix_Clamp k x = some (CM x) := by
  unfold fix_Clamp CM imin imax
  congr 1
  split <;> split <;> omega
theorem CM_bd (x : Int) : -1099511627776 ≤ CM x ∧ CM x ≤ 1099511627776 := by
  unfold CM
  split
  · omega
  · split <;> omega
theorem CM_in {x : Int} (h0 : -1099511627776 ≤ x) (h1 : x ≤ 1099511627776) : CM x = x := by
  unfold CM
  rw [if_neg (by omega), if_neg (by omega)]
theorem mag_eq (k : Nat) {x : Int} (h0 : -1099511627776 ≤ x) (h1 : x ≤ 1099511627776) : fix_mag k x = some (mag x) := by
  unfold fix_mag mag
  by_cases h : x < 0
  · rw [ilt_pos h, bif_true, if_pos h]
    have : ineg .i64 x = -x := by unfold ineg; rw [wrap_i64 (by omega) (by omega)]; omega
    rw [this, icv_u64]
    congr 1
    omega
  · rw [ilt_neg (by omega), bif_false, if_neg h, icv_u64]
    congr 1
    omega

theorem rndM_zero {t : Bool} {c : Int} (hc : 0 < c) : rndM t 0 c = 0 := by
  unfold rndM
  cases t
  · simp only [Bool.false_eq_true, if_false]
    exact Int.ediv_eq_zero_of_lt (by omega) (by omega)
  · simp only [if_true]
    rw [Int.ediv_eq_zero_of_lt (by omega) (by omega)]
    decide

theorem rndM_sign {a b c : Int} (hc : 0 < c) : rndM (decide (a < 0) != decide (b < 0)) (mag a * mag b) c = rnd (a * b) c := by
  have h := rnd_pos (x := a * b) hc
  have hcc : mag c = c := by unfold mag; rw [if_neg (by omega)]
  have hc0 : decide (c < 0) = false := decide_eq_false (by omega)
  rw [hcc, hc0] at h
  have hm : mag (a * b) = mag a * mag b := by
    unfold mag
    by_cases ha : a < 0 <;> by_cases hb : b < 0 <;> simp only [ha, hb, if_true, if_false]
    · have h1 : 0 < (-a) * (-b) := Int.mul_pos (by omega) (by omega)
      have e : (-a) * (-b) = a * b := by grind
      rw [if_neg (by omega), e]
    · have h1 : 0 ≤ (-a) * b := Int.mul_nonneg (by omega) (by omega)
      have e : (-a) * b = -(a * b) := by grind
      split <;> omega
    · have h1 : 0 ≤ a * (-b) := Int.mul_nonneg (by omega) (by omega)
      have e : a * (-b) = -(a * b) := by grind
      split <;> omega
    · have h1 : 0 ≤ a * b := Int.mul_nonneg (by omega) (by omega)
      rw [if_neg (by omega)]
  rw [← h, hm]
  by_cases hz : a * b = 0
  · rw [← hm, hz]
    have : mag 0 = 0 := rfl
    rw [this, rndM_zero hc, rndM_zero hc]
  · congr 1
    have ha0 : a ≠ 0 := fun h => hz (by rw [h]; simp)
    have hb0 : b ≠ 0 := fun h => hz (by rw [h]; simp)
    by_cases ha : a < 0 <;> by_cases hb : b < 0
    · have h1 : 0 < (-a) * (-b) := Int.mul_pos (by omega) (by omega)
      have e : (-a) * (-b) = a * b := by grind
      have : ¬ a * b < 0 := by omega
      simp [ha, hb, this]
    · have h1 : 0 < (-a) * b := Int.mul_pos (by omega) (by omega)
      have e : (-a) * b = -(a * b) := by grind
      have : a * b < 0 := by omega
      simp [ha, hb, this]
    · have h1 : 0 < a * (-b) := Int.mul_pos (by omega) (by omega)
      have e : a * (-b) = -(a * b) := by grind
      have : a * b < 0 := by omega
      simp [ha, hb, this]
    · have h1 : 0 < a * b := Int.mul_pos (by omega) (by omega)
      have : ¬ a * b < 0 := by omega
      simp [ha, hb, this]

theorem MulDiv_pos {k : Nat} (hk : 2 ≤ k) {a b c : Int} (ha : -1099511627776 ≤ a ∧ a ≤ 1099511627776) (hb : -1099511627776 ≤ b ∧ b ≤ 1099511627776) (hc : 0 < c) (hc' : c ≤ 1099511627776) :
    fix_MulDiv k a b c = some (CM (rnd (a * b) c)) := by
  have ma : 0 ≤ mag a ∧ mag a ≤ 1099511627776 := by unfold mag; split <;> omega
  have mb : 0 ≤ mag b ∧ mag b ≤ 1099511627776 := by unfold mag; split <;> omega
  have hX := mul_range ma.1 ma.2 mb.1 mb.2
  have hs := rndM_sign (a := a) (b := b) hc
  have hng : ∃ ng : Bool, fix_MulDiv.c1 k a b = some ng ∧ (decide (a < 0) != decide (b < 0)) = ng := by
    unfold fix_MulDiv.c1
    by_cases h : b < 0
    · rw [ilt_pos h, bif_true]
      exact ⟨_, rfl, by simp [h, ilt]⟩
    · rw [ilt_neg (by omega), bif_false]
      exact ⟨_, rfl, by simp [h, ilt]⟩
  obtain ⟨ng, n1, n2⟩ := hng
  rw [n2] at hs
  have mc : mag c = c := by unfold mag; rw [if_neg (by omega)]
  unfold fix_MulDiv
  rw [Clamp_eq, bnd_some, CM_in ha.1 ha.2, Clamp_eq, bnd_some, CM_in hb.1 hb.2, Clamp_eq, bnd_some, CM_in (by omega) hc', ieq_neg (by omega), bif_false, n1, bnd_some]
  have c2 : fix_MulDiv.c2 k ng c = some ng := by
    unfold fix_MulDiv.c2
    rw [ilt_neg (by omega), bif_false]
  rw [c2, bnd_some, mag_eq k (by omega) hc', bnd_some, mag_eq k ha.1 ha.2, bnd_some, mag_eq k hb.1 hb.2, bnd_some, Mul64_eq k ma.1 (by omega) mb.1 (by omega), bnd_some, mc, ← hs]
  dsimp only
  generalize mag a * mag b = X at *
  have hq := Int.mul_ediv_add_emod X c
  have hr0 := Int.emod_nonneg X (show c ≠ 0 by omega)
  have hr1 := Int.emod_lt_of_pos X hc
  have hq0 : 0 ≤ X / c := Int.ediv_nonneg hX.1 (by omega)
  have hR : rndM ng X c = if ng then -(if c + 1 ≤ 2 * (X % c) then X / c + 1 else X / c) else (if c ≤ 2 * (X % c) then X / c + 1 else X / c) := by
    unfold rndM
    conv => lhs; rw [← hq]
    rw [rnd_up hr0 hr1, rnd_dn hr0 hr1]
  by_cases hbig : c ≤ X / 18446744073709551616
  · rw [ige_pos hbig, bif_true]
    have hge : 18446744073709551616 ≤ X / c := by
      rw [Int.le_ediv_iff_mul_le hc]
      omega
    rw [hR]
    cases ng with
    | true =>
      rw [bif_true]
      simp only [if_true]
      unfold CM
      rw [if_pos (by split <;> omega)]
    | false =>
      rw [bif_false]
      simp only [Bool.false_eq_true, if_false]
      unfold CM
      rw [if_neg (by split <;> omega), if_pos (by split <;> omega)]
  · rw [ige_neg (by omega), bif_false, Div64_eq hk (by omega) (by omega) (by omega) (by omega) (by omega), bnd_some]
    have hXX : X / 18446744073709551616 * 18446744073709551616 + X % 18446744073709551616 = X := by omega
    rw [hXX]
    have hlt : X / c < 18446744073709551616 := by
      rw [Int.ediv_lt_iff_lt_mul hc]
      have : X / 18446744073709551616 * 18446744073709551616 ≤ (c - 1) * 18446744073709551616 := Int.mul_le_mul_of_nonneg_right (by omega) (by decide)
      omega
    generalize X / c = q at *
    generalize X % c = r at *
    unfold fix_MulDiv.c3
    dsimp only
    by_cases h : 1099511627776 < q
    · rw [igt_pos h, bif_true, bnd_some]
      have e0 : isub .u64 c 0 = c := by rw [isub_u64]; omega
      rw [hR]
      cases ng with
      | true =>
        rw [bif_true]
        unfold fix_MulDiv.c4
        dsimp only
        rw [e0, igt_neg (by omega), bif_false, bnd_some, show icv .i64 1099511627777 = 1099511627777 from rfl, show ineg .i64 1099511627777 = -1099511627777 from rfl, Clamp_eq, bnd_some]
        simp only [if_true]
        congr 1
        unfold CM
        rw [if_pos (by omega), if_pos (by split <;> omega)]
      | false =>
        rw [bif_false]
        unfold fix_MulDiv.c5
        dsimp only
        rw [e0, ige_neg (by omega), bif_false, bnd_some, show icv .i64 1099511627777 = 1099511627777 from rfl, Clamp_eq, bnd_some]
        simp only [Bool.false_eq_true, if_false]
        congr 1
        unfold CM
        rw [if_neg (by omega), if_pos (by omega), if_neg (by split <;> omega), if_pos (by split <;> omega)]
    · rw [igt_neg (by omega), bif_false, bnd_some]
      have e0 : isub .u64 c r = c - r := by rw [isub_u64]; omega
      have e1 : icv .i64 q = q := icv_i64 (by omega) (by omega)
      have e2 : iadd .i64 q 1 = q + 1 := iadd_i64 (by omega) (by omega)
      have e3 : ∀ z : Int, 0 ≤ z → z ≤ 1099511627777 → ineg .i64 z = -z := by intro z a b; unfold ineg; rw [wrap_i64 (by omega) (by omega)]; omega
      rw [hR]
      cases ng with
      | true =>
        rw [bif_true]
        unfold fix_MulDiv.c4
        dsimp only
        rw [e0, e1, e2]
        simp only [if_true]
        by_cases h2 : c + 1 ≤ 2 * r
        · rw [igt_pos (by omega), bif_true, bnd_some, e3 _ (by omega) (by omega), Clamp_eq, bnd_some, if_pos h2]
        · rw [igt_neg (by omega), bif_false, bnd_some, e3 _ (by omega) (by omega), Clamp_eq, bnd_some, if_neg h2]
      | false =>
        rw [bif_false]
        unfold fix_MulDiv.c5
        dsimp only
        rw [e0, e1, e2]
        simp only [Bool.false_eq_true, if_false]
        by_cases h2 : c ≤ 2 * r
        · rw [ige_pos (by omega), bif_true, bnd_some, Clamp_eq, bnd_some, if_pos h2]
        · rw [ige_neg (by omega), bif_false, bnd_some, Clamp_eq, bnd_some, if_neg h2]

theorem Mul_eq {k : Nat} (hk : 2 ≤ k) {a b : Int} (ha : -1099511627776 ≤ a ∧ a ≤ 1099511627776) (hb : -1099511627776 ≤ b ∧ b ≤ 1099511627776) : fix_Mul k a b = some (CM (rnd (a * b) 65536)) := by
  unfold fix_Mul
  rw [MulDiv_pos hk ha hb (by decide) (by decide), bnd_some]
theorem FAdd_eq (k : Nat) {a b : Int} (ha : -1099511627776 ≤ a ∧ a ≤ 1099511627776) (hb : -1099511627776 ≤ b ∧ b ≤ 1099511627776) : fix_Add k a b = some (CM (a + b)) := by
  unfold fix_Add
  rw [Clamp_eq, bnd_some, CM_in ha.1 ha.2, Clamp_eq, bnd_some, CM_in hb.1 hb.2, iadd_i64 (by omega) (by omega), Clamp_eq, bnd_some]
theorem FSub_eq (k : Nat) {a b : Int} (ha : -1099511627776 ≤ a ∧ a ≤ 1099511627776) (hb : -1099511627776 ≤ b ∧ b ≤ 1099511627776) : fix_Sub k a b = some (CM (a - b)) := by
  unfold fix_Sub
  rw [Clamp_eq, bnd_some, CM_in ha.1 ha.2, Clamp_eq, bnd_some, CM_in hb.1 hb.2, isub_i64 (by omega) (by omega), Clamp_eq, bnd_some]
theorem Over_eq {k : Nat} (hk : 2 ≤ k) {a n : Int} (ha : -1099511627776 ≤ a ∧ a ≤ 1099511627776) (hn : 0 < n) (hn' : n ≤ 1099511627776) : body_over k a n = some (CM (rnd (a * 65536) n)) := by
  unfold body_over fix_Div
  rw [ieq_neg (by omega), bif_false, MulDiv_pos hk ha (by decide) hn hn', bnd_some, bnd_some]
end Go.Proofs.T1
namespace Go.Proofs.T1
open Go Go.Sx

/-! Polygons of bodies -/
def EdgeT (l : List V24) : Prop := ∀ i j, 0 ≤ i → i < len l → 0 ≤ j → j < len l → j ≠ i → j ≠ nx (len l) i → 1073741824 ≤ tri (q l i) (q l (nx (len l) i)) (q l j)
def Solid (l : List V24) : Prop := Made l ∧ EdgeT l ∧ InP l Z24
def edgeTB (l : List V24) : Bool := (List.range l.length).all fun i => (List.range l.length).all fun j =>
  Nat.beq j i || (Nat.beq j (if i + 1 = l.length then 0 else i + 1) || decide (1073741824 ≤ tri (l.getD i Z24) (l.getD (if i + 1 = l.length then 0 else i + 1) Z24) (l.getD j Z24)))
theorem nx_nat {l : List V24} (i : Nat) : nx (len l) (i : Int) = ((if i + 1 = l.length then 0 else i + 1 : Nat) : Int) := by
  unfold nx len
  split <;> split <;> omega
theorem edgeTB_ok {l : List V24} (h : edgeTB l = true) : EdgeT l := by
  intro i j h0 h1 h2 h3 h4 h5
  obtain ⟨i, rfl⟩ := Int.eq_ofNat_of_zero_le h0
  obtain ⟨j, rfl⟩ := Int.eq_ofNat_of_zero_le h2
  have hi : i < l.length := by unfold len at h1; omega
  have hj : j < l.length := by unfold len at h3; omega
  have h6 := List.all_eq_true.1 (List.all_eq_true.1 h i (List.mem_range.2 hi)) j (List.mem_range.2 hj)
  simp only [Bool.or_eq_true, decide_eq_true_eq] at h6
  rcases h6 with h6 | h6 | h6
  · exact absurd (congrArg Int.ofNat (Nat.eq_of_beq_eq_true h6)) h4
  · rw [nx_nat] at h5
    exact absurd (congrArg Int.ofNat (Nat.eq_of_beq_eq_true h6)) h5
  · rw [nx_nat]
    exact h6
def inB (l : List V24) : Bool := (List.range l.length).all fun i => decide (0 ≤ tri (l.getD i Z24) (l.getD (if i + 1 = l.length then 0 else i + 1) Z24) Z24)
theorem inB_ok {l : List V24} (h : inB l = true) : InP l Z24 := by
  intro i h0 h1
  obtain ⟨i, rfl⟩ := Int.eq_ofNat_of_zero_le h0
  have hi : i < l.length := by unfold len at h1; omega
  have h6 := List.all_eq_true.1 h i (List.mem_range.2 hi)
  simp only [decide_eq_true_eq] at h6
  rw [nx_nat]
  exact h6
def solidB (l : List V24) : Bool := madeB l && (edgeTB l && inB l)
theorem solidB_ok {l : List V24} (h : solidB l = true) : Solid l := by
  simp only [solidB, Bool.and_eq_true] at h
  exact ⟨madeB_ok h.1, edgeTB_ok h.2.1, inB_ok h.2.2⟩
theorem solid_table : (List.range 4).all (fun a => (List.range 4).all fun b => solidB (made0 ((a + 1) * 65536) ((b + 1) * 65536)) && (solidB (made2 ((a + 1) * 65536) ((b + 1) * 65536)) && solidB (made3 ((a + 1) * 65536) ((b + 1) * 65536)))) = true := by decide +kernel

theorem solid_tri {W H x : Int} (hW0 : 65536 ≤ W) (hW1 : W ≤ 262144) (hH0 : 65536 ≤ H) (hH1 : H ≤ 262144) (h0 : -W ≤ x) (h1 : x < W) : Solid [(-W, -H, ()), (W, -H, ()), (x, H, ())] := by
  have hWH : (65536 : Int) * 65536 ≤ W * H := Int.mul_le_mul hW0 hH0 (by decide) (by omega)
  have e012 : tri (-W, -H, ()) (W, -H, ()) (x, H, ()) = 4 * (W * H) := by unfold tri; dsimp only; grind
  have hm : Made [(-W, -H, ()), (W, -H, ()), (x, H, ())] := by
    refine ⟨by show (3 : Int) ≤ 3; decide, by show (3 : Int) ≤ 5; decide, ?_, EdgeP_three (by rw [e012]; omega)⟩
    apply allB_ok
    simp only [allB, List.all_cons, List.all_nil, Bool.and_true, Bool.and_eq_true, decide_eq_true_eq]
    omega
  have ha : 0 ≤ H * (x + W) := Int.mul_nonneg (by omega) (by omega)
  have hb : 0 ≤ H * (W - x) := Int.mul_nonneg (by omega) (by omega)
  refine ⟨hm, ?_, ?_⟩
  · generalize hl : [(-W, -H, ()), (W, -H, ()), (x, H, ())] = l at *
    have hlen : len l = 3 := by rw [← hl]; rfl
    intro i j i0 i1 j0 j1 hji hjn
    have q0 : q l 0 = (-W, -H, ()) := by rw [← hl]; rfl
    have q1 : q l 1 = (W, -H, ()) := by rw [← hl]; rfl
    have q2 : q l 2 = (x, H, ()) := by rw [← hl]; rfl
    rw [hlen] at *
    have hi : i = 0 ∨ i = 1 ∨ i = 2 := by omega
    rcases hi with h | h | h <;> subst h
    · rw [show nx 3 0 = 1 from rfl] at *
      have : j = 2 := by omega
      subst this
      rw [q0, q1, q2, e012]
      omega
    · rw [show nx 3 1 = 2 from rfl] at *
      have : j = 0 := by omega
      subst this
      rw [q0, q1, q2, ← tri_cyc, e012]
      omega
    · rw [show nx 3 2 = 0 from rfl] at *
      have : j = 1 := by omega
      subst this
      rw [q0, q1, q2, tri_cyc, e012]
      omega
  · generalize hl : [(-W, -H, ()), (W, -H, ()), (x, H, ())] = l at *
    have hlen : len l = 3 := by rw [← hl]; rfl
    intro i i0 i1
    have q0 : q l 0 = (-W, -H, ()) := by rw [← hl]; rfl
    have q1 : q l 1 = (W, -H, ()) := by rw [← hl]; rfl
    have q2 : q l 2 = (x, H, ()) := by rw [← hl]; rfl
    rw [hlen] at *
    have hi : i = 0 ∨ i = 1 ∨ i = 2 := by omega
    rcases hi with h | h | h <;> subst h
    · rw [show nx 3 0 = 1 from rfl, q0, q1]
      have e : tri (-W, -H, ()) (W, -H, ()) Z24 = 2 * (W * H) := by unfold tri; dsimp only; grind
      rw [e]
      omega
    · rw [show nx 3 1 = 2 from rfl, q1, q2]
      have e : tri (W, -H, ()) (x, H, ()) Z24 = H * (x + W) := by unfold tri; dsimp only; grind
      rw [e]
      exact ha
    · rw [show nx 3 2 = 0 from rfl, q2, q0]
      have e : tri (x, H, ()) (-W, -H, ()) Z24 = H * (W - x) := by unfold tri; dsimp only; grind
      rw [e]
      exact hb

theorem Poly_solid (k : Nat) (raw : List Int) : ∃ l, tourmake_Poly k raw = some l ∧ Solid l := by
  obtain ⟨l, a, b, e, ha, hb, h⟩ := Poly_kind k raw
  refine ⟨l, e, ?_⟩
  have T := List.all_eq_true.1 (List.all_eq_true.1 solid_table a (List.mem_range.2 ha)) b (List.mem_range.2 hb)
  simp only [Bool.and_eq_true] at T
  rcases h with h | h | h | ⟨x, h0, h1, h⟩
  · rw [h]; exact solidB_ok T.1
  · rw [h]; exact solidB_ok T.2.1
  · rw [h]; exact solidB_ok T.2.2
  · rw [h]; exact solid_tri (by omega) (by omega) (by omega) (by omega) h0 h1

/-! The check of a body's shape -/
theorem size_eq (k : Nat) {v : V24} {M : Int} (hM : M ≤ 1000000000) (h : -M ≤ v.1 ∧ v.1 ≤ M ∧ -M ≤ v.2.1 ∧ v.2.1 ≤ M) : ∃ s, body_size k v = some s ∧ 0 ≤ s ∧ s ≤ 2 * M := by
  have n1 : ineg .i64 v.1 = -v.1 := by unfold ineg; rw [wrap_i64 (by omega) (by omega)]; omega
  have n2 : ineg .i64 v.2.1 = -v.2.1 := by unfold ineg; rw [wrap_i64 (by omega) (by omega)]; omega
  have a1 : 0 ≤ imax v.1 (-v.1) ∧ imax v.1 (-v.1) ≤ M := by unfold imax; split <;> omega
  have a2 : 0 ≤ imax v.2.1 (-v.2.1) ∧ imax v.2.1 (-v.2.1) ≤ M := by unfold imax; split <;> omega
  unfold body_size
  rw [n1, n2, iadd_i64 (by omega) (by omega)]
  exact ⟨_, rfl, by omega, by omega⟩

theorem fat_c3 (k : Nat) {l : List V24} (hm : Made l) (ht : EdgeT l) {i j : Int} (i0 : 0 ≤ i) (i1 : i < len l) (j0 : 0 ≤ j) (j1 : j < len l) : body_fat.c3 k l i j = some false := by
  have h5 := hm.2.1
  have hn := nx_range i0 i1
  have hi := hm.2.2.1 i i0 i1
  have hj := hm.2.2.1 j j0 j1
  have hx := hm.2.2.1 _ hn.1 hn.2
  unfold body_fat.c3
  by_cases a : j = i
  · rw [ine_neg a, bif_false]
  rw [ine_pos a, bif_true, req_pos (show nz (len l) by unfold nz; omega), irem_nx i0 i1 (by omega)]
  by_cases b : j = nx (len l) i
  · rw [ine_neg b, bif_false]
  rw [ine_pos b, bif_true]
  have hT := ht i j i0 i1 j0 j1 a b
  have hq1 : el Z24 l i = q l i := rfl
  have hq2 : el Z24 l (nx (len l) i) = q l (nx (len l) i) := rfl
  have hq3 : el Z24 l j = q l j := rfl
  rw [hq1, hq2, hq3]
  have s1 : isub .i64 (q l (nx (len l) i)).1 (q l i).1 = (q l (nx (len l) i)).1 - (q l i).1 := isub_i64 (by omega) (by omega)
  have s2 : isub .i64 (q l (nx (len l) i)).2.1 (q l i).2.1 = (q l (nx (len l) i)).2.1 - (q l i).2.1 := isub_i64 (by omega) (by omega)
  have s3 : isub .i64 (q l j).1 (q l i).1 = (q l j).1 - (q l i).1 := isub_i64 (by omega) (by omega)
  have s4 : isub .i64 (q l j).2.1 (q l i).2.1 = (q l j).2.1 - (q l i).2.1 := isub_i64 (by omega) (by omega)
  rw [s1, s2, s3, s4]
  obtain ⟨u, e1, u0, u1⟩ := size_eq k (v := ((q l (nx (len l) i)).1 - (q l i).1, (q l (nx (len l) i)).2.1 - (q l i).2.1, ())) (M := 524288) (by decide) (by dsimp only; omega)
  obtain ⟨w, e2, w0, w1⟩ := size_eq k (v := ((q l j).1 - (q l i).1, (q l j).2.1 - (q l i).2.1, ())) (M := 524288) (by decide) (by dsimp only; omega)
  have p1 := mul_bd (x := (q l (nx (len l) i)).1 - (q l i).1) (y := (q l j).2.1 - (q l i).2.1) (M := 524288) (N := 524288) (by omega) (by omega) (by omega) (by omega)
  have p2 := mul_bd (x := (q l (nx (len l) i)).2.1 - (q l i).2.1) (y := (q l j).1 - (q l i).1) (M := 524288) (N := 524288) (by omega) (by omega) (by omega) (by omega)
  rw [e1, bnd_some, e2, bnd_some, imul_i64 (x := (q l (nx (len l) i)).1 - (q l i).1) (by omega) (by omega), imul_i64 (x := (q l (nx (len l) i)).2.1 - (q l i).2.1) (by omega) (by omega), isub_i64 (by omega) (by omega), iadd_i64 (by omega) (by omega), imul_i64 (by omega) (by omega)]
  have : tri (q l i) (q l (nx (len l) i)) (q l j) = ((q l (nx (len l) i)).1 - (q l i).1) * ((q l j).2.1 - (q l i).2.1) - ((q l (nx (len l) i)).2.1 - (q l i).2.1) * ((q l j).1 - (q l i).1) := rfl
  rw [ilt_neg (by omega)]

theorem fat_eq {k : Nat} (hk : 9 ≤ k) {l : List V24} (hm : Made l) (ht : EdgeT l) : body_fat k l = some true := by
  have h5 := hm.2.1
  have h3 := hm.1
  have c2 : ∀ i, 0 ≤ i → i < len l → body_fat.c2 k l i k 0 = some (.inr ()) := by
    intro i i0 i1
    have H := find_loop (fun n v => body_fat.c2 k l i n v) 0 (len l) (fun _ => False) (fun _ => ())
      (by intro n v _ _ h; exact h.elim)
      (by
        intro n v a b _
        show body_fat.c2 k l i (n + 1) v = body_fat.c2 k l i n (v + 1)
        rw [body_fat.c2, ilt_pos b, bif_true, req_pos (inL_of a b), fat_c3 k hm ht i0 i1 a b, bnd_some, bif_false, iadd_i64 (by omega) (by omega)])
      (by
        intro n v a b
        show body_fat.c2 k l i (n + 1) v = _
        rw [body_fat.c2, ilt_neg b, bif_false])
      k 0 (by omega) (by omega)
    rcases H with ⟨_, _, _, h, _⟩ | ⟨_, h⟩
    · exact h.elim
    · exact h (by omega)
  have H := find_loop (fun n v => body_fat.c1 k l n v) 0 (len l) (fun _ => False) (fun _ => ())
    (by intro n v _ _ h; exact h.elim)
    (by
      intro n v a b _
      show body_fat.c1 k l (n + 1) v = body_fat.c1 k l n (v + 1)
      have hn := nx_range a b
      rw [body_fat.c1, ilt_pos b, bif_true, req_pos (inL_of a b), req_pos (show nz (len l) by unfold nz; omega), irem_nx a b (by omega), req_pos (inL_of hn.1 hn.2), c2 v a b, bnd_some, two_inr, iadd_i64 (by omega) (by omega)])
    (by
      intro n v a b
      show body_fat.c1 k l (n + 1) v = _
      rw [body_fat.c1, ilt_neg b, bif_false])
    k 0 (by omega) (by omega)
  unfold body_fat
  rcases H with ⟨_, _, _, h, _⟩ | ⟨_, h⟩
  · exact h.elim
  · have h : body_fat.c1 k l k 0 = some (.inr ()) := h (by omega)
    rw [h, bnd_some, two_inr]

theorem bwithin_eq (k : Nat) (a : V24) {m : Int} (h0 : 0 ≤ m) (h1 : m ≤ 9223372036854775807) : body_within k a m = some (decide (-m ≤ a.1 ∧ a.1 ≤ m ∧ -m ≤ a.2.1 ∧ a.2.1 ≤ m)) := coord_eq k a m h0 h1

open Classical in
theorem shape_eq {k : Nat} (hk : 9 ≤ k) {l : List V24} (h : Solid l) : body_shape k l = some 0 := by
  have hv := Made_val h.1
  have h5 := h.1.2.1
  have hf : ∀ x : V24, (fun x : (V24 × Unit) => body_shape_1 k (x.1)) (x, ()) = some (!decide (-2097152 ≤ x.1 ∧ x.1 ≤ 2097152 ∧ -2097152 ≤ x.2.1 ∧ x.2.1 ≤ 2097152)) := by
    intro x
    show body_shape_1 k x = _
    unfold body_shape_1
    rw [bwithin_eq k x (by decide) (by decide), bnd_some]
  have hcont := Contains_no (l := l) (k := k) (f := fun x : (V24 × Unit) => body_shape_1 k (x.1)) (by omega) (by omega) (g := fun x => !decide (-2097152 ≤ x.1 ∧ x.1 ≤ 2097152 ∧ -2097152 ≤ x.2.1 ∧ x.2.1 ≤ 2097152)) hf
  have hcf : slices_ContainsFunc k l (fun x : (V24 × Unit) => body_shape_1 k (x.1)) = some false := by
    rcases hcont with ⟨_, i, i0, i1, i2⟩ | ⟨g, _⟩
    · have := Made_R h.1 i i0 i1
      simp [this] at i2
    · exact g
  have hhas : poly_Has k l (0, 0, ()) = some true := by
    rw [Has_val hk hv]
    congr 1
    exact decide_eq_true ⟨by decide, h.2.2⟩
  unfold body_shape body_shape.c1
  rw [Check_val hk hv, bnd_some, ine_neg rfl, bif_false, hcf, bnd_some, bif_false, fat_eq hk h.1 h.2.1, bnd_some, bif_true, hhas, bnd_some, bnd_some]
  rfl

/-! The check of a body -/
theorem chk1 (k : Nat) {n a b : Int} (h : a ≤ n ∧ n ≤ b) : body_Check_1 k n a b = some true := by
  unfold body_Check_1
  rw [ige_pos (by omega), bif_true, ile_pos h.2]

theorem bodyCheck_ok {k : Nat} (hk : 9 ≤ k) {l : List V24} (h : Solid l) {p v : V24} {ang spin mass inertia bounce rub calm : Int} {asleep : Bool}
    (hp : -58982400 ≤ p.1 ∧ p.1 ≤ 58982400 ∧ -58982400 ≤ p.2.1 ∧ p.2.1 ≤ 58982400) (hvv : -268435456 ≤ v.1 ∧ v.1 ≤ 268435456 ∧ -268435456 ≤ v.2.1 ∧ v.2.1 ≤ 268435456) (hs : -16777216 ≤ spin ∧ spin ≤ 16777216)
    (ha : 0 ≤ ang ∧ ang ≤ 65535) (hm : 0 ≤ mass ∧ mass ≤ 1099511627776) (hi : 0 ≤ inertia ∧ inertia ≤ 1099511627776) (hb : 0 ≤ bounce ∧ bounce ≤ 65536) (hr : 0 ≤ rub ∧ rub ≤ 65536) (hc : 0 ≤ calm ∧ calm ≤ 1000)
    (hmi : mass = 0 ↔ inertia = 0) (h0 : mass = 0 → v = (0, 0, ()) ∧ spin = 0 ∧ asleep = false ∧ calm = 0) (h1 : asleep = true → v = (0, 0, ()) ∧ spin = 0) :
    body_Check k (p, v, ang, spin, mass, inertia, bounce, rub, l, asleep, calm, ()) = some 0 := by
  have e1 : body_Check.c1 k (p, v, ang, spin, mass, inertia, bounce, rub, l, asleep, calm, ()) = some false := by
    unfold body_Check.c1
    dsimp only
    rw [bwithin_eq k p (by decide) (by decide), bnd_some, decide_eq_true (by omega), bif_true, bwithin_eq k v (by decide) (by decide), bnd_some, decide_eq_true (by omega), bif_true, chk1 k (by omega), bnd_some, bif_true, chk1 k (by omega), bnd_some]
    rfl
  have e2 : body_Check.c2 k (p, v, ang, spin, mass, inertia, bounce, rub, l, asleep, calm, ()) = some false := by
    unfold body_Check.c2
    dsimp only
    rw [chk1 k (by omega), bnd_some, bif_true, chk1 k (by omega), bnd_some, bif_true, chk1 k (by omega), bnd_some, bif_true, chk1 k (by omega), bnd_some, bif_true, chk1 k (by omega), bnd_some]
    rfl
  have e3 : body_Check.c3 k (p, v, ang, spin, mass, inertia, bounce, rub, l, asleep, calm, ()) = some (decide (v = (0, 0, ()) ∧ spin = 0)) := by
    unfold body_Check.c3
    dsimp only
    have hq := eqb24 v (0, 0, ())
    refine (congrArg (fun b => bif' b (some (ieq spin 0)) (some false)) hq).trans ?_
    by_cases a : v = (0, 0, ())
    · rw [decide_eq_true a, bif_true]
      unfold ieq
      congr 1
      rw [decide_eq_decide]
      exact ⟨fun h => ⟨a, h⟩, fun h => h.2⟩
    · rw [decide_eq_false a, bif_false, decide_eq_false (fun h => a h.1)]
  have e4 : ∀ st : Bool, st = decide (v = (0, 0, ()) ∧ spin = 0) → body_Check.c4 k (p, v, ang, spin, mass, inertia, bounce, rub, l, asleep, calm, ()) st = some false := by
    intro st hst
    unfold body_Check.c4
    dsimp only
    have hq : Ty.eqb T4 (ieq mass (0 : Int)) (ieq inertia (0 : Int)) = true := by
      show (ieq mass 0 == ieq inertia 0) = true
      unfold ieq
      rw [decide_eq_decide.2 hmi]
      exact beq_self_eq_true _
    refine (congrArg (fun b => bif' b _ (some true)) hq).trans ?_
    rw [bif_true]
    by_cases a : mass = 0
    · obtain ⟨b1, b2, b3, b4⟩ := h0 a
      rw [ieq_pos a, bif_true, hst, decide_eq_true ⟨b1, b2⟩, bif_true, b3, bif_false, ine_neg b4, bif_false]
    · rw [ieq_neg a, bif_false]
      cases asleep with
      | false => rw [bif_false]
      | true => rw [bif_true, hst, decide_eq_true (h1 rfl)]; rfl
  unfold body_Check
  dsimp only
  rw [shape_eq hk h, bnd_some, ine_neg rfl, bif_false, e1, bnd_some, bif_false, e2, bnd_some, bif_false, e3, bnd_some, e4 _ rfl, bnd_some, bif_false]
end Go.Proofs.T1
namespace Go.Proofs.T1
open Go Go.Sx

theorem bnd_eq {α β : Type} {x : Option α} {f : α → Option β} {y : β} (h : bnd x f = some y) : ∃ z, x = some z ∧ f z = some y := by
  cases x with
  | none => cases h
  | some z => exact ⟨z, rfl, h⟩

theorem half_eq {y c : Int} (h0 : 0 ≤ y) (h1 : y ≤ 1000) (c0 : 0 ≤ c) (c1 : c ≤ 1000) : iquo .i64 (imul .i64 (isub .i64 y c) 65536) 2 = (y - c) * 32768 := by
  rw [isub_i64 (by omega) (by omega), imul_i64 (by omega) (by omega)]
  unfold iquo
  have e : (y - c) * 65536 = (y - c) * 32768 * 2 := by omega
  rw [e, Int.mul_tdiv_cancel _ (by decide), wrap_i64 (by omega) (by omega)]

/-- A body that is made. -/
structure BMade (p v : V24) (ang spin mass inertia bounce rub : Int) (l : List V24) : Prop where
  hl : Solid l
  hp : -655360 ≤ p.1 ∧ p.1 ≤ 655360 ∧ -655360 ≤ p.2.1 ∧ p.2.1 ≤ 655360
  hv : -327680 ≤ v.1 ∧ v.1 ≤ 327680 ∧ -327680 ≤ v.2.1 ∧ v.2.1 ≤ 327680
  hang : 0 ≤ ang ∧ ang ≤ 65535
  hspin : -32768 ≤ spin ∧ spin ≤ 32767
  hbounce : 0 ≤ bounce ∧ bounce ≤ 65536
  hrub : 0 ≤ rub ∧ rub ≤ 65536
  hw : (mass = 0 ∧ inertia = 0 ∧ v = (0, 0, ()) ∧ spin = 0) ∨ (65536 ≤ mass ∧ mass ≤ 524288 ∧ 65536 ≤ inertia ∧ inertia ≤ 1966080)

theorem Body_made (k : Nat) (raw : List Int) : ∃ p v ang spin mass inertia bounce rub l, tourmake_Body k raw = some (p, v, ang, spin, mass, inertia, bounce, rub, l, false, 0, ()) ∧ BMade p v ang spin mass inertia bounce rub l := by
  obtain ⟨l, e1, hs⟩ := Poly_solid k raw
  unfold tourmake_Poly at e1
  obtain ⟨⟨s0, l'⟩, e0, e2⟩ := bnd_eq e1
  obtain rfl : l' = l := Option.some.inj e2
  obtain ⟨s1, y3, f3, a3, b3⟩ := Next_eq k s0 (n := 41) (by decide) (by decide)
  obtain ⟨s2, y5, f5, a5, b5⟩ := Next_eq k s1 (n := 41) (by decide) (by decide)
  obtain ⟨s3, y7, f7, a7, b7⟩ := Next_eq k s2 (n := 65536) (by decide) (by decide)
  obtain ⟨s4, y9, f9, a9, b9⟩ := Next_eq k s3 (n := 3) (by decide) (by decide)
  obtain ⟨s5, y14, f14, a14, b14⟩ := Next_eq k s4 (n := 65537) (by decide) (by decide)
  obtain ⟨s6, y16, f16, a16, b16⟩ := Next_eq k s5 (n := 65537) (by decide) (by decide)
  obtain ⟨s7, y18, f18, a18, b18⟩ := Next_eq k s6 (n := 4) (by decide) (by decide)
  have hc1 : ∃ ang, tourmake_body.c1 k (s3, y7) (s4, y9) = some ang ∧ 0 ≤ ang ∧ ang ≤ 65535 := by
    unfold tourmake_body.c1
    by_cases h : y9 = 0
    · rw [ieq_pos h, bif_true]
      exact ⟨0, rfl, by decide, by decide⟩
    · rw [ieq_neg h, bif_false]
      exact ⟨y7, rfl, a7, by omega⟩
  obtain ⟨ang, f12, g0, g1⟩ := hc1
  unfold tourmake_Body tourmake_body
  rw [e0, bnd_some]
  dsimp only
  rw [f3, bnd_some]
  dsimp only
  rw [f5, bnd_some]
  dsimp only
  rw [f7, bnd_some]
  dsimp only
  rw [f9, bnd_some, f12, bnd_some]
  dsimp only
  rw [f14, bnd_some]
  dsimp only
  rw [f16, bnd_some]
  dsimp only
  rw [f18, bnd_some]
  dsimp only
  rw [half_eq a3 (by omega) (by decide) (by decide), half_eq a5 (by omega) (by decide) (by decide)]
  by_cases h : y18 = 0
  · rw [ieq_pos h, bif_true, bnd_some]
    exact ⟨_, _, _, _, _, _, _, _, _, rfl, ⟨hs, by dsimp only; omega, by dsimp only; omega, ⟨g0, g1⟩, by decide, ⟨a14, by omega⟩, ⟨a16, by omega⟩, Or.inl ⟨rfl, rfl, rfl, rfl⟩⟩⟩
  · rw [ieq_neg h, bif_false]
    obtain ⟨s8, y21, f21, a21, b21⟩ := Next_eq k s7 (n := 21) (by decide) (by decide)
    obtain ⟨s9, y23, f23, a23, b23⟩ := Next_eq k s8 (n := 21) (by decide) (by decide)
    obtain ⟨s10, y25, f25, a25, b25⟩ := Next_eq k s9 (n := 65536) (by decide) (by decide)
    obtain ⟨s11, y27, f27, a27, b27⟩ := Next_eq k s10 (n := 8) (by decide) (by decide)
    obtain ⟨s12, y29, f29, a29, b29⟩ := Next_eq k s11 (n := 30) (by decide) (by decide)
    rw [f21, bnd_some]
    dsimp only
    rw [f23, bnd_some]
    dsimp only
    rw [f25, bnd_some]
    dsimp only
    rw [f27, bnd_some]
    dsimp only
    rw [f29, bnd_some, bnd_some]
    dsimp only
    rw [half_eq a21 (by omega) (by decide) (by decide), half_eq a23 (by omega) (by decide) (by decide)]
    have m1 : imul .i64 (iadd .i64 1 y27) 65536 = (1 + y27) * 65536 := by rw [iadd_i64 (by omega) (by omega), imul_i64 (by omega) (by omega)]
    have m2 : imul .i64 (iadd .i64 1 y29) 65536 = (1 + y29) * 65536 := by rw [iadd_i64 (by omega) (by omega), imul_i64 (by omega) (by omega)]
    rw [m1, m2, isub_i64 (by omega) (by omega)]
    exact ⟨_, _, _, _, _, _, _, _, _, rfl, ⟨hs, by dsimp only; omega, by dsimp only; omega, ⟨g0, g1⟩, by omega, ⟨a14, by omega⟩, ⟨a16, by omega⟩, Or.inr ⟨by omega, by omega, by omega, by omega⟩⟩⟩

section
variable {p v : V24} {ang spin mass inertia bounce rub : Int} {l : List V24}

theorem BMade.check {k : Nat} (hk : 9 ≤ k) (h : BMade p v ang spin mass inertia bounce rub l) : body_Check k (p, v, ang, spin, mass, inertia, bounce, rub, l, false, 0, ()) = some 0 := by
  have h1 := h.hp
  have h2 := h.hv
  have h3 := h.hspin
  have h4 := h.hw
  refine bodyCheck_ok hk h.hl (by omega) (by omega) (by omega) h.hang (by omega) (by omega) h.hbounce h.hrub (by decide) ?_ ?_ (fun h => by cases h)
  · omega
  · intro hm
    rcases h4 with h4 | h4
    · exact ⟨h4.2.2.1, h4.2.2.2, rfl, rfl⟩
    · omega

theorem own_eq {k : Nat} (hl : Solid l) (v' : V24) (spin' : Int) (a : Bool) (c : Int) : body_own k (p, v', ang, spin', mass, inertia, bounce, rub, l, a, c, ()) = some (p, v', ang, spin', mass, inertia, bounce, rub, l, a, c, ()) := by
  have h5 := hl.1.2.1
  have hr : room0 16 l := by
    show (0 + l.length) * 16 ≤ 140737488355328
    unfold len at h5
    omega
  unfold body_own slices_Clone
  rw [req_pos hr, bnd_some]

theorem eqb4_self (b : Bool) : Ty.eqb T4 b b = true := beq_self_eq_true b
theorem same_self {k : Nat} (hk : 9 ≤ k) {b : V77} (hl : len b.2.2.2.2.2.2.2.2.1 ≤ 8) : tourkeep2_same k b b = some true := by
  unfold tourkeep2_same
  rw [Equal_self hk hl, bnd_some, bif_true]
  refine (congrArg (fun x => bif' x _ _) (eqb24_self _)).trans ?_
  rw [bif_true]
  refine (congrArg (fun x => bif' x _ _) (eqb24_self _)).trans ?_
  rw [bif_true, ieq_pos rfl, bif_true, ieq_pos rfl, bif_true, ieq_pos rfl, bif_true, ieq_pos rfl, bif_true, ieq_pos rfl, bif_true, ieq_pos rfl, bif_true]
  refine (congrArg (fun x => bif' x _ _) (eqb4_self _)).trans ?_
  rw [bif_true, ieq_pos rfl]

theorem clamp_in (k : Nat) {x m : Int} (h0 : -m ≤ x) (h1 : x ≤ m) (hm : m ≤ 1099511627776) : body_clamp k x m = some x := by
  have n1 : ineg .i64 m = -m := by unfold ineg; rw [wrap_i64 (by omega) (by omega)]; omega
  unfold body_clamp imin imax
  rw [n1]
  congr 1
  split <;> split <;> omega

theorem Move_still {k : Nat} (hl : Solid l) {a : Bool} (c : Int) (step : Int) (hc : body_Check k (p, v, ang, spin, mass, inertia, bounce, rub, l, a, c, ()) = some 0) (h : mass = 0 ∨ a = true) :
    body_Move k (p, v, ang, spin, mass, inertia, bounce, rub, l, a, c, ()) step = some (p, v, ang, spin, mass, inertia, bounce, rub, l, a, c, ()) := by
  have c1 : body_Move.c1 k step (p, v, ang, spin, mass, inertia, bounce, rub, l, a, c, ()) = some true := by
    unfold body_Move.c1
    rw [hc, bnd_some, ine_neg rfl, bif_false]
    dsimp only
    by_cases hm : mass = 0
    · rw [ieq_pos hm, bif_true]
    · rw [ieq_neg hm, bif_false]
      rcases h with h | h
      · exact absurd h hm
      · rw [h, bif_true]
  unfold body_Move
  rw [own_eq hl, bnd_some, c1, bnd_some, bif_true]
theorem Push_still {k : Nat} (hl : Solid l) {a : Bool} (c : Int) (j r : V24) (hc : body_Check k (p, v, ang, spin, mass, inertia, bounce, rub, l, a, c, ()) = some 0) (h : mass = 0 ∨ a = true) :
    body_Push k (p, v, ang, spin, mass, inertia, bounce, rub, l, a, c, ()) j r = some (p, v, ang, spin, mass, inertia, bounce, rub, l, a, c, ()) := by
  have c1 : body_Push.c1 k (p, v, ang, spin, mass, inertia, bounce, rub, l, a, c, ()) = some true := by
    unfold body_Push.c1
    rw [hc, bnd_some, ine_neg rfl, bif_false]
    dsimp only
    by_cases hm : mass = 0
    · rw [ieq_pos hm, bif_true]
    · rw [ieq_neg hm, bif_false]
      rcases h with h | h
      · exact absurd h hm
      · rw [h]
  unfold body_Push
  rw [own_eq hl, bnd_some, c1, bnd_some, bif_true]

theorem Mul_zero {k : Nat} (hk : 2 ≤ k) {x : Int} (h0 : -1099511627776 ≤ x) (h1 : x ≤ 1099511627776) : fix_Mul k x 0 = some 0 := by
  rw [Mul_eq hk ⟨h0, h1⟩ (by decide), Int.mul_zero]
  rfl

theorem Move_zero {k : Nat} (hk : 9 ≤ k) (h : BMade p v ang spin mass inertia bounce rub l) : body_Move k (p, v, ang, spin, mass, inertia, bounce, rub, l, false, 0, ()) 0 = some (p, v, ang, spin, mass, inertia, bounce, rub, l, false, 0, ()) := by
  have hc := h.check hk
  by_cases hm : mass = 0
  · exact Move_still h.hl 0 0 hc (Or.inl hm)
  have h1 := h.hp
  have h2 := h.hv
  have h3 := h.hspin
  have h4 := h.hang
  have c1 : body_Move.c1 k 0 (p, v, ang, spin, mass, inertia, bounce, rub, l, false, 0, ()) = some false := by
    unfold body_Move.c1
    rw [hc, bnd_some, ine_neg rfl, bif_false]
    dsimp only
    rw [ieq_neg hm, bif_false, bif_false, ilt_neg (by decide), bif_false]
    rfl
  unfold body_Move
  rw [own_eq h.hl, bnd_some, c1, bnd_some, bif_false]
  dsimp only
  rw [Mul_zero (by omega) (by omega) (by omega), bnd_some, iadd_i64 (by omega) (by omega), clamp_in k (by omega) (by omega) (by decide), bnd_some, Mul_zero (by omega) (by omega) (by omega), bnd_some, iadd_i64 (by omega) (by omega), clamp_in k (by omega) (by omega) (by decide), bnd_some, Mul_zero (by omega) (by omega) (by omega), bnd_some]
  have e1 : irem (iadd .i64 (irem (iadd .i64 ang 0) 65536) 65536) 65536 = ang := by
    rw [iadd_i64 (x := ang) (by omega) (by omega)]
    unfold irem
    have i1 : (ang + 0).tmod 65536 = ang := by rw [Int.tmod_eq_emod_of_nonneg (by omega)]; omega
    rw [i1, iadd_i64 (by omega) (by omega), Int.tmod_eq_emod_of_nonneg (by omega)]
    omega
  rw [e1, show p.1 + 0 = p.1 by omega, show p.2.1 + 0 = p.2.1 by omega]
end

theorem pushes_eq : tourkeep2_pushes 16 = some true := by kernel_rfl

theorem BodyStill_true (raw : List Int) (step : Int) (j r : V24) : tourkeep2_BodyStill 16 raw step j r = some true := by
  have hk : 9 ≤ 16 := by decide
  obtain ⟨p, v, ang, spin, mass, inertia, bounce, rub, l, e1, h⟩ := Body_made 16 raw
  have h5 := h.hl.1.2.1
  have hc1 : tourkeep2_BodyStill.c1 16 (p, v, ang, spin, mass, inertia, bounce, rub, l, false, 0, ()) = some false := by
    unfold tourkeep2_BodyStill.c1
    rw [pushes_eq, bnd_some, bif_true, Move_zero hk h, bnd_some, same_self hk (by dsimp only; omega), bnd_some]
    rfl
  unfold tourkeep2_BodyStill
  rw [e1, bnd_some, hc1, bnd_some, bif_false]
  have h1 := h.hp
  have h2 := h.hv
  have h3 := h.hspin
  have h4 := h.hw
  have key : ∃ v' spin' a, tourkeep2_BodyStill.c2 16 (p, v, ang, spin, mass, inertia, bounce, rub, l, false, 0, ()) = some (v', spin', a) ∧ (mass = 0 ∨ a = true) ∧ body_Check 16 (p, v', ang, spin', mass, inertia, bounce, rub, l, a, 0, ()) = some 0 := by
    unfold tourkeep2_BodyStill.c2
    dsimp only
    by_cases hm : 0 < mass
    · rw [igt_pos hm, bif_true]
      exact ⟨_, _, _, rfl, Or.inr rfl, bodyCheck_ok hk h.hl (by omega) (by decide) (by decide) h.hang (by omega) (by omega) h.hbounce h.hrub (by decide) (by omega) (fun h => by omega) (fun _ => ⟨rfl, rfl⟩)⟩
    · rw [igt_neg (by omega), bif_false]
      exact ⟨_, _, _, rfl, Or.inl (by omega), h.check hk⟩
  obtain ⟨v', spin', a, e2, h6, h7⟩ := key
  rw [e2, bnd_some]
  dsimp only
  rw [Move_still h.hl 0 step h7 h6, bnd_some, same_self hk (by dsimp only; omega), bnd_some, bif_true, Push_still h.hl 0 j r h7 h6, bnd_some, same_self hk (by dsimp only; omega), bnd_some]

theorem tourkeep2_BodyStill_plain (x : ((.pair T34 (.pair T3 (.pair T24 (.pair T24 .unit)))) : Ty).den) (_ : Ty.wf (.pair T34 (.pair T3 (.pair T24 (.pair T24 .unit)))) x) : ∃ k, (tourkeep2_BodyStill.sp k).f x = some true := ⟨16, BodyStill_true x.1 x.2.1 x.2.2.1 x.2.2.2.1⟩
end Go.Proofs.T1
