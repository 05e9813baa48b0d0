/-
  Plain laws: no program in sight.
-/
import Derived.Test.YtokhmieofiaidaaPlMass
namespace Go.Proofs.T1
open Go Go.Sx

theorem and1 {x : Int} (h0 : 0 ≤ x) (h1 : x ≤ 4294967295) : ibits .and .u32 x 1 = x % 2 := by
  obtain ⟨n, rfl⟩ := Int.eq_ofNat_of_zero_le h0
  simp only [ibits, wrap_u32]
  have e : ((BitVec.ofInt IntKind.u32.bits (n : Int)) &&& (BitVec.ofInt IntKind.u32.bits (1 : Int))).toNat = n % 2 ^ 1 := by
    show ((BitVec.ofInt 32 (n : Int)) &&& (BitVec.ofInt 32 ((1 : Nat) : Int))).toNat = _
    rw [BitVec.toNat_and]
    have e1 : (BitVec.ofInt 32 (n : Int)).toNat = n := by simp; omega
    have e2 : (BitVec.ofInt 32 ((1 : Nat) : Int)).toNat = 2 ^ 1 - 1 := by decide
    rw [e1, e2, Nat.and_two_pow_sub_one_eq_mod]
  rw [e]
  omega
theorem or1 {x b : Int} (h0 : 0 ≤ x) (h1 : x < 65536) (he : x % 2 = 0) (hb : b = 0 ∨ b = 1) : ibits .or .u32 x b = x + b := by
  obtain ⟨n, rfl⟩ := Int.eq_ofNat_of_zero_le h0
  obtain ⟨m, rfl⟩ : ∃ m, n = 2 * m := ⟨n / 2, by omega⟩
  obtain ⟨b, rfl⟩ : ∃ c : Nat, b = (c : Int) := ⟨b.toNat, by omega⟩
  simp only [ibits, wrap_u32]
  have e : ((BitVec.ofInt IntKind.u32.bits ((2 * m : Nat) : Int)) ||| (BitVec.ofInt IntKind.u32.bits (b : Int))).toNat = 2 * m + b := by
    show ((BitVec.ofInt 32 ((2 * m : Nat) : Int)) ||| (BitVec.ofInt 32 (b : Int))).toNat = _
    rw [BitVec.toNat_or]
    have e1 : (BitVec.ofInt 32 ((2 * m : Nat) : Int)).toNat = 2 * m := by simp; omega
    have e2 : (BitVec.ofInt 32 ((b : Nat) : Int)).toNat = b := by simp; omega
    rw [e1, e2]
    have := Nat.two_pow_add_eq_or_of_lt (i := 1) (b := b) (by omega) m
    rw [Nat.pow_one] at this
    exact this.symm
  rw [e]
  omega

theorem psum_lt {a : List Int} (ha : Dg a) {j : Nat} (hj : j ≤ 8) : 0 ≤ psum a j ∧ psum a j < 65536 ^ j := psum_range ha j hj

/-- A bit of a number, from its digit. -/
theorem bit_eq {a : List Int} (ha : Dg a) {i : Nat} (hi : i < 128) : psum a 8 / 2 ^ i % 2 = a.getD (i / 16) 0 / 2 ^ (i % 16) % 2 := by
  have hj : i / 16 < 8 := by omega
  have hs : i % 16 < 16 := by omega
  obtain ⟨rest, hr⟩ := psum_split a (i / 16 + 1) (8 - (i / 16 + 1))
  rw [show i / 16 + 1 + (8 - (i / 16 + 1)) = 8 by omega] at hr
  have hp := psum_lt ha (j := i / 16) (by omega)
  have hpow : (65536 : Int) ^ (i / 16) = 2 ^ (16 * (i / 16)) := by
    rw [Int.pow_mul]
    rfl
  have e1 : psum a 8 = psum a (i / 16) + 2 ^ (16 * (i / 16)) * (a.getD (i / 16) 0 + 65536 * rest) := by
    rw [hr]
    show psum a (i / 16) + a.getD (i / 16) 0 * 65536 ^ (i / 16) + rest * 65536 ^ (i / 16 + 1) = _
    rw [Int.pow_succ, hpow]
    grind
  have e2 : (2 : Int) ^ i = 2 ^ (16 * (i / 16)) * 2 ^ (i % 16) := by rw [← Int.pow_add]; congr 1; omega
  have hpos : (0 : Int) < 2 ^ (16 * (i / 16)) := Int.pow_pos (by decide)
  have hpos2 : (0 : Int) < 2 ^ (i % 16) := Int.pow_pos (by decide)
  have e3 : psum a 8 / 2 ^ (16 * (i / 16)) = a.getD (i / 16) 0 + 65536 * rest := by
    rw [e1, Int.add_mul_ediv_left _ _ (by omega), Int.ediv_eq_zero_of_lt hp.1 (by rw [← hpow]; exact hp.2)]
    omega
  rw [e2, ← Int.ediv_ediv_of_nonneg (by omega), e3]
  have e4 : (65536 : Int) = 2 ^ (i % 16) * (2 * 2 ^ (15 - i % 16)) := by
    have : (2 : Int) ^ (i % 16) * (2 * 2 ^ (15 - i % 16)) = 2 ^ (i % 16 + 1 + (15 - i % 16)) := by rw [Int.pow_add, Int.pow_succ]; grind
    rw [this, show i % 16 + 1 + (15 - i % 16) = 16 by omega]
    decide
  have e5 : a.getD (i / 16) 0 + 65536 * rest = a.getD (i / 16) 0 + 2 ^ (i % 16) * (2 * 2 ^ (15 - i % 16) * rest) := by
    conv => lhs; rw [e4]
    grind
  rw [e5, Int.add_mul_ediv_left _ _ (by omega)]
  rw [show 2 * 2 ^ (15 - i % 16) * rest = 2 * (2 ^ (15 - i % 16) * rest) by grind]
  omega

theorem Btwice {k : Nat} (hk : 9 ≤ k) {a : List Int} {x : Int} (ha : BR a x) : ∃ c, tourref2_Big_twice k a = some c ∧ BR c (2 * x) := by
  obtain ⟨c, e, r⟩ := BAdd hk ha ha
  exact ⟨c, by unfold tourref2_Big_twice; rw [e, bnd_some], BR_cong r (by congr 1; omega)⟩

theorem psum_even {a : List Int} {x : Int} (ha : BR a (2 * x)) : a.getD 0 0 % 2 = 0 := by
  have h := ha.2
  rw [psum8] at h
  omega

theorem Floor_c2 {k : Nat} (hk : 200 ≤ k) {o d : List Int} {A n : Int} (ho : BR o A) (h0 : 0 ≤ A) (h1 : A < 170141183460469231731687303715884105728) (hd : BR d n) (hn : 0 < n) (hn' : n ≤ 9223372036854775807) :
    ∀ (i m : Nat) (q r : List Int), i ≤ 128 → i < m → BR q (A / 2 ^ i / n) → BR r (A / 2 ^ i % n) →
    ∃ q', tourref2_Big_Floor.c2 k o d m ((i : Int) - 1) q r = some q' ∧ BR q' (A / n) := by
  intro i
  induction i with
  | zero =>
    intro m q r _ hm hq hr
    obtain ⟨m, rfl⟩ : ∃ j, m = j + 1 := ⟨m - 1, by omega⟩
    refine ⟨q, rfl, ?_⟩
    rw [Int.pow_zero, Int.ediv_one] at hq
    exact hq
  | succ i ih =>
    intro m q r hi hm hq hr
    obtain ⟨m, rfl⟩ : ∃ j, m = j + 1 := ⟨m - 1, by omega⟩
    have ev : (((i + 1 : Nat) : Int) - 1) = (i : Int) := by omega
    have hT0 : 0 ≤ A / 2 ^ (i + 1) := Int.ediv_nonneg h0 (Int.le_of_lt (Int.pow_pos (by decide)))
    have hTle : A / 2 ^ (i + 1) ≤ A := by
      exact Int.ediv_le_self _ h0
    -- the next bit
    have hb : A / 2 ^ i = 2 * (A / 2 ^ (i + 1)) + A / 2 ^ i % 2 := by
      rw [Int.pow_succ, ← Int.ediv_ediv_of_nonneg (Int.le_of_lt (Int.pow_pos (by decide)))]
      omega
    have hA : psum o 8 = A := by rw [ho.2]; omega
    have hbit := bit_eq ho.1 (i := i) (by omega)
    rw [hA] at hbit
    have hdg := ho.1.2 (i / 16) (by omega)
    have e1 : iquo .i64 (i : Int) 16 = ((i / 16 : Nat) : Int) := by
      unfold iquo
      rw [Int.tdiv_eq_ediv_of_nonneg (by omega), wrap_i64 (by omega) (by omega)]
      omega
    have e2 : irem (i : Int) 16 = ((i % 16 : Nat) : Int) := by
      unfold irem
      rw [Int.tmod_eq_emod_of_nonneg (by omega)]
      omega
    have e3 : ishr .u32 (o.getD (i / 16) 0) ((i % 16 : Nat) : Int) = o.getD (i / 16) 0 / 2 ^ (i % 16) := by
      unfold ishr
      have : min ((i % 16 : Nat) : Int).toNat IntKind.u32.bits = i % 16 := by simp [IntKind.bits]; omega
      rw [this]
      exact Int.fdiv_eq_ediv_of_nonneg _ (Int.le_of_lt (Int.pow_pos (by decide)))
    have hsh0 : 0 ≤ o.getD (i / 16) 0 / 2 ^ (i % 16) := Int.ediv_nonneg hdg.1 (Int.le_of_lt (Int.pow_pos (by decide)))
    have hsh1 : o.getD (i / 16) 0 / 2 ^ (i % 16) ≤ o.getD (i / 16) 0 := Int.ediv_le_self _ hdg.1
    have e4 : ibits .and .u32 (ishr .u32 (el 0 o (iquo .i64 (i : Int) 16)) (irem (i : Int) 16)) 1 = A / 2 ^ i % 2 := by
      rw [e1, e2, el_nat, e3, and1 hsh0 (by omega), hbit]
    generalize hB : A / 2 ^ i % 2 = b at *
    generalize hTT : A / 2 ^ (i + 1) = T at *
    have hb01 : b = 0 ∨ b = 1 := by omega
    -- doubled
    obtain ⟨r2, f1, g1⟩ := Btwice (k := k) (by omega) hr
    obtain ⟨q2, f2, g2⟩ := Btwice (k := k) (by omega) hq
    have hR0 := Int.emod_nonneg T (show n ≠ 0 by omega)
    have hR1 := Int.emod_lt_of_pos T hn
    have hQR := Int.mul_ediv_add_emod T n
    have hQ0 : 0 ≤ T / n := Int.ediv_nonneg hT0 (by omega)
    have hQ1 : T / n ≤ T := Int.ediv_le_self _ hT0
    have hd0 := g1.1.2 0 (by decide)
    have e5 : ibits .or .u32 (el 0 r2 0) b = r2.getD 0 0 + b := or1 (x := r2.getD 0 0) hd0.1 hd0.2 (psum_even g1) hb01
    have hr3 : BR (st r2 0 (r2.getD 0 0 + b)) (2 * (T % n) + b) := by
      have hev := psum_even g1
      refine ⟨Dg_set g1.1 0 (by omega) (by omega), ?_⟩
      show psum (r2.set 0 (r2.getD 0 0 + b)) 8 = _
      rw [psum_set _ _ _ (by rw [g1.1.1]; decide) _ (by decide), g1.2]
      simp
      omega
    have hstep : tourref2_Big_Floor.c2 k o d (m + 1) (((i + 1 : Nat) : Int) - 1) q r = bnd (tourref2_Big_Cmp k (st r2 0 (r2.getD 0 0 + b)) d) fun y24 =>
        bnd (tourref2_Big_Floor.c3 k o (i : Int) d r2 q2 y24) fun o33 => tourref2_Big_Floor.c2 k o d m ((i : Int) - 1) o33.1 o33.2 := by
      have hin : inR (iquo .i64 (i : Int) 16) 8 := by rw [e1]; unfold inR; omega
      have hng : ng (irem (i : Int) 16) := by rw [e2]; unfold ng; omega
      rw [ev, tourref2_Big_Floor.c2, ige_pos (by omega), bif_true, f1, bnd_some, f2, bnd_some, req_pos hin, req_pos hng, e4, e5, isub_i64 (by omega) (by omega)]
    rw [hstep, BCmp (by omega) hr3 hd (by unfold SR; omega) (by unfold SR; omega), bnd_some]
    unfold tourref2_Big_Floor.c3
    rw [e4, e5]
    by_cases hc : n ≤ 2 * (T % n) + b
    · have hge : ige (cmpI (2 * (T % n) + b) n) 0 = true := by
        rcases Int.lt_or_eq_of_le hc with h | h
        · rw [cmpI_gt h]; rfl
        · rw [cmpI_eq h.symm]; rfl
      obtain ⟨r3, f3, g3⟩ := BSub (k := k) (by omega) hr3 hd
      obtain ⟨one, f4, g4⟩ := BOf (k := k) (by omega) (n := 1) (by decide) (by decide)
      obtain ⟨q3, f5, g5⟩ := BAdd (k := k) (by omega) g2 g4
      rw [hge, bif_true, f3, bnd_some, f4, bnd_some, f5, bnd_some, bnd_some]
      dsimp only
      have hdm : (2 * T + b) / n = 2 * (T / n) + 1 ∧ (2 * T + b) % n = 2 * (T % n) + b - n := by
        have e : 2 * T + b = 2 * (T % n) + b - n + n * (2 * (T / n) + 1) := by
          conv => lhs; rw [← hQR]
          grind
        constructor
        · rw [e, Int.add_mul_ediv_left _ _ (by omega), Int.ediv_eq_zero_of_lt (by omega) (by omega)]
          omega
        · rw [e, Int.add_mul_emod_self_left, Int.emod_eq_of_lt (by omega) (by omega)]
      refine ih m q3 r3 (by omega) (by omega) ?_ ?_
      · rw [hb, hdm.1]; exact g5
      · rw [hb, hdm.2]; exact g3
    · have hlt : ige (cmpI (2 * (T % n) + b) n) 0 = false := by rw [cmpI_lt (by omega)]; rfl
      rw [hlt, bif_false, bnd_some]
      dsimp only
      have hdm : (2 * T + b) / n = 2 * (T / n) ∧ (2 * T + b) % n = 2 * (T % n) + b := by
        have e : 2 * T + b = 2 * (T % n) + b + n * (2 * (T / n)) := by
          conv => lhs; rw [← hQR]
          grind
        constructor
        · rw [e, Int.add_mul_ediv_left _ _ (by omega), Int.ediv_eq_zero_of_lt (by omega) (by omega)]
          omega
        · rw [e, Int.add_mul_emod_self_left, Int.emod_eq_of_lt (by omega) (by omega)]
      refine ih m q2 _ (by omega) (by omega) ?_ ?_
      · rw [hb, hdm.1]; exact g2
      · rw [hb, hdm.2]; exact hr3
end Go.Proofs.T1
namespace Go.Proofs.T1
open Go Go.Sx

theorem or_low' {a b : Int} {s : Nat} (hs : s ≤ 64) (ha : 0 ≤ a) (ha' : a * 2 ^ s ≤ 18446744073709551615) (hb : 0 ≤ b) (hb' : b < 2 ^ s) : ibits .or .u64 b (a * 2 ^ s) = b + a * 2 ^ s := by
  have h := or_low hs ha ha' hb hb'
  have hc : ibits .or .u64 b (a * 2 ^ s) = ibits .or .u64 (a * 2 ^ s) b := by
    simp only [ibits]
    rw [BitVec.or_comm]
  rw [hc, h]
  omega

theorem four (d0 d1 d2 d3 : Int) (h0 : 0 ≤ d0 ∧ d0 < 65536) (h1 : 0 ≤ d1 ∧ d1 < 65536) (h2 : 0 ≤ d2 ∧ d2 < 65536) (h3 : 0 ≤ d3 ∧ d3 < 65536) :
    ibits .or .u64 (ibits .or .u64 (ibits .or .u64 (ibits .or .u64 0 (ishl .u64 (icv .u64 d0) (imul .i64 16 0))) (ishl .u64 (icv .u64 d1) (imul .i64 16 1))) (ishl .u64 (icv .u64 d2) (imul .i64 16 2))) (ishl .u64 (icv .u64 d3) (imul .i64 16 3)) = d0 + d1 * 65536 + d2 * 4294967296 + d3 * 281474976710656 := by
  have c0 : icv .u64 d0 = d0 := by rw [icv_u64]; omega
  have c1 : icv .u64 d1 = d1 := by rw [icv_u64]; omega
  have c2 : icv .u64 d2 = d2 := by rw [icv_u64]; omega
  have c3 : icv .u64 d3 = d3 := by rw [icv_u64]; omega
  have s0 : ishl .u64 d0 (imul .i64 16 0) = d0 * 2 ^ 0 := by
    have := ishl_u64 d0 (n := 0) (by decide)
    rw [show (imul .i64 16 0) = ((0 : Nat) : Int) from rfl, this]
    simp
    omega
  have s1 : ishl .u64 d1 (imul .i64 16 1) = d1 * 2 ^ 16 := by
    have := ishl_u64 d1 (n := 16) (by decide)
    rw [show (imul .i64 16 1) = ((16 : Nat) : Int) from rfl, this]
    simp
    omega
  have s2 : ishl .u64 d2 (imul .i64 16 2) = d2 * 2 ^ 32 := by
    have := ishl_u64 d2 (n := 32) (by decide)
    rw [show (imul .i64 16 2) = ((32 : Nat) : Int) from rfl, this]
    simp
    omega
  have s3 : ishl .u64 d3 (imul .i64 16 3) = d3 * 2 ^ 48 := by
    have := ishl_u64 d3 (n := 48) (by decide)
    rw [show (imul .i64 16 3) = ((48 : Nat) : Int) from rfl, this]
    simp
    omega
  rw [c0, c1, c2, c3, s0, s1, s2, s3]
  rw [or_low' (by decide) h0.1 (by simp; omega) (by decide) (by decide)]
  rw [or_low' (by decide) h1.1 (by simp; omega) (by omega) (by simp; omega)]
  rw [or_low' (by decide) h2.1 (by simp; omega) (by omega) (by simp; omega)]
  rw [or_low' (by decide) h3.1 (by simp; omega) (by omega) (by simp; omega)]
  simp

theorem BWide {k : Nat} (hk : 9 ≤ k) {a : List Int} {x : Int} (ha : BR a x) : ∃ w, tourref2_Big_Wide k a = some w ∧ WOk w ∧ wv w % 340282366920938463463374607431768211456 = x % 340282366920938463463374607431768211456 ∧ w.2.1 = x % 18446744073709551616 := by
  obtain ⟨m, rfl⟩ : ∃ m, k = m + 5 := ⟨k - 5, by omega⟩
  have hx := ha.2
  have d0 := ha.1.2 0 (by decide)
  have d1 := ha.1.2 1 (by decide)
  have d2 := ha.1.2 2 (by decide)
  have d3 := ha.1.2 3 (by decide)
  have d4 := ha.1.2 4 (by decide)
  have d5 := ha.1.2 5 (by decide)
  have d6 := ha.1.2 6 (by decide)
  have d7 := ha.1.2 7 (by decide)
  rw [psum8] at hx
  have e : tourref2_Big_Wide.c1 (m + 5) a (m + 5) 0 0 0 = some
     (ibits .or .u64 (ibits .or .u64 (ibits .or .u64 (ibits .or .u64 0 (ishl .u64 (icv .u64 (a.getD 0 0)) (imul .i64 16 0))) (ishl .u64 (icv .u64 (a.getD 1 0)) (imul .i64 16 1))) (ishl .u64 (icv .u64 (a.getD 2 0)) (imul .i64 16 2))) (ishl .u64 (icv .u64 (a.getD 3 0)) (imul .i64 16 3)),
      ibits .or .u64 (ibits .or .u64 (ibits .or .u64 (ibits .or .u64 0 (ishl .u64 (icv .u64 (a.getD 4 0)) (imul .i64 16 0))) (ishl .u64 (icv .u64 (a.getD 5 0)) (imul .i64 16 1))) (ishl .u64 (icv .u64 (a.getD 6 0)) (imul .i64 16 2))) (ishl .u64 (icv .u64 (a.getD 7 0)) (imul .i64 16 3))) := by
    kernel_rfl
  rw [four _ _ _ _ d0 d1 d2 d3, four _ _ _ _ d4 d5 d6 d7] at e
  unfold tourref2_Big_Wide
  rw [e, bnd_some]
  refine ⟨_, rfl, ?_, ?_, ?_⟩
  · have h1 := wrap_i64_range (a.getD 4 0 + a.getD 5 0 * 65536 + a.getD 6 0 * 4294967296 + a.getD 7 0 * 281474976710656)
    unfold WOk icv
    dsimp only
    omega
  · obtain ⟨q1, h1⟩ := wrap_i64_mod (a.getD 4 0 + a.getD 5 0 * 65536 + a.getD 6 0 * 4294967296 + a.getD 7 0 * 281474976710656)
    unfold wv icv
    dsimp only
    rw [h1]
    omega
  · dsimp only
    omega

theorem BFloor {k : Nat} (hk : 200 ≤ k) {a : List Int} {x n : Int} (ha : BR a x) (hx : SR x) (hn : 0 < n) (hn' : n ≤ 9223372036854775807) :
    tourref2_Big_Floor k a n = some (if -9223372036854775808 ≤ x / n ∧ x / n ≤ 9223372036854775807 then (x / n, true) else (0, false)) := by
  unfold SR at hx
  have c1 : ∃ o, tourref2_Big_Floor.c1 k a (decide (x < 0)) = some o ∧ BR o (if x < 0 then -x - 1 else x) := by
    unfold tourref2_Big_Floor.c1
    by_cases h : x < 0
    · rw [decide_eq_true h, bif_true, if_pos h]
      obtain ⟨y, e1, r1⟩ := BNeg (k := k) (by omega) ha
      obtain ⟨z, e2, r2⟩ := BOf (k := k) (by omega) (n := 1) (by decide) (by decide)
      obtain ⟨w, e3, r3⟩ := BSub (k := k) (by omega) r1 r2
      rw [e1, bnd_some, e2, bnd_some, e3, bnd_some]
      exact ⟨w, rfl, r3⟩
    · rw [decide_eq_false h, bif_false, if_neg h]
      exact ⟨a, rfl, ha⟩
  obtain ⟨o, e1, ro⟩ := c1
  obtain ⟨d, e2, rd⟩ := BOf (k := k) (by omega) (n := n) (by omega) hn'
  have hA0 : 0 ≤ (if x < 0 then -x - 1 else x) := by split <;> omega
  have hA1 : (if x < 0 then -x - 1 else x) < 170141183460469231731687303715884105728 := by split <;> omega
  have hA : x / n = if x < 0 then -((if x < 0 then -x - 1 else x) / n) - 1 else (if x < 0 then -x - 1 else x) / n := by
    by_cases h : x < 0
    · simp only [h, if_true]
      have hq := Int.mul_ediv_add_emod (-x - 1) n
      have h0 := Int.emod_nonneg (-x - 1) (show n ≠ 0 by omega)
      have h1 := Int.emod_lt_of_pos (-x - 1) hn
      generalize (-x - 1) / n = Q at *
      generalize (-x - 1) % n = R at *
      have e : x = (n - 1 - R) + n * (-Q - 1) := by grind
      rw [e, Int.add_mul_ediv_left _ _ (by omega), Int.ediv_eq_zero_of_lt (by omega) (by omega)]
      omega
    · simp only [h, if_false]
  generalize (if x < 0 then -x - 1 else x) = A at *
  have hz1 : A / 2 ^ 128 / n = 0 := by
    rw [show (2 : Int) ^ 128 = 340282366920938463463374607431768211456 by decide, Int.ediv_eq_zero_of_lt hA0 (by omega)]
    simp
  have hz2 : A / 2 ^ 128 % n = 0 := by
    rw [show (2 : Int) ^ 128 = 340282366920938463463374607431768211456 by decide, Int.ediv_eq_zero_of_lt hA0 (by omega)]
    simp
  obtain ⟨q, e3, rq⟩ := Floor_c2 hk ro hA0 hA1 rd hn hn' 128 k (List.replicate 8 0) (List.replicate 8 0) (by decide) (by omega) (by rw [hz1]; exact BR_zero) (by rw [hz2]; exact BR_zero)
  have e3 : tourref2_Big_Floor.c2 k o d k 127 (List.replicate 8 0) (List.replicate 8 0) = some q := e3
  have hQ0 : 0 ≤ A / n := Int.ediv_nonneg hA0 (by omega)
  have hQ1 : A / n ≤ A := Int.ediv_le_self _ hA0
  obtain ⟨t, e4, rt⟩ := BOf (k := k) (by omega) (n := 4611686018427387904) (by decide) (by decide)
  obtain ⟨u, e5, ru⟩ := Btwice (k := k) (by omega) rt
  unfold tourref2_Big_Floor
  rw [BBelow k ha hx, bnd_some, e1, bnd_some, e2, bnd_some, e3, bnd_some, e4, bnd_some, e5, bnd_some, BCmp (by omega) rq ru (by unfold SR; omega) (by unfold SR; decide), bnd_some]
  by_cases hc : A / n < 9223372036854775808
  · have : ige (cmpI (A / n) (2 * 4611686018427387904)) 0 = false := by rw [cmpI_lt (by omega)]; rfl
    rw [this, bif_false]
    obtain ⟨w, e6, _, _, hw⟩ := BWide (k := k) (by omega) rq
    rw [e6, bnd_some, hw]
    have hw2 : icv .i64 (A / n % 18446744073709551616) = A / n := by
      unfold icv
      rw [wrap_i64 (by omega) (by omega)]
      omega
    rw [hw2]
    by_cases h : x < 0
    · rw [decide_eq_true h, bif_true]
      rw [if_pos h] at hA
      rw [hA, if_pos (by omega)]
      have n1 : ineg .i64 (A / n) = -(A / n) := by unfold ineg; rw [wrap_i64 (by omega) (by omega)]; omega
      rw [n1, isub_i64 (by omega) (by omega)]
    · rw [decide_eq_false h, bif_false]
      rw [if_neg h] at hA
      rw [hA, if_pos (by omega)]
  · have : ige (cmpI (A / n) (2 * 4611686018427387904)) 0 = true := by
      rcases Int.lt_or_eq_of_le (show (2 * 4611686018427387904 : Int) ≤ A / n by omega) with h | h
      · rw [cmpI_gt h]; rfl
      · rw [cmpI_eq h.symm]; rfl
    rw [this, bif_true, if_neg]
    rw [hA]
    split <;> omega

theorem BOver_pos {k : Nat} (hk : 200 ≤ k) {a : List Int} {x n : Int} (ha : BR a x) (h0 : -42535295865117307932921825928971026432 ≤ x) (h1 : x ≤ 42535295865117307932921825928971026432) (hn : 0 < n) (hn' : n ≤ 2305843009213693952) :
    tourref2_Big_Over k a n = some (fit (rnd x n)) := by
  obtain ⟨b, e1, r1⟩ := Btwice (k := k) (by omega) ha
  obtain ⟨c, e2, r2⟩ := BOf (k := k) (by omega) (n := n) (by omega) (by omega)
  obtain ⟨d, e3, r3⟩ := BAdd (k := k) (by omega) r1 r2
  unfold tourref2_Big_Over tourref2_Big_Over.c1
  rw [ieq_neg (by omega), bif_false, ilt_neg (by omega), bif_false, bnd_some]
  dsimp only
  rw [e1, bnd_some, e2, bnd_some, e3, bnd_some, imul_i64 (by omega) (by omega), BFloor hk r3 (by unfold SR; omega) (by omega) (by omega), bnd_some]
  unfold fit rnd
  split
  · rw [bif_true]
  · rw [bif_false]
end Go.Proofs.T1
namespace Go.Proofs.T1
open Go Go.Sx

theorem Wn_I64 {p : V24} (h : Wn p) : I64 p.1 ∧ I64 p.2.1 := by unfold Wn at h; unfold I64; omega

theorem RCentre_val {k : Nat} (hk : 200 ≤ k) {l : List V24} (hv : Val l) : tourref2_Centre k l = some (ctr l) := by
  have h8 := hv.2.1
  have h3 := hv.1
  have H := inv_loop (fun n (s : List Int × List Int × List Int) v => tourref2_Centre.c1 k l n v s.1 s.2.1 s.2.2) 0 (len l) (fun s v =>
      (v < len l → BR s.1 (csv l px v) ∧ BR s.2.1 (csv l py v) ∧ BR s.2.2 (sh l v)) ∧ (v = len l → BR s.1 (cs l px) ∧ BR s.2.1 (cs l py) ∧ BR s.2.2 (area l)))
    (by
      intro n s v a b ⟨c, _⟩
      have hn := nx_range a b
      have ha := hv.2.2.1 v a b
      have hb := hv.2.2.1 _ hn.1 hn.2
      obtain ⟨r1, r2, r3⟩ := c b
      have ia := Wn_I64 ha
      have ib := Wn_I64 hb
      obtain ⟨y9, e9, b9⟩ := BCross (k := k) (by omega) ia.1 ia.2 ib.1 ib.2
      have tx : iadd .i64 (q l v).1 (q l (nx (len l) v)).1 = (q l v).1 + (q l (nx (len l) v)).1 := iadd_i64 (by unfold Wn at *; omega) (by unfold Wn at *; omega)
      have ty : iadd .i64 (q l v).2.1 (q l (nx (len l) v)).2.1 = (q l v).2.1 + (q l (nx (len l) v)).2.1 := iadd_i64 (by unfold Wn at *; omega) (by unfold Wn at *; omega)
      obtain ⟨y11, e11, b11⟩ := BOf (k := k) (by omega) (n := (q l v).1 + (q l (nx (len l) v)).1) (by unfold Wn at *; omega) (by unfold Wn at *; omega)
      obtain ⟨y13, e13, b13⟩ := BMul (k := k) (by omega) b11 b9
      obtain ⟨y15, e15, b15⟩ := BAdd (k := k) (by omega) r1 b13
      obtain ⟨y17, e17, b17⟩ := BOf (k := k) (by omega) (n := (q l v).2.1 + (q l (nx (len l) v)).2.1) (by unfold Wn at *; omega) (by unfold Wn at *; omega)
      obtain ⟨y19, e19, b19⟩ := BMul (k := k) (by omega) b17 b9
      obtain ⟨y21, e21, b21⟩ := BAdd (k := k) (by omega) r2 b19
      obtain ⟨y23, e23, b23⟩ := BAdd (k := k) (by omega) r3 b9
      refine ⟨(y15, y21, y23), ⟨?_, ?_⟩, ?_⟩
      · intro h
        have hnx : nx (len l) v = v + 1 := by unfold nx; split <;> omega
        rw [csv_succ l px a, csv_succ l py a, sh_succ l a]
        rw [hnx] at b15 b21 b23
        exact ⟨b15, b21, b23⟩
      · intro h
        have hnx : nx (len l) v = 0 := by unfold nx; split <;> omega
        have hvv : len l - 1 = v := by omega
        unfold cs area
        rw [hvv]
        rw [hnx] at b15 b21 b23
        exact ⟨b15, b21, b23⟩
      · show tourref2_Centre.c1 k l (n + 1) v s.1 s.2.1 s.2.2 = tourref2_Centre.c1 k l n (v + 1) y15 y21 y23
        have hq : el Z24 l v = q l v := rfl
        have hq2 : el Z24 l (nx (len l) v) = q l (nx (len l) v) := rfl
        rw [tourref2_Centre.c1, ilt_pos b, bif_true, req_pos (inL_of a b), req_pos (show nz (len l) by unfold nz; omega), irem_nx a b (by omega), req_pos (inL_of hn.1 hn.2), hq, hq2, e9, bnd_some, tx, e11, bnd_some, e13, bnd_some, e15, bnd_some, ty, e17, bnd_some, e19, bnd_some, e21, bnd_some, e23, bnd_some, iadd_i64 (by omega) (by omega)])
    (by
      intro n s v a b
      show tourref2_Centre.c1 k l (n + 1) v s.1 s.2.1 s.2.2 = some s
      rw [tourref2_Centre.c1, ilt_neg b, bif_false])
    k (List.replicate 8 0, List.replicate 8 0, List.replicate 8 0) 0 (by omega) (by omega) (by omega) ⟨fun _ => ⟨BR_zero, BR_zero, BR_zero⟩, fun h => by omega⟩
  obtain ⟨⟨s1, s2, s3⟩, ⟨_, h⟩, e⟩ := H
  have e : tourref2_Centre.c1 k l k 0 (List.replicate 8 0) (List.replicate 8 0) (List.replicate 8 0) = some (s1, s2, s3) := e
  obtain ⟨h1, h2, h3'⟩ := h rfl
  have ha := area_pos hv
  have ha2 := area_le hv
  have hb := ctr_bd hv (R := 65536000) (fun i a b => hv.2.2.1 i a b)
  have c1 := cs_bd hv lin_px (R := 65536000) (fun i a b => ⟨(hv.2.2.1 i a b).1, (hv.2.2.1 i a b).2.1⟩)
  have c2 := cs_bd hv lin_py (R := 65536000) (fun i a b => ⟨(hv.2.2.1 i a b).2.2.1, (hv.2.2.1 i a b).2.2.2⟩)
  obtain ⟨w, e6, _, _, hw⟩ := BWide (k := k) (by omega) h3'
  unfold tourref2_Centre
  rw [e, bnd_some]
  dsimp only at h1 h2 h3' ⊢
  rw [e6, bnd_some, hw]
  have hw2 : icv .i64 (area l % 18446744073709551616) = area l := by
    unfold icv
    rw [wrap_i64 (by omega) (by omega)]
    omega
  rw [hw2, imul_i64 (by omega) (by omega), BOver_pos hk h1 (by omega) (by omega) (by omega) (by omega), bnd_some, BOver_pos hk h2 (by omega) (by omega) (by omega) (by omega), bnd_some]
  unfold ctr at hb ⊢
  dsimp only at hb
  rw [fit_in (by omega), fit_in (by omega)]

theorem RMoved_eq {k : Nat} {l : List V24} {c : V24} (hk : 9 ≤ k) (hl : len l ≤ 8) (hw : AllW l) (h : Wn c) : tourref2_Moved k l c = some (shift l (-c.1, -c.2.1, ())) := by
  have H := inv_loop (fun n (s : List V24) v => tourref2_Moved.c1 k l c n v s) 0 (len l) (fun s v => s = shift (l.take v.toNat) (-c.1, -c.2.1, ()))
    (by
      intro n s v a b e
      have hwv := hw v a b
      refine ⟨s ++ [((q l v).1 + -c.1, (q l v).2.1 + -c.2.1, ())], ?_, ?_⟩
      · obtain ⟨v, rfl⟩ := Int.eq_ofNat_of_zero_le a
        have hi : v < l.length := by unfold len at b; omega
        rw [q_get hi, e, show ((v : Int) + 1).toNat = v + 1 by omega, show ((v : Int)).toNat = v by omega]
        unfold shift
        rw [List.take_succ_eq_append_getElem hi, List.map_append]
        rfl
      · show tourref2_Moved.c1 k l c (n + 1) v s = tourref2_Moved.c1 k l c n (v + 1) _
        unfold Wn at hwv h
        have hel : el Z24 l v = q l v := rfl
        have hs : tourref2_sub k (q l v) c = some ((q l v).1 + -c.1, (q l v).2.1 + -c.2.1, ()) := by
          unfold tourref2_sub
          rw [isub_i64 (by omega) (by omega), isub_i64 (by omega) (by omega)]
          rfl
        rw [tourref2_Moved.c1, ilt_pos b, bif_true, req_pos (inL_of a b), hel, hs, bnd_some, iadd_i64 (x := v) (by omega) (by omega)]
        rw [req_pos]
        have hs : s.length ≤ 8 := by
          rw [e]
          unfold shift len at *
          simp
          omega
        show (s.length + 1) * 16 ≤ 140737488355328
        omega)
    (by
      intro n s v a b
      show tourref2_Moved.c1 k l c (n + 1) v s = some s
      rw [tourref2_Moved.c1, ilt_neg b, bif_false])
    k [] 0 (by omega) (by unfold len; omega) (by omega) (by rfl)
  obtain ⟨s, a, b⟩ := H
  have b : tourref2_Moved.c1 k l c k 0 [] = some s := b
  unfold tourref2_Moved
  rw [b, bnd_some, a]
  unfold len
  rw [show (l.length : Int).toNat = l.length by omega, List.take_length]

theorem RMass_c2 {k : Nat} (hk : 9 ≤ k) {l : List V24} (hv : Val l) (hl : AllR l) : ∃ w, tourref2_Mass.c2 k (cen l) k 0 (List.replicate 8 0) = some w ∧ BR w (m2 l (ctr l)) := by
  have h8 := hv.2.1
  have h3 := hv.1
  have hlc : len (cen l) = len l := len_shift _ _
  have hc := AllR_ctr hv hl
  have hq : ∀ i, 0 ≤ i → i < len l → q (cen l) i = vsub (q l i) (ctr l) := by
    intro i a b
    unfold cen vsub
    rw [q_shift a b]
    rfl
  have hI : ∀ i, 0 ≤ i → i < len l → I64 (q (cen l) i).1 ∧ I64 (q (cen l) i).2.1 := by
    intro i a b
    have := hl i a b
    rw [hq i a b]
    unfold vsub I64
    dsimp only
    omega
  have H := inv_loop (fun n (s : List Int) v => tourref2_Mass.c2 k (cen l) n v s) 0 (len l) (fun s v => BR s (m2n l (ctr l) v.toNat))
    (by
      intro n s v a b r
      have hn := nx_range a b
      have ia := hI v a b
      have ib := hI _ hn.1 hn.2
      obtain ⟨y21, e21, b21⟩ := BCross (k := k) (by omega) ia.1 ia.2 ib.1 ib.2
      obtain ⟨y23, e23, b23⟩ := BDot (k := k) (by omega) ia.1 ia.2 ia.1 ia.2
      obtain ⟨y25, e25, b25⟩ := BDot (k := k) (by omega) ia.1 ia.2 ib.1 ib.2
      obtain ⟨y27, e27, b27⟩ := BAdd (k := k) (by omega) b23 b25
      obtain ⟨y29, e29, b29⟩ := BDot (k := k) (by omega) ib.1 ib.2 ib.1 ib.2
      obtain ⟨y31, e31, b31⟩ := BAdd (k := k) (by omega) b27 b29
      obtain ⟨y33, e33, b33⟩ := BMul (k := k) (by omega) b21 b31
      obtain ⟨y35, e35, b35⟩ := BAdd (k := k) (by omega) r b33
      refine ⟨y35, ?_, ?_⟩
      · obtain ⟨i, rfl⟩ := Int.eq_ofNat_of_zero_le a
        rw [show ((i : Int) + 1).toNat = i + 1 by omega]
        rw [show ((i : Int)).toNat = i by omega] at b35
        refine BR_cong b35 ?_
        congr 1
        show _ = m2n l (ctr l) i + t2 (q l i) (q l (nx (len l) i)) (ctr l)
        rw [hq _ a b, hq _ hn.1 hn.2]
        unfold t2 cr sq6
        grind
      · show tourref2_Mass.c2 k (cen l) (n + 1) v s = tourref2_Mass.c2 k (cen l) n (v + 1) y35
        have hq1 : el Z24 (cen l) v = q (cen l) v := rfl
        have hq2 : el Z24 (cen l) (nx (len l) v) = q (cen l) (nx (len l) v) := rfl
        have b' : v < len (cen l) := by rw [hlc]; exact b
        rw [tourref2_Mass.c2, ilt_pos b', bif_true, req_pos (inL_of a b'), req_pos (show nz (len (cen l)) by unfold nz; rw [hlc]; omega), irem_nx a b' (by rw [hlc]; omega), hlc, req_pos (inL_of hn.1 (by rw [hlc]; exact hn.2)), hq1, hq2, e21, bnd_some, e23, bnd_some, e25, bnd_some, e27, bnd_some, e29, bnd_some, e31, bnd_some, e33, bnd_some, e35, bnd_some, iadd_i64 (by omega) (by omega)])
    (by
      intro n s v a b
      show tourref2_Mass.c2 k (cen l) (n + 1) v s = some s
      rw [tourref2_Mass.c2, ilt_neg (by rw [hlc]; exact b), bif_false])
    k (List.replicate 8 0) 0 (by omega) (by omega) (by omega) BR_zero
  obtain ⟨s, r, e⟩ := H
  refine ⟨s, e, ?_⟩
  unfold len at r
  rw [show (l.length : Int).toNat = l.length by omega] at r
  exact r

theorem RMass_val {k : Nat} (hk : 200 ≤ k) {l : List V24} (hv : Val l) (hl : AllR l) {d : Int} (h0 : 1 ≤ d) (h1 : d ≤ 1048576) (hc : tourref2_Mass.c1 k l d = some false) (hp : tourref2_Poly k l = some 0) : tourref2_Mass k l d = some (massE (mm l d) (ii l d) (ctr l)) := by
  have h8 := hv.2.1
  have hss := ss_bd hv hl
  have hm := mm_bd hv h0 h1
  have hi := ii_bd hv hl h0 h1
  have ha := area_pos hv
  have ha2 := area_le hv
  have hcb := AllR_ctr hv hl
  have h2 := m2n_bd hl hcb l.length (by unfold len; omega)
  have hlen : (l.length : Int) ≤ 8 := h8
  obtain ⟨w, e3, r3⟩ := RMass_c2 (k := k) (by omega) hv hl
  obtain ⟨y43, e43, b43⟩ := BOf (k := k) (by omega) (n := area l) (by omega) (by omega)
  obtain ⟨y45, e45, b45⟩ := BOf (k := k) (by omega) (n := d) (by omega) (by omega)
  obtain ⟨y47, e47, b47⟩ := BMul (k := k) (by omega) b43 b45
  obtain ⟨y51, e51, b51⟩ := BOf (k := k) (by omega) (n := ss l) (by omega) (by omega)
  obtain ⟨y55, e55, b55⟩ := BMul (k := k) (by omega) b51 b45
  have hmb := mul_bd (x := area l) (y := d) (M := 300000000000000000) (N := 1048576) (by omega) (by omega) (by omega) (by omega)
  have hib := mul_bd (x := ss l) (y := d) (M := 1000000000000000000) (N := 1048576) (by omega) (by omega) (by omega) (by omega)
  unfold tourref2_Mass
  rw [hp, bnd_some, ine_neg rfl, bif_false, hc, bnd_some, bif_false, RCentre_val hk hv, bnd_some, RMoved_eq (by omega) h8 hv.2.2.1 (by unfold Wn; omega), bnd_some]
  have e3 : tourref2_Mass.c2 k (shift l (-(ctr l).1, -(ctr l).2.1, ())) k 0 (List.replicate 8 0) = some w := e3
  rw [e3, bnd_some, BOver_pos hk r3 (by unfold m2; omega) (by unfold m2; omega) (by decide) (by decide), bnd_some]
  have hs : rnd (m2 l (ctr l)) 51539607552 = ss l := rfl
  rw [hs, fit_in (by omega), RArea_eq (by omega) hv.1 h8 hv.2.2.1, bnd_some, e43, bnd_some, e45, bnd_some, e47, bnd_some, BOver_pos hk b47 (by omega) (by omega) (by decide) (by decide), bnd_some]
  dsimp only
  rw [e51, bnd_some, bnd_some, e55, bnd_some, BOver_pos hk b55 (by omega) (by omega) (by decide) (by decide), bnd_some]
  have em : rnd (area l * d) 8589934592 = mm l d := rfl
  have ei : rnd (ss l * d) 4294967296 = ii l d := rfl
  rw [em, ei, fit_in (by omega), fit_in (by omega)]
  unfold tourref2_Mass.c3 massE
  dsimp only
  by_cases a1 : mm l d = 0
  · rw [ieq_pos a1, bif_true, bnd_some, bif_true, if_pos (Or.inl a1)]
  rw [ieq_neg a1, bif_false, bnd_some]
  by_cases a2 : ii l d = 0
  · rw [ieq_pos a2, bif_true, if_pos (Or.inr a2)]
  rw [ieq_neg a2, bif_false, if_neg (by omega)]
  by_cases a3 : imax (mm l d) (ii l d) > 1099511627776
  · rw [igt_pos a3, bif_true, if_pos (by unfold imax at a3; split at a3 <;> omega)]
  · rw [igt_neg (by omega), bif_false, if_neg (by unfold imax at a3; split at a3 <;> omega)]

theorem eqb24_self (a : V24) : Ty.eqb T24 a a = true := by rw [eqb24]; exact decide_eq_true rfl

theorem Equal_self {k : Nat} (hk : 9 ≤ k) {l : List V24} (hl : len l ≤ 8) : slices_Equal k l l = some true := by
  have H := find_loop (fun n v => slices_Equal.c1 k l l n v) 0 (len l) (fun _ => False) (fun _ => ())
    (by intro n v _ _ h; exact h.elim)
    (by
      intro n v a b _
      show slices_Equal.c1 k l l (n + 1) v = slices_Equal.c1 k l l n (v + 1)
      have he : Ty.eqb T24 (el Z24 l v) (el Z24 l v) = true := eqb24_self _
      rw [slices_Equal.c1, ilt_pos b, bif_true, req_pos (inL_of a b), req_pos (inL_of a b), iadd_i64 (by omega) (by omega)]
      exact (congrArg (fun b => bif' b _ _) he).trans rfl)
    (by
      intro n v a b
      show slices_Equal.c1 k l l (n + 1) v = _
      rw [slices_Equal.c1, ilt_neg b, bif_false])
    k 0 (by omega) (by omega)
  unfold slices_Equal
  rw [ine_neg rfl, bif_false]
  rcases H with ⟨_, _, _, h, _⟩ | ⟨_, h⟩
  · exact h.elim
  · have h : slices_Equal.c1 k l l k 0 = some (.inr ()) := h (by omega)
    rw [h, bnd_some, two_inr]

/-- Of and its reference, whatever the polygon. -/
theorem Mass_same {k : Nat} (hk : 200 ≤ k) (l : List V24) (d : Int) : ∃ r, mass_Of k l d = some r ∧ tourref2_Mass k l d = some r := by
  obtain ⟨e, c1, e1⟩ := Poly_eq (k := k) (by omega) l
  obtain ⟨e', c2, e2⟩ := Area_eq (k := k) (by omega) l
  have := Chk_uniq c2 e1
  subst this
  by_cases he : e' = 0
  · subst he
    have hv := Chk_zero e1
    have h8 := hv.2.1
    have hco : ∀ x : V24, (fun x : (V24 × Unit) => tourref2_Mass_1 k x.1) (x, ()) = some (!decide (-2097152 ≤ x.1 ∧ x.1 ≤ 2097152 ∧ -2097152 ≤ x.2.1 ∧ x.2.1 ≤ 2097152)) := by
      intro x
      show tourref2_Mass_1 k x = _
      unfold tourref2_Mass_1
      rw [coord_eq k x 2097152 (by decide) (by decide), bnd_some]
    have hcont := Contains_no (l := l) (k := k) (f := fun x : (V24 × Unit) => tourref2_Mass_1 k x.1) (by omega) (by omega) (g := fun x => !decide (-2097152 ≤ x.1 ∧ x.1 ≤ 2097152 ∧ -2097152 ≤ x.2.1 ∧ x.2.1 ≤ 2097152)) hco
    have hA : ∀ b, ¬ AllR l ∨ d < 1 ∨ d > 1048576 → (b = ()) → mass_Of k l d = some (0, 0, (0, 0, ()), 1) := by
      intro _ h _
      unfold mass_Of
      rw [e2, bnd_some, ine_neg rfl, bif_false]
      rcases Of_c1_ok (k := k) (by omega) h8 with ⟨g, _⟩ | ⟨g, g2⟩
      · rw [g, bnd_some, two_inl]
      · rw [g, bnd_some, two_inr]
        have hd : d < 1 ∨ d > 1048576 := by
          rcases h with h | h
          · exact absurd (g2 hv.2.2.1) h
          · exact h
        unfold mass_Of.c2
        rcases hd with hd | hd
        · rw [ilt_pos hd, bif_true, bnd_some, bif_true]
        · rw [ilt_neg (by omega), bif_false, igt_pos hd, bnd_some, bif_true]
    have hB : tourref2_Mass.c1 k l d = some true → tourref2_Mass k l d = some (0, 0, (0, 0, ()), 1) := by
      intro h
      unfold tourref2_Mass
      rw [c1, bnd_some, ine_neg rfl, bif_false, h, bnd_some, bif_true]
    rcases hcont with ⟨g, i, i0, i1, i2⟩ | ⟨g, g2⟩
    · have hnr : ¬ AllR l := by
        intro h
        have := h i i0 i1
        simp [this] at i2
      refine ⟨_, hA () (Or.inl hnr) rfl, hB ?_⟩
      unfold tourref2_Mass.c1
      rw [g, bnd_some, bif_true]
    · have hr : AllR l := by
        intro i i0 i1
        have := g2 i i0 i1
        simpa using this
      by_cases d1 : d < 1
      · refine ⟨_, hA () (Or.inr (Or.inl d1)) rfl, hB ?_⟩
        unfold tourref2_Mass.c1
        rw [g, bnd_some, bif_false, ilt_pos d1, bif_true]
      by_cases d2 : d > 1048576
      · refine ⟨_, hA () (Or.inr (Or.inr d2)) rfl, hB ?_⟩
        unfold tourref2_Mass.c1
        rw [g, bnd_some, bif_false, ilt_neg (by omega), bif_false, igt_pos d2]
      refine ⟨_, mass_Of_val (by omega) hv hr (by omega) (by omega), RMass_val hk hv hr (by omega) (by omega) ?_ c1⟩
      unfold tourref2_Mass.c1
      rw [g, bnd_some, bif_false, ilt_neg (by omega), bif_false, igt_neg (by omega)]
  · refine ⟨(0, 0, (0, 0, ()), e'), ?_, ?_⟩
    · unfold mass_Of
      rw [e2, bnd_some, ine_pos he, bif_true]
    · unfold tourref2_Mass
      rw [c1, bnd_some, ine_pos he, bif_true]

theorem MassSays_true (l : List V24) (d : Int) : tourlaw2_MassSays 200 l d = some true := by
  have hk : 200 ≤ 200 := by decide
  have hsq : tourlaw2_square 200 0 0 2 = some [(0, 0, ()), (131072, 0, ()), (131072, 131072, ()), (0, 131072, ())] := by kernel_rfl
  have hm : mass_Of 200 [(0, 0, ()), (131072, 0, ()), (131072, 131072, ()), (0, 131072, ())] 65536 = some (262144, 174763, (65536, 65536, ()), 0) := by kernel_rfl
  have hc1 : tourlaw2_MassSays.c1 200 (262144, 174763, (65536, 65536, ()), 0) = some false := by kernel_rfl
  obtain ⟨r, e1, e2⟩ := Mass_same hk l d
  have hc2 : tourlaw2_MassSays.c2 200 r r = some false := by
    unfold tourlaw2_MassSays.c2
    have he : Ty.eqb T24 r.2.2.1 r.2.2.1 = true := eqb24_self _
    rw [ine_neg rfl, bif_false, ine_neg rfl, bif_false, ine_neg rfl]
    exact (congrArg (fun b => bif' b _ _) he).trans rfl
  unfold tourlaw2_MassSays
  rw [hsq, bnd_some, hm, bnd_some, hc1, bnd_some, bif_false, e1, bnd_some, e2, bnd_some, hc2, bnd_some, bif_false]
  obtain ⟨e, c1, x1⟩ := Poly_eq (k := 200) (by decide) l
  obtain ⟨e', x2, c2⟩ := Area_eq (k := 200) (by decide) l
  have := Chk_uniq x2 x1
  subst this
  by_cases he : e' = 0
  · subst he
    have hv := Chk_zero x1
    have hb := ctr_bd hv (R := 65536000) (fun i a b => hv.2.2.1 i a b)
    obtain ⟨f, f1, f2⟩ := Centred_val (k := 200) (by decide) hv
    obtain ⟨g, g1, g2⟩ := Poly_eq (k := 200) (by decide) (cen l)
    have := Chk_uniq g2 f1
    subst this
    have hc3 : tourlaw2_MassSays.c3 200 l 0 = some (g, cen l) := by
      unfold tourlaw2_MassSays.c3
      rw [ieq_pos rfl, bif_true, RCentre_val hk hv, bnd_some, RMoved_eq (by decide) hv.2.1 hv.2.2.1 hb, bnd_some]
      have g1 : tourref2_Poly 200 (shift l (-(ctr l).1, -(ctr l).2.1, ())) = some g := g1
      rw [g1, bnd_some]
      rfl
    rw [f2, bnd_some, c1, bnd_some, hc3, bnd_some]
    dsimp only
    by_cases hg : g = 0
    · rw [ine_neg hg, bif_false, if_pos hg]
      dsimp only
      rw [ieq_pos rfl, bif_true, Equal_self (by decide) (by unfold cen; rw [len_shift]; exact hv.2.1), bnd_some]
    · rw [ine_pos hg, bif_true, if_neg hg]
      unfold tourlaw2_MassSays.c4
      dsimp only
      rw [ieq_pos rfl, bif_true, bnd_some]
      rfl
  · have hcen : mass_Centred 200 l = some ([], e') := by
      unfold mass_Centred
      rw [c2, bnd_some, ine_pos he, bif_true]
    have hc3 : tourlaw2_MassSays.c3 200 l e' = some (e', []) := by
      unfold tourlaw2_MassSays.c3
      rw [ieq_neg he, bif_false]
    rw [hcen, bnd_some, c1, bnd_some, hc3, bnd_some]
    dsimp only
    rw [ine_pos he, bif_true]
    unfold tourlaw2_MassSays.c4
    dsimp only
    rw [ieq_pos rfl, bif_true, bnd_some]
    rfl

set_option maxRecDepth 100000 in
theorem tourlaw2_MassSays_plain (x : ((.pair T22 (.pair T3 .unit)) : Ty).den) (_ : Ty.wf (.pair T22 (.pair T3 .unit)) x) : ∃ k, (tourlaw2_MassSays.sp k).f x = some true := ⟨200, MassSays_true x.1 x.2.1⟩
end Go.Proofs.T1
