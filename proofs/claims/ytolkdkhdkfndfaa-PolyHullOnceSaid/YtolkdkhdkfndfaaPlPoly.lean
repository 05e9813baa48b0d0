/-
  Plain laws: no program in sight.
-/
import Derived.Test.YtolkdkhdkfndfaaG3
import Derived.Test.YtolkdkhdkfndfaaG4
import Derived.Test.YtolkdkhdkfndfaaSxNum
import Derived.Test.YtolkdkhdkfndfaaSxLaw
namespace Go.Proofs.T1
open Go Go.Sx

theorem mul_range {a b M N : Int} (ha : 0 ≤ a) (ha' : a ≤ M) (hb : 0 ≤ b) (hb' : b ≤ N) : 0 ≤ a * b ∧ a * b ≤ M * N :=
  ⟨Int.mul_nonneg ha hb, Int.mul_le_mul ha' hb' hb (Int.le_trans ha ha')⟩

theorem shr32 (x : Int) : ishr .u64 x 32 = x / 4294967296 := ishr_u64 x (n := 32) (by decide)
theorem and32 {x : Int} (h0 : 0 ≤ x) (h1 : x ≤ 18446744073709551615) : ibits .and .u64 x 4294967295 = x % 4294967296 := and_mask h0 h1 32 (by decide)

theorem and32' (z : Int) : ibits .and .u64 (z % 18446744073709551616) 4294967295 = z % 18446744073709551616 % 4294967296 := and32 (by omega) (by omega)

theorem Mul64_eq (k : Nat) {x y : Int} (hx : 0 ≤ x) (hx' : x ≤ 18446744073709551615) (hy : 0 ≤ y) (hy' : y ≤ 18446744073709551615) :
    bits_Mul64 k x y = some (x * y / 18446744073709551616, x * y % 18446744073709551616) := by
  unfold bits_Mul64
  simp only [shr32, and32 hx hx', and32 hy hy', iadd_u64, imul_u64, and32']
  have ex := Int.mul_ediv_add_emod x 4294967296
  have ey := Int.mul_ediv_add_emod y 4294967296
  have x0 := Int.emod_nonneg x (show (4294967296 : Int) ≠ 0 by decide)
  have x0' := Int.emod_lt_of_pos x (show (0 : Int) < 4294967296 by decide)
  have y0 := Int.emod_nonneg y (show (4294967296 : Int) ≠ 0 by decide)
  have y0' := Int.emod_lt_of_pos y (show (0 : Int) < 4294967296 by decide)
  have x1 : 0 ≤ x / 4294967296 := by omega
  have x1' : x / 4294967296 ≤ 4294967295 := by omega
  have y1 : 0 ≤ y / 4294967296 := by omega
  have y1' : y / 4294967296 ≤ 4294967295 := by omega
  generalize x / 4294967296 = X1 at *
  generalize x % 4294967296 = X0 at *
  generalize y / 4294967296 = Y1 at *
  generalize y % 4294967296 = Y0 at *
  subst ex ey
  have a := mul_range x0 (show X0 ≤ 4294967295 by omega) y0 (show Y0 ≤ 4294967295 by omega)
  have b := mul_range x1 x1' y0 (show Y0 ≤ 4294967295 by omega)
  have c := mul_range x0 (show X0 ≤ 4294967295 by omega) y1 y1'
  have d := mul_range x1 x1' y1 y1'
  have e : (4294967296 * X1 + X0) * (4294967296 * Y1 + Y0) = 18446744073709551616 * (X1 * Y1) + 4294967296 * (X1 * Y0) + 4294967296 * (X0 * Y1) + X0 * Y0 := by grind
  rw [e]
  generalize X0 * Y0 = p at *
  generalize X1 * Y0 = q at *
  generalize X0 * Y1 = r at *
  generalize X1 * Y1 = s at *
  have hp : p % 18446744073709551616 = p := by omega
  have hq : q % 18446744073709551616 = q := by omega
  have hr : r % 18446744073709551616 = r := by omega
  have hs : s % 18446744073709551616 = s := by omega
  simp only [hp, hq, hr, hs]
  have h1 : (q + p / 4294967296) % 18446744073709551616 = q + p / 4294967296 := by omega
  simp only [h1]
  have h2 : ((q + p / 4294967296) % 4294967296 + r) % 18446744073709551616 = (q + p / 4294967296) % 4294967296 + r := by omega
  simp only [h2]
  congr 2
  omega
end Go.Proofs.T1
namespace Go.Proofs.T1
open Go Go.Sx

/-- A Wide in its bounds, and what it stands for. -/
def WOk (w : V154) : Prop := -9223372036854775808 ≤ w.1 ∧ w.1 ≤ 9223372036854775807 ∧ 0 ≤ w.2.1 ∧ w.2.1 ≤ 18446744073709551615
def wv (w : V154) : Int := w.1 * 18446744073709551616 + w.2.1

theorem wv_inj {a b : V154} (ha : WOk a) (hb : WOk b) (h : wv a % 340282366920938463463374607431768211456 = wv b % 340282366920938463463374607431768211456) : a = b := by
  obtain ⟨a1, a2, u⟩ := a
  obtain ⟨b1, b2, u'⟩ := b
  simp only [WOk, wv] at *
  have h1 : a1 = b1 := by omega
  have h2 : a2 = b2 := by omega
  subst h1 h2
  rfl

theorem eqb40 (a b : V154) : Ty.eqb T154 a b = decide (a = b) := by
  obtain ⟨a1, a2, u⟩ := a
  obtain ⟨b1, b2, u'⟩ := b
  show (ieq a1 b1 && (ieq a2 b2 && true)) = _
  simp only [ieq, Bool.and_true]
  rw [Bool.eq_iff_iff]
  simp

theorem Add64_eq (k : Nat) {x y : Int} (hx : 0 ≤ x) (hy : 0 ≤ y) : bits_Add64 k x y 0 = some ((x + y) % 18446744073709551616, (x + y) / 18446744073709551616) := by
  unfold bits_Add64 req
  simp [hx, hy]
theorem Sub64_eq (k : Nat) {x y : Int} (hx : 0 ≤ x) (hy : 0 ≤ y) (hy' : y ≤ 18446744073709551615) : bits_Sub64 k x y 0 = some ((x + 18446744073709551616 - y) % 18446744073709551616, if x < y then 1 else 0) := by
  unfold bits_Sub64 req
  simp [hx, hy, hy']

theorem Plus_eq (k : Nat) {a b : V154} (ha : WOk a) (hb : WOk b) : ∃ c, poly_Wide_Plus k a b = some c ∧ WOk c ∧ wv c % 340282366920938463463374607431768211456 = (wv a + wv b) % 340282366920938463463374607431768211456 := by
  obtain ⟨a1, a2, u⟩ := a
  obtain ⟨b1, b2, u'⟩ := b
  simp only [WOk, wv] at *
  unfold poly_Wide_Plus
  rw [Add64_eq k (by exact ha.2.2.1) (by exact hb.2.2.1)]
  refine ⟨_, rfl, ?_, ?_⟩
  · have h1 := wrap_i64_range (iadd .i64 a1 b1 + icv .i64 ((a2 + b2) / 18446744073709551616))
    simp only [iadd] at *
    omega
  · obtain ⟨q1, h1⟩ := wrap_i64_mod (iadd .i64 a1 b1 + icv .i64 ((a2 + b2) / 18446744073709551616))
    obtain ⟨q2, h2⟩ := wrap_i64_mod (a1 + b1)
    have h3 : icv .i64 ((a2 + b2) / 18446744073709551616) = (a2 + b2) / 18446744073709551616 := icv_i64 (by omega) (by omega)
    simp only [iadd] at *
    rw [h1, h2, h3]
    omega

end Go.Proofs.T1
namespace Go.Proofs.T1
open Go Go.Sx

theorem Times_eq (k : Nat) {a b : Int} (ha : -9223372036854775808 ≤ a) (ha' : a ≤ 9223372036854775807) (hb : -9223372036854775808 ≤ b) (hb' : b ≤ 9223372036854775807) :
    ∃ c, poly_Times k a b = some c ∧ WOk c ∧ wv c = a * b := by
  unfold poly_Times
  rw [icv_u64, icv_u64, Mul64_eq k (by omega) (by omega) (by omega) (by omega)]
  -- |a b| ≤ 2^126
  have hab : -85070591730234615865843651857942052864 ≤ a * b ∧ a * b ≤ 85070591730234615865843651857942052864 := by
    have p1 : 0 ≤ (9223372036854775808 - a) * (9223372036854775808 - b) := Int.mul_nonneg (by omega) (by omega)
    have p2 : 0 ≤ (9223372036854775808 + a) * (9223372036854775808 + b) := Int.mul_nonneg (by omega) (by omega)
    have p3 : 0 ≤ (9223372036854775808 - a) * (9223372036854775808 + b) := Int.mul_nonneg (by omega) (by omega)
    have p4 : 0 ≤ (9223372036854775808 + a) * (9223372036854775808 - b) := Int.mul_nonneg (by omega) (by omega)
    have e1 : (9223372036854775808 - a) * (9223372036854775808 - b) = 85070591730234615865843651857942052864 - 9223372036854775808 * a - 9223372036854775808 * b + a * b := by grind
    have e2 : (9223372036854775808 + a) * (9223372036854775808 + b) = 85070591730234615865843651857942052864 + 9223372036854775808 * a + 9223372036854775808 * b + a * b := by grind
    have e3 : (9223372036854775808 - a) * (9223372036854775808 + b) = 85070591730234615865843651857942052864 - 9223372036854775808 * a + 9223372036854775808 * b - a * b := by grind
    have e4 : (9223372036854775808 + a) * (9223372036854775808 - b) = 85070591730234615865843651857942052864 + 9223372036854775808 * a - 9223372036854775808 * b - a * b := by grind
    omega
  have hm : (a % 18446744073709551616) * (b % 18446744073709551616) = a * b + 18446744073709551616 * ((if a < 0 then b else 0) + (if b < 0 then a else 0) + (if a < 0 then if b < 0 then 18446744073709551616 else 0 else 0)) := by
    have e1 : a % 18446744073709551616 = if a < 0 then a + 18446744073709551616 else a := by split <;> omega
    have e2 : b % 18446744073709551616 = if b < 0 then b + 18446744073709551616 else b := by split <;> omega
    rw [e1, e2]
    split <;> split <;> grind
  generalize a * b = m at *
  generalize (a % 18446744073709551616) * (b % 18446744073709551616) = M at *
  unfold poly_Times.c1 poly_Times.c2
  simp only [bnd, bif', ilt, icv, isub]
  obtain ⟨q1, h1⟩ := wrap_i64_mod (M / 18446744073709551616)
  by_cases h : a < 0 <;> by_cases h' : b < 0 <;> simp only [h, h', decide_true, decide_false, if_true, if_false] at hm ⊢
  · obtain ⟨q2, h2⟩ := wrap_i64_mod (IntKind.i64.wrap (M / 18446744073709551616) - b)
    obtain ⟨q3, h3⟩ := wrap_i64_mod (IntKind.i64.wrap (IntKind.i64.wrap (M / 18446744073709551616) - b) - a)
    have r := wrap_i64_range (IntKind.i64.wrap (IntKind.i64.wrap (M / 18446744073709551616) - b) - a)
    refine ⟨_, rfl, ?_, ?_⟩ <;> simp only [WOk, wv] <;> omega
  · obtain ⟨q2, h2⟩ := wrap_i64_mod (IntKind.i64.wrap (M / 18446744073709551616) - b)
    have r := wrap_i64_range (IntKind.i64.wrap (M / 18446744073709551616) - b)
    refine ⟨_, rfl, ?_, ?_⟩ <;> simp only [WOk, wv] <;> omega
  · obtain ⟨q2, h2⟩ := wrap_i64_mod (IntKind.i64.wrap (M / 18446744073709551616) - a)
    have r := wrap_i64_range (IntKind.i64.wrap (M / 18446744073709551616) - a)
    refine ⟨_, rfl, ?_, ?_⟩ <;> simp only [WOk, wv] <;> omega
  · have r := wrap_i64_range (M / 18446744073709551616)
    refine ⟨_, rfl, ?_, ?_⟩ <;> simp only [WOk, wv] <;> omega
end Go.Proofs.T1
namespace Go.Proofs.T1
open Go Go.Sx

/-- One digit of a long division: the guess q (rest r) is right, or one or two too great. -/
theorem digit {U Y d q r B yn1 yn0 : Int} (hB : B = 4294967296) (hY : Y = yn1 * B + yn0) (h1 : 2147483648 ≤ yn1) (h0 : 0 ≤ yn0) (h0' : yn0 < B) (_hU : 0 ≤ U) (hUY : U < Y) (hd : 0 ≤ d) (hdB : d < B)
    (hq : q * yn1 + r = U) (hqQ : (U * B + d) / Y ≤ q) (hqB : q ≤ B + 1) (_hr : 0 ≤ r) (_hrB : r < B) (hq0 : 0 ≤ q) :
    ((B ≤ q ∨ q * yn0 > B * r + d) → (U * B + d) / Y ≤ q - 1 ∧ (B ≤ r + yn1 → q - 1 = (U * B + d) / Y)) ∧ (¬ (B ≤ q ∨ q * yn0 > B * r + d) → q = (U * B + d) / Y) := by
  have hYpos : 0 < Y := by rw [hY, hB]; omega
  have key : q * Y = U * B + d + (q * yn0 - (B * r + d)) := by rw [hY, ← hq]; grind
  generalize hQ : (U * B + d) / Y = Q at *
  have hQ1 : Q * Y ≤ U * B + d := by rw [← hQ]; exact Int.ediv_mul_le _ (by omega)
  have hQ2 : U * B + d < (Q + 1) * Y := by rw [← hQ]; exact Int.lt_ediv_add_one_mul_self _ hYpos
  have hQB : Q < B := by
    have : Q * Y < B * Y := by
      have : U * B + d < B * Y := by
        have h2 : U + 1 ≤ Y := hUY
        have h3 : (U + 1) * B ≤ Y * B := Int.mul_le_mul_of_nonneg_right h2 (by omega)
        have e : (U + 1) * B = U * B + B := by grind
        have e2 : Y * B = B * Y := Int.mul_comm _ _
        omega
      omega
    exact Int.lt_of_mul_lt_mul_right this (by omega)
  constructor
  · intro hc
    have hlt : Q < q := by
      rcases hc with hc | hc
      · omega
      · have : U * B + d < q * Y := by omega
        have h2 : Q * Y < q * Y := by omega
        exact Int.lt_of_mul_lt_mul_right h2 (by omega)
    refine ⟨by omega, fun hb => ?_⟩
    have e : (q - 1) * Y = U * B + d + ((q - 1) * yn0 - (B * (r + yn1) + d)) := by
      have : (q - 1) * Y = q * Y - Y := by grind
      rw [this, key]
      have e2 : (q - 1) * yn0 = q * yn0 - yn0 := by grind
      have e3 : B * (r + yn1) = B * r + B * yn1 := by grind
      rw [e2, e3, hY]
      have e4 : yn1 * B = B * yn1 := Int.mul_comm _ _
      omega
    have hm : (q - 1) * yn0 ≤ B * (r + yn1) + d := by
      have h2 : (q - 1) * yn0 ≤ B * yn0 := Int.mul_le_mul_of_nonneg_right (by omega) h0
      have h3 : B * yn0 ≤ B * (r + yn1) := Int.mul_le_mul_of_nonneg_left (by omega) (by omega)
      omega
    have hle : (q - 1) * Y < (Q + 1) * Y := by omega
    have := Int.lt_of_mul_lt_mul_right hle (by omega)
    omega
  · intro hc
    have h1 : ¬ q * yn0 > B * r + d := fun h => hc (.inr h)
    have : q * Y < (Q + 1) * Y := by omega
    have := Int.lt_of_mul_lt_mul_right this (by omega)
    omega
end Go.Proofs.T1
namespace Go.Proofs.T1
open Go Go.Sx

theorem u64_id {x : Int} (h : 0 ≤ x) (h' : x < 18446744073709551616) : x % 18446744073709551616 = x := by omega


end Go.Proofs.T1
namespace Go.Proofs.T1
open Go Go.Sx

def lenOk (n : Nat) (l : Int) : Bool := (n == 0) || (decide (1 ≤ l) && decide (l ≤ 8) && decide (2 ^ (l.toNat - 1) ≤ n) && decide (n < 2 ^ l.toNat))
theorem len8_table : ((List.range 256).all fun n => lenOk n (strAt str0 (n : Int))) = true := by decide +kernel

theorem len8 {x : Int} (h1 : 1 ≤ x) (h2 : x ≤ 255) : ∃ l : Nat, 1 ≤ l ∧ l ≤ 8 ∧ strAt str0 x = (l : Int) ∧ 2 ^ (l - 1) ≤ x.toNat ∧ x.toNat < 2 ^ l := by
  have h := List.all_eq_true.1 len8_table x.toNat (List.mem_range.2 (by omega))
  have hx : ((x.toNat : Nat) : Int) = x := by omega
  rw [hx] at h
  unfold lenOk at h
  simp only [Bool.or_eq_true, Bool.and_eq_true, decide_eq_true_eq, beq_iff_eq] at h
  rcases h with h | ⟨⟨⟨h3, h4⟩, h5⟩, h6⟩
  · omega
  · exact ⟨(strAt str0 x).toNat, by omega, by omega, by omega, h5, h6⟩

theorem shr16 (x : Int) : ishr .u64 x 16 = x / 65536 := ishr_u64 x (n := 16) (by decide)
theorem shr8 (x : Int) : ishr .u64 x 8 = x / 256 := ishr_u64 x (n := 8) (by decide)
theorem icv_u8 (x : Int) : icv .u8 x = x % 256 := by simp [icv, IntKind.wrap, IntKind.signed, IntKind.bits]

end Go.Proofs.T1
namespace Go.Proofs.T1
open Go Go.Sx

theorem or_low {a b : Int} {s : Nat} (hs : s ≤ 64) (ha : 0 ≤ a) (ha' : a * 2 ^ s ≤ 18446744073709551615) (hb : 0 ≤ b) (hb' : b < 2 ^ s) : ibits .or .u64 (a * 2 ^ s) b = a * 2 ^ s + b := by
  obtain ⟨m, rfl⟩ := Int.eq_ofNat_of_zero_le ha
  obtain ⟨n, rfl⟩ := Int.eq_ofNat_of_zero_le hb
  have hb2 : n < 2 ^ s := by exact_mod_cast hb'
  have ha2 : m * 2 ^ s ≤ 18446744073709551615 := by
    have h : ((m * 2 ^ s : Nat) : Int) ≤ 18446744073709551615 := by rw [Int.natCast_mul, Int.natCast_pow]; exact ha'
    omega
  have hp : (2 : Nat) ^ s ≤ 2 ^ 64 := Nat.pow_le_pow_right (by decide) hs
  have e0 : ((m : Int) * 2 ^ s) = ((m * 2 ^ s : Nat) : Int) := by rw [Int.natCast_mul, Int.natCast_pow]; rfl
  rw [e0]
  simp only [ibits, wrap_u64]
  have e : ((BitVec.ofInt IntKind.u64.bits ((m * 2 ^ s : Nat) : Int)) ||| (BitVec.ofInt IntKind.u64.bits (n : Int))).toNat = m * 2 ^ s + n := by
    show ((BitVec.ofInt 64 ((m * 2 ^ s : Nat) : Int)) ||| (BitVec.ofInt 64 (n : Int))).toNat = _
    rw [BitVec.toNat_or, ofInt_nat, ofInt_nat]
    have h1 : m * 2 ^ s % 18446744073709551616 = m * 2 ^ s := by omega
    have h2 : n % 18446744073709551616 = n := by
      have : n < 2 ^ 64 := Nat.lt_of_lt_of_le hb2 hp
      simp at this
      omega
    rw [h1, h2, Nat.mul_comm m, ← Nat.two_pow_add_eq_or_of_lt hb2]
  rw [e]
  have hsum : m * 2 ^ s + n ≤ 18446744073709551615 := by
    -- the sum of a multiple of 2^s below 2^64 and what is below 2^s
    have hd : 2 ^ s ∣ 18446744073709551616 := ⟨2 ^ (64 - s), by rw [← Nat.pow_add, show s + (64 - s) = 64 by omega]⟩
    obtain ⟨c, hc⟩ := hd
    have hmc : m < c := by
      have : m * 2 ^ s < c * 2 ^ s := by rw [Nat.mul_comm c, ← hc]; omega
      exact Nat.lt_of_mul_lt_mul_right this
    have h3 : (m + 1) * 2 ^ s ≤ c * 2 ^ s := Nat.mul_le_mul_right _ hmc
    rw [Nat.mul_comm c, ← hc, Nat.add_mul] at h3
    omega
  omega

theorem iquo_u64 {x y : Int} (hx : 0 ≤ x) (hx' : x ≤ 18446744073709551615) (hy : 0 < y) : iquo .u64 x y = x / y := by
  unfold iquo
  rw [wrap_u64, Int.tdiv_eq_ediv_of_nonneg hx]
  have h1 : 0 ≤ x / y := Int.ediv_nonneg hx (by omega)
  have h2 : x / y ≤ x := Int.ediv_le_self y hx
  omega
theorem irem_nonneg {x y : Int} (hx : 0 ≤ x) : irem x y = x % y := Int.tmod_eq_emod_of_nonneg hx

theorem pow_split {s : Nat} (hs : s ≤ 64) : (2 : Int) ^ s * 2 ^ (64 - s) = 18446744073709551616 := by
  rw [← Int.pow_add]
  have : s + (64 - s) = 64 := by omega
  rw [this]
  rfl

end Go.Proofs.T1
namespace Go.Proofs.T1
open Go Go.Sx

end Go.Proofs.T1
namespace Go.Proofs.T1
open Go Go.Sx

/-! Loops -/
theorem find_loop {α : Type} (F : Nat → Int → Option (α ⊕ Unit)) (lo N : Int) (P : Int → Prop) (g : Int → α)
    (hstep : ∀ n v, lo ≤ v → v < N → P v → F (n + 1) v = some (.inl (g v)))
    (hskip : ∀ n v, lo ≤ v → v < N → ¬ P v → F (n + 1) v = F n (v + 1))
    (hend : ∀ n v, lo ≤ v → N ≤ v → F (n + 1) v = some (.inr ())) :
    ∀ (n : Nat) (v : Int), lo ≤ v → N - v < (n : Int) → (∃ j, v ≤ j ∧ j < N ∧ P j ∧ (∀ i, v ≤ i → i < j → ¬ P i) ∧ F n v = some (.inl (g j))) ∨
      ((∀ j, v ≤ j → j < N → ¬ P j) ∧ (0 < n → F n v = some (.inr ()))) := by
  intro n
  induction n with
  | zero =>
    intro v h1 h2
    exact Or.inr ⟨fun j a b => by omega, fun h => absurd h (by decide)⟩
  | succ n ih =>
    intro v h1 h2
    by_cases hv : v < N
    · by_cases hp : P v
      · exact Or.inl ⟨v, by omega, hv, hp, fun i a b => by omega, hstep n v h1 hv hp⟩
      · have e := hskip n v h1 hv hp
        have hn : 0 < n := by omega
        rcases ih (v + 1) (by omega) (by omega) with ⟨j, a, b, c, d, f⟩ | ⟨a, b⟩
        · refine Or.inl ⟨j, by omega, b, c, ?_, e ▸ f⟩
          intro i x y
          by_cases hi : i = v
          · exact hi ▸ hp
          · exact d i (by omega) y
        · refine Or.inr ⟨?_, fun _ => by rw [e, b hn]⟩
          intro i x y
          by_cases hi : i = v
          · exact hi ▸ hp
          · exact a i (by omega) y
    · exact Or.inr ⟨fun j a b => by omega, fun _ => hend n v h1 (by omega)⟩

theorem inv_loop {σ : Type} (F : Nat → σ → Int → Option σ) (lo N : Int) (I : σ → Int → Prop)
    (hstep : ∀ n s v, lo ≤ v → v < N → I s v → ∃ s', I s' (v + 1) ∧ F (n + 1) s v = F n s' (v + 1))
    (hend : ∀ n s v, lo ≤ v → N ≤ v → F (n + 1) s v = some s) :
    ∀ (n : Nat) (s : σ) (v : Int), lo ≤ v → v ≤ N → N - v < (n : Int) → I s v → ∃ s', I s' N ∧ F n s v = some s' := by
  intro n
  induction n with
  | zero => intro s v h1 h2 h3; omega
  | succ n ih =>
    intro s v h1 h2 h3 h4
    by_cases hv : v < N
    · obtain ⟨s', a, b⟩ := hstep n s v h1 hv h4
      rw [b]
      exact ih s' (v + 1) (by omega) (by omega) (by omega) a
    · have : v = N := by omega
      subst this
      exact ⟨s, h4, hend n s v h1 (by omega)⟩

/-! Digits -/
def psum (a : List Int) : Nat → Int
  | 0 => 0
  | n + 1 => psum a n + a.getD n 0 * 65536 ^ n
def Dg (a : List Int) : Prop := a.length = 8 ∧ ∀ i, i < 8 → 0 ≤ a.getD i 0 ∧ a.getD i 0 < 65536

theorem getD_set (a : List Int) (i j : Nat) (x : Int) : (a.set i x).getD j 0 = if i = j ∧ i < a.length then x else a.getD j 0 := by
  simp only [List.getD_eq_getElem?_getD, List.getElem?_set]
  by_cases h : i = j
  · subst h
    by_cases h2 : i < a.length
    · simp [h2]
    · simp [h2]
  · simp [h]
theorem psum_set_ge (a : List Int) (i : Nat) (x : Int) : ∀ j, j ≤ i → psum (a.set i x) j = psum a j := by
  intro j
  induction j with
  | zero => intro _; rfl
  | succ j ih =>
    intro h
    have h2 : ¬ i = j := by omega
    simp only [psum, ih (by omega), getD_set, h2, false_and, if_false]
theorem psum_set (a : List Int) (i : Nat) (x : Int) (hi : i < a.length) : ∀ j, i < j → psum (a.set i x) j = psum a j + (x - a.getD i 0) * 65536 ^ i := by
  intro j
  induction j with
  | zero => intro h; omega
  | succ j ih =>
    intro h
    by_cases hj : i = j
    · subst hj
      simp only [psum, psum_set_ge a i x i (Nat.le_refl _), getD_set, hi, and_self, if_true]
      grind
    · simp only [psum, ih (by omega), getD_set, hj, false_and, if_false]
      grind
theorem Dg_set {a : List Int} (ha : Dg a) (i : Nat) {x : Int} (h0 : 0 ≤ x) (h1 : x < 65536) : Dg (a.set i x) := by
  refine ⟨by simp [ha.1], ?_⟩
  intro j hj
  rw [getD_set]
  split
  · exact ⟨h0, h1⟩
  · exact ha.2 j hj
theorem psum_range {a : List Int} (ha : Dg a) : ∀ j, j ≤ 8 → 0 ≤ psum a j ∧ psum a j < 65536 ^ j := by
  intro j
  induction j with
  | zero => intro _; exact ⟨Int.le_refl _, by simp [psum]⟩
  | succ j ih =>
    intro h
    have h1 := ih (by omega)
    have h2 := ha.2 j (by omega)
    have hp : (0 : Int) < 65536 ^ j := Int.pow_pos (by decide)
    rw [Int.pow_succ]
    simp only [psum]
    generalize (65536 : Int) ^ j = P at *
    generalize psum a j = S at *
    generalize a.getD j 0 = d at *
    have e1 : 0 ≤ d * P := Int.mul_nonneg h2.1 (by omega)
    have e2 : 0 ≤ (65535 - d) * P := Int.mul_nonneg (by omega) (by omega)
    have e3 : (65535 - d) * P = 65535 * P - d * P := by grind
    omega

instance (a : List Int) : Decidable (Dg a) := by unfold Dg; infer_instance
theorem Dg_zero : Dg (List.replicate 8 0) := by decide
theorem psum_zero : psum (List.replicate 8 0) 8 = 0 := by decide

/-- The digits of a number modulo 2^128. -/
def BR (a : List Int) (z : Int) : Prop := Dg a ∧ psum a 8 = z % 340282366920938463463374607431768211456

theorem BR_zero : BR (List.replicate 8 0) 0 := ⟨Dg_zero, by decide⟩
theorem BR_cong {a : List Int} {x y : Int} (h : BR a x) (e : x % 340282366920938463463374607431768211456 = y % 340282366920938463463374607431768211456) : BR a y := ⟨h.1, h.2.trans e⟩

theorem el_nat (a : List Int) (i : Nat) : el 0 a (i : Int) = a.getD i 0 := rfl
theorem st_nat (a : List Int) (i : Nat) (x : Int) : st a (i : Int) x = a.set i x := rfl
theorem shr16u {x : Int} : ishr .u32 x 16 = x / 65536 := by
  unfold ishr
  exact Int.fdiv_eq_ediv_of_nonneg _ (by decide)
theorem shr16v {x : Int} : ishr .u64 x 16 = x / 65536 := ishr_u64 x (n := 16) (by decide)
theorem iadd_u32 (x y : Int) : iadd .u32 x y = (x + y) % 4294967296 := wrap_u32 _

theorem and16 {x : Int} (h0 : 0 ≤ x) (h1 : x ≤ 4294967295) : ibits .and .u32 x 65535 = x % 65536 := by
  obtain ⟨n, rfl⟩ := Int.eq_ofNat_of_zero_le h0
  simp only [ibits, wrap_u32]
  have e : ((BitVec.ofInt IntKind.u32.bits (n : Int)) &&& (BitVec.ofInt IntKind.u32.bits (65535 : Int))).toNat = n % 2 ^ 16 := by
    show ((BitVec.ofInt 32 (n : Int)) &&& (BitVec.ofInt 32 ((65535 : Nat) : Int))).toNat = _
    rw [BitVec.toNat_and]
    have e1 : (BitVec.ofInt 32 (n : Int)).toNat = n := by simp; omega
    have e2 : (BitVec.ofInt 32 ((65535 : Nat) : Int)).toNat = 2 ^ 16 - 1 := by decide
    rw [e1, e2, Nat.and_two_pow_sub_one_eq_mod]
  rw [e]
  omega
theorem and16' {x : Int} (h0 : 0 ≤ x) (h1 : x ≤ 18446744073709551615) : ibits .and .u64 x 65535 = x % 65536 := and_mask h0 h1 16 (by decide)
theorem xor16 {x : Int} (h0 : 0 ≤ x) (h1 : x < 65536) : ibits .xor .u32 x 65535 = 65535 - x := by
  obtain ⟨n, rfl⟩ := Int.eq_ofNat_of_zero_le h0
  have hn : n < 65536 := by omega
  simp only [ibits, wrap_u32]
  have e : ((BitVec.ofInt IntKind.u32.bits (n : Int)) ^^^ (BitVec.ofInt IntKind.u32.bits (65535 : Int))).toNat = 65535 - n := by
    show ((BitVec.ofInt 32 (n : Int)) ^^^ (BitVec.ofInt 32 ((65535 : Nat) : Int))).toNat = _
    rw [BitVec.toNat_xor]
    have e1 : (BitVec.ofInt 32 (n : Int)).toNat = n := by simp; omega
    have e2 : (BitVec.ofInt 32 ((65535 : Nat) : Int)).toNat = 65535 := by decide
    rw [e1, e2]
    have h : ∀ m : BitVec 16, m ^^^ 65535#16 = ~~~ m := by intro m; rw [show (65535#16 : BitVec 16) = BitVec.allOnes 16 from by decide, BitVec.xor_allOnes]
    have e3 := congrArg BitVec.toNat (h (BitVec.ofNat 16 n))
    rw [BitVec.toNat_xor, BitVec.toNat_not] at e3
    have e4 : (BitVec.ofNat 16 n).toNat = n := by rw [BitVec.toNat_ofNat]; omega
    rw [e4] at e3
    have e5 : (65535#16 : BitVec 16).toNat = 65535 := by decide
    rw [e5] at e3
    omega
  rw [e]
  omega
end Go.Proofs.T1
namespace Go.Proofs.T1
open Go Go.Sx

theorem psum8 (a : List Int) : psum a 8 = a.getD 0 0 + a.getD 1 0 * 65536 + a.getD 2 0 * 4294967296 + a.getD 3 0 * 281474976710656 + a.getD 4 0 * 18446744073709551616 + a.getD 5 0 * 1208925819614629174706176 + a.getD 6 0 * 79228162514264337593543950336 + a.getD 7 0 * 5192296858534827628530496329220096 := by
  simp [psum]

theorem Add_loop (k : Nat) {a b : List Int} (ha : Dg a) (hb : Dg b) : ∀ (n i : Nat) (c : Int) (v : List Int), i ≤ 8 → 8 < i + n → Dg v → 0 ≤ c → c ≤ 1 →
    psum v i + c * 65536 ^ i = psum a i + psum b i →
    ∃ r c', tourref2_Big_Add.c1 k a b n c (i : Int) v = some r ∧ Dg r ∧ psum r 8 + c' * 65536 ^ 8 = psum a 8 + psum b 8 := by
  intro n
  induction n with
  | zero => intro i c v h1 h2; omega
  | succ n ih =>
    intro i c v h1 h2 hv c0 c1 inv
    by_cases hi : i = 8
    · subst hi
      exact ⟨v, c, rfl, hv, inv⟩
    · have hlt : ilt (i : Int) 8 = true := by simp [ilt]; omega
      have hin : inR (i : Int) 8 := by unfold inR; omega
      have hai := ha.2 i (by omega)
      have hbi := hb.2 i (by omega)
      have e1 : iadd .u32 (a.getD i 0) (b.getD i 0) = a.getD i 0 + b.getD i 0 := by rw [iadd_u32]; omega
      have e2 : iadd .u32 c (a.getD i 0 + b.getD i 0) = c + (a.getD i 0 + b.getD i 0) := by rw [iadd_u32]; omega
      have e3 : iadd .i64 (i : Int) 1 = ((i + 1 : Nat) : Int) := by rw [iadd_i64 (by omega) (by omega)]; omega
      rw [tourref2_Big_Add.c1, hlt, bif_true, req_pos hin]
      simp only [el_nat, st_nat, e1, e2, e3, shr16u]
      rw [and16 (by omega) (by omega)]
      refine ih (i + 1) _ _ (by omega) (by omega) (Dg_set hv i (by omega) (by omega)) (by omega) (by omega) ?_
      rw [psum_set _ _ _ (by rw [hv.1]; omega) _ (by omega)]
      simp only [psum, Int.pow_succ]
      have hd := Int.emod_add_mul_ediv (c + (a.getD i 0 + b.getD i 0)) 65536
      generalize (65536 : Int) ^ i = P at *
      generalize (c + (a.getD i 0 + b.getD i 0)) % 65536 = x at *
      generalize (c + (a.getD i 0 + b.getD i 0)) / 65536 = y at *
      generalize a.getD i 0 = p at *
      generalize b.getD i 0 = q at *
      generalize v.getD i 0 = w at *
      have : (x + 65536 * y) * P = (c + (p + q)) * P := by rw [hd]
      grind

theorem pow8 : (65536 : Int) ^ 8 = 340282366920938463463374607431768211456 := by decide

theorem BAdd {k : Nat} (hk : 9 ≤ k) {a b : List Int} {x y : Int} (ha : BR a x) (hb : BR b y) : ∃ c, tourref2_Big_Add k a b = some c ∧ BR c (x + y) := by
  obtain ⟨r, c', h1, h2, h3⟩ := Add_loop k ha.1 hb.1 k 0 0 (List.replicate 8 0) (by decide) (by omega) Dg_zero (by decide) (by decide) (by simp [psum])
  refine ⟨r, ?_, h2, ?_⟩
  · unfold tourref2_Big_Add
    show bnd (tourref2_Big_Add.c1 k a b k 0 ((0 : Nat) : Int) _) _ = _
    rw [h1, bnd_some]
  · have hr := psum_range h2 8 (Nat.le_refl _)
    rw [ha.2, hb.2, pow8] at h3
    rw [pow8] at hr
    omega

theorem Of_sh {n : Int} (i : Nat) (hi : i ≤ 4) : ishr .u64 (icv .u64 n) (imul .i64 16 (i : Int)) = n % 18446744073709551616 / 2 ^ (16 * i) := by
  rw [icv_u64]
  have : imul .i64 16 (i : Int) = ((16 * i : Nat) : Int) := by rw [imul_i64 (by omega) (by omega)]; omega
  rw [this, ishr_u64 _ (by omega)]

theorem Of_lo (k : Nat) (n : Int) (m : Nat) : tourref2_Of.c1 k n (m + 4) 0 (List.replicate 8 0) = tourref2_Of.c1 k n m 4
    [n % 65536, n / 65536 % 65536, n / 4294967296 % 65536, n / 281474976710656 % 65536, 0, 0, 0, 0] := by
  have s0 := Of_sh (n := n) 0 (by decide)
  have s1 := Of_sh (n := n) 1 (by decide)
  have s2 := Of_sh (n := n) 2 (by decide)
  have s3 := Of_sh (n := n) 3 (by decide)
  have t0 : icv .u32 (ibits .and .u64 (ishr .u64 (icv .u64 n) (imul .i64 16 0)) 65535) = n % 65536 := by
    rw [show (imul .i64 16 (0:Int)) = imul .i64 16 ((0 : Nat) : Int) from rfl, s0, and16' (by omega) (by omega), icv_u32]
    omega
  have t1 : icv .u32 (ibits .and .u64 (ishr .u64 (icv .u64 n) (imul .i64 16 1)) 65535) = n / 65536 % 65536 := by
    rw [show (imul .i64 16 (1:Int)) = imul .i64 16 ((1 : Nat) : Int) from rfl, s1, and16' (by omega) (by omega), icv_u32]
    omega
  have t2 : icv .u32 (ibits .and .u64 (ishr .u64 (icv .u64 n) (imul .i64 16 2)) 65535) = n / 4294967296 % 65536 := by
    rw [show (imul .i64 16 (2:Int)) = imul .i64 16 ((2 : Nat) : Int) from rfl, s2, and16' (by omega) (by omega), icv_u32]
    omega
  have t3 : icv .u32 (ibits .and .u64 (ishr .u64 (icv .u64 n) (imul .i64 16 3)) 65535) = n / 281474976710656 % 65536 := by
    rw [show (imul .i64 16 (3:Int)) = imul .i64 16 ((3 : Nat) : Int) from rfl, s3, and16' (by omega) (by omega), icv_u32]
    omega
  rw [← t0, ← t1, ← t2, ← t3]
  rfl

theorem BOf {k : Nat} (hk : 9 ≤ k) {n : Int} (h0 : -9223372036854775808 ≤ n) (h1 : n ≤ 9223372036854775807) : ∃ a, tourref2_Of k n = some a ∧ BR a n := by
  obtain ⟨m, rfl⟩ : ∃ m, k = m + 9 := ⟨k - 9, by omega⟩
  have e : tourref2_Of (m + 9) n = bnd (tourref2_Of.c1 (m + 9) n (m + 5) 4 [n % 65536, n / 65536 % 65536, n / 4294967296 % 65536, n / 281474976710656 % 65536, 0, 0, 0, 0]) some := by
    unfold tourref2_Of
    rw [Of_lo]
  by_cases hn : n < 0
  · have hb : ilt n 0 = true := by simp [ilt, hn]
    refine ⟨[n % 65536, n / 65536 % 65536, n / 4294967296 % 65536, n / 281474976710656 % 65536, 65535, 65535, 65535, 65535], ?_, ⟨rfl, ?_⟩, ?_⟩
    · rw [e]
      have step : ∀ (j : Nat) (i : Int) (v : List Int), ilt i 8 = true → ilt i 4 = false → inR i 8 → tourref2_Of.c1 (m + 9) n (j + 1) i v = tourref2_Of.c1 (m + 9) n j (iadd .i64 i 1) (st v i 65535) := by
        intro j i v a b c
        rw [tourref2_Of.c1, a, b, hb, bif_true, bif_false, bif_true, req_pos c]
      rw [show m + 5 = (m + 4) + 1 from rfl, step _ _ _ rfl rfl (by decide), step _ _ _ rfl rfl (by decide), step _ _ _ rfl rfl (by decide), step _ _ _ rfl rfl (by decide)]
      rfl
    · intro i hi
      have : i = 0 ∨ i = 1 ∨ i = 2 ∨ i = 3 ∨ i = 4 ∨ i = 5 ∨ i = 6 ∨ i = 7 := by omega
      rcases this with h | h | h | h | h | h | h | h <;> subst h <;> simp <;> omega
    · rw [psum8]
      simp
      omega
  · have hb : ilt n 0 = false := by simp [ilt, hn]
    refine ⟨[n % 65536, n / 65536 % 65536, n / 4294967296 % 65536, n / 281474976710656 % 65536, 0, 0, 0, 0], ?_, ⟨rfl, ?_⟩, ?_⟩
    · rw [e]
      have step : ∀ (j : Nat) (i : Int) (v : List Int), ilt i 8 = true → ilt i 4 = false → tourref2_Of.c1 (m + 9) n (j + 1) i v = tourref2_Of.c1 (m + 9) n j (iadd .i64 i 1) v := by
        intro j i v a b
        rw [tourref2_Of.c1, a, b, hb, bif_true, bif_false, bif_false]
      rw [show m + 5 = (m + 4) + 1 from rfl, step _ _ _ rfl rfl, step _ _ _ rfl rfl, step _ _ _ rfl rfl, step _ _ _ rfl rfl]
      rfl
    · intro i hi
      have : i = 0 ∨ i = 1 ∨ i = 2 ∨ i = 3 ∨ i = 4 ∨ i = 5 ∨ i = 6 ∨ i = 7 := by omega
      rcases this with h | h | h | h | h | h | h | h <;> subst h <;> simp <;> omega
    · rw [psum8]
      simp
      omega

theorem Neg_loop (k : Nat) (a : List Int) : ∀ (n i : Nat) (v : List Int), i ≤ 8 → 8 < i + n → Dg v →
    psum v i + psum a i = 65536 ^ i - 1 → (∀ j, i ≤ j → v.getD j 0 = a.getD j 0) →
    ∃ r, tourref2_Big_Neg.c1 k n (i : Int) v = some r ∧ Dg r ∧ psum r 8 + psum a 8 = 65536 ^ 8 - 1 := by
  intro n
  induction n with
  | zero => intro i v h1 h2; omega
  | succ n ih =>
    intro i v h1 h2 hv inv rest
    by_cases hi : i = 8
    · subst hi
      exact ⟨v, rfl, hv, inv⟩
    · have hlt : ilt (i : Int) 8 = true := by simp [ilt]; omega
      have hin : inR (i : Int) 8 := by unfold inR; omega
      have hai := hv.2 i (by omega)
      have e3 : iadd .i64 (i : Int) 1 = ((i + 1 : Nat) : Int) := by rw [iadd_i64 (by omega) (by omega)]; omega
      rw [tourref2_Big_Neg.c1, hlt, bif_true, req_pos hin]
      simp only [el_nat, st_nat, e3]
      rw [xor16 hai.1 hai.2]
      refine ih (i + 1) _ (by omega) (by omega) (Dg_set hv i (by omega) (by omega)) ?_ ?_
      · rw [psum_set _ _ _ (by rw [hv.1]; omega) _ (by omega)]
        simp only [psum, Int.pow_succ]
        rw [rest i (Nat.le_refl _)]
        generalize (65536 : Int) ^ i = P at *
        grind
      · intro j hj
        rw [getD_set]
        have : ¬ (i = j ∧ i < v.length) := by omega
        rw [if_neg this]
        exact rest j (by omega)

theorem BNeg {k : Nat} (hk : 9 ≤ k) {a : List Int} {x : Int} (ha : BR a x) : ∃ c, tourref2_Big_Neg k a = some c ∧ BR c (-x) := by
  obtain ⟨r, h1, h2, h3⟩ := Neg_loop k a k 0 a (by decide) (by omega) ha.1 (by simp [psum]) (fun _ _ => rfl)
  obtain ⟨o, o1, o2⟩ := BOf hk (n := 1) (by decide) (by decide)
  have hb : BR r (-1 - x) := by
    refine ⟨h2, ?_⟩
    have hr := psum_range h2 8 (Nat.le_refl _)
    rw [ha.2, pow8] at h3
    rw [pow8] at hr
    omega
  obtain ⟨c, c1, c2⟩ := BAdd hk hb o2
  refine ⟨c, ?_, BR_cong c2 (by congr 1; omega)⟩
  unfold tourref2_Big_Neg
  show bnd (tourref2_Big_Neg.c1 k k ((0 : Nat) : Int) a) _ = _
  rw [h1, bnd_some, o1, bnd_some, c1, bnd_some]

theorem BSub {k : Nat} (hk : 9 ≤ k) {a b : List Int} {x y : Int} (ha : BR a x) (hb : BR b y) : ∃ c, tourref2_Big_Sub k a b = some c ∧ BR c (x - y) := by
  obtain ⟨n, n1, n2⟩ := BNeg hk hb
  obtain ⟨c, c1, c2⟩ := BAdd hk ha n2
  exact ⟨c, by unfold tourref2_Big_Sub; rw [n1, bnd_some, c1, bnd_some], BR_cong c2 (by congr 1)⟩

theorem Mul_in (k : Nat) {a b : List Int} (ha : Dg a) (hb : Dg b) (i : Nat) (hi : i < 8) (S : Int) : ∀ (n j : Nat) (c : Int) (v : List Int), i + j ≤ 8 → 8 < i + j + n → Dg v → 0 ≤ c → c ≤ 65535 →
    psum v 8 + c * 65536 ^ (i + j) = S + a.getD i 0 * 65536 ^ i * psum b j →
    ∃ r c', tourref2_Big_Mul.c2 k a b (i : Int) n c (j : Int) v = some r ∧ Dg r ∧ psum r 8 + c' * 65536 ^ 8 = S + a.getD i 0 * 65536 ^ i * psum b (8 - i) := by
  intro n
  induction n with
  | zero => intro j c v h1 h2; omega
  | succ n ih =>
    intro j c v h1 h2 hv c0 c1 inv
    have e4 : iadd .i64 (i : Int) (j : Int) = ((i + j : Nat) : Int) := by rw [iadd_i64 (by omega) (by omega)]; omega
    by_cases hij : i + j = 8
    · have hj : j = 8 - i := by omega
      subst hj
      refine ⟨v, c, ?_, hv, ?_⟩
      · rw [tourref2_Big_Mul.c2, e4, hij]
        rfl
      · rw [hij] at inv
        exact inv
    · have hlt : ilt ((i + j : Nat) : Int) 8 = true := by simp [ilt]; omega
      have hin : inR ((i + j : Nat) : Int) 8 := by unfold inR; omega
      have hin1 : inR (i : Int) 8 := by unfold inR; omega
      have hin2 : inR (j : Int) 8 := by unfold inR; omega
      have hai := ha.2 i (by omega)
      have hbj := hb.2 j (by omega)
      have hvi := hv.2 (i + j) (by omega)
      have hpr := mul_range hai.1 (show a.getD i 0 ≤ 65535 by omega) hbj.1 (show b.getD j 0 ≤ 65535 by omega)
      have e3 : iadd .i64 (j : Int) 1 = ((j + 1 : Nat) : Int) := by rw [iadd_i64 (by omega) (by omega)]; omega
      rw [tourref2_Big_Mul.c2]
      simp only [e4]
      rw [hlt, bif_true, req_pos hin1, req_pos hin2, req_pos hin]
      simp only [el_nat, st_nat, e3, shr16v]
      have f1 : icv .u64 (a.getD i 0) = a.getD i 0 := by rw [icv_u64]; omega
      have f2 : icv .u64 (b.getD j 0) = b.getD j 0 := by rw [icv_u64]; omega
      have f3 : icv .u64 (v.getD (i + j) 0) = v.getD (i + j) 0 := by rw [icv_u64]; omega
      have f4 : imul .u64 (a.getD i 0) (b.getD j 0) = a.getD i 0 * b.getD j 0 := by rw [imul_u64]; omega
      have f5 : iadd .u64 (a.getD i 0 * b.getD j 0) (v.getD (i + j) 0) = a.getD i 0 * b.getD j 0 + v.getD (i + j) 0 := by rw [iadd_u64]; omega
      have f6 : iadd .u64 c (a.getD i 0 * b.getD j 0 + v.getD (i + j) 0) = c + (a.getD i 0 * b.getD j 0 + v.getD (i + j) 0) := by rw [iadd_u64]; omega
      simp only [f1, f2, f3, f4, f5, f6]
      rw [and16' (by omega) (by omega), icv_u32]
      have f7 : (c + (a.getD i 0 * b.getD j 0 + v.getD (i + j) 0)) % 65536 % 4294967296 = (c + (a.getD i 0 * b.getD j 0 + v.getD (i + j) 0)) % 65536 := by omega
      rw [f7]
      refine ih (j + 1) _ _ (by omega) (by omega) (Dg_set hv _ (by omega) (by omega)) (by omega) (by omega) ?_
      rw [psum_set _ _ _ (by rw [hv.1]; omega) _ (by omega)]
      have hd := Int.emod_add_mul_ediv (c + (a.getD i 0 * b.getD j 0 + v.getD (i + j) 0)) 65536
      rw [show psum b (j + 1) = psum b j + b.getD j 0 * 65536 ^ j from rfl, show (65536 : Int) ^ (i + (j + 1)) = 65536 ^ (i + j) * 65536 from Int.pow_succ _ _]
      have hpw : (65536 : Int) ^ (i + j) = 65536 ^ i * 65536 ^ j := Int.pow_add _ _ _
      rw [hpw] at inv ⊢
      generalize (65536 : Int) ^ i = P at *
      generalize (65536 : Int) ^ j = Q at *
      generalize (c + (a.getD i 0 * b.getD j 0 + v.getD (i + j) 0)) % 65536 = x at *
      generalize (c + (a.getD i 0 * b.getD j 0 + v.getD (i + j) 0)) / 65536 = y at *
      generalize a.getD i 0 = p at *
      generalize b.getD j 0 = q at *
      generalize v.getD (i + j) 0 = w at *
      generalize psum v 8 = V at *
      generalize psum b j = B at *
      have h9 : (x + 65536 * y) * (P * Q) = (c + (p * q + w)) * (P * Q) := by rw [hd]
      have e1 : (x + 65536 * y) * (P * Q) = x * (P * Q) + 65536 * (y * (P * Q)) := by grind
      have e2 : (c + (p * q + w)) * (P * Q) = c * (P * Q) + p * q * (P * Q) + w * (P * Q) := by grind
      have e5 : (x - w) * (P * Q) = x * (P * Q) - w * (P * Q) := by grind
      have e6 : y * (P * Q * 65536) = 65536 * (y * (P * Q)) := by grind
      have e7 : p * P * (B + q * Q) = p * P * B + p * q * (P * Q) := by grind
      rw [e5, e6, e7]
      rw [e1, e2] at h9
      clear hd e1 e2 e5 e6 e7 hpr f1 f2 f3 f4 f5 f6 f7 ih
      generalize x * (P * Q) = t1 at *
      generalize y * (P * Q) = t2 at *
      generalize c * (P * Q) = t3 at *
      generalize p * q * (P * Q) = t4 at *
      generalize w * (P * Q) = t5 at *
      generalize p * P * B = t6 at *
      omega

theorem psum_split (b : List Int) (i : Nat) : ∀ j, ∃ q, psum b (i + j) = psum b i + q * 65536 ^ i := by
  intro j
  induction j with
  | zero => exact ⟨0, by simp⟩
  | succ j ih =>
    obtain ⟨q, hq⟩ := ih
    refine ⟨q + b.getD (i + j) 0 * 65536 ^ j, ?_⟩
    show psum b (i + j) + b.getD (i + j) 0 * 65536 ^ (i + j) = _
    rw [hq, Int.pow_add]
    grind

theorem Mul_out (k : Nat) (hk : 9 ≤ k) {a b : List Int} (ha : Dg a) (hb : Dg b) : ∀ (n i : Nat) (v : List Int), i ≤ 8 → 8 < i + n → Dg v →
    (∃ c, psum v 8 + c * 65536 ^ 8 = psum a i * psum b 8) →
    ∃ r, tourref2_Big_Mul.c1 k a b n (i : Int) v = some r ∧ Dg r ∧ ∃ c, psum r 8 + c * 65536 ^ 8 = psum a 8 * psum b 8 := by
  intro n
  induction n with
  | zero => intro i v h1 h2; omega
  | succ n ih =>
    intro i v h1 h2 hv inv
    by_cases hi : i = 8
    · subst hi
      exact ⟨v, rfl, hv, inv⟩
    · have hlt : ilt (i : Int) 8 = true := by simp [ilt]; omega
      have e3 : iadd .i64 (i : Int) 1 = ((i + 1 : Nat) : Int) := by rw [iadd_i64 (by omega) (by omega)]; omega
      obtain ⟨r, c', h3, h4, h5⟩ := Mul_in k ha hb i (by omega) (psum v 8) k 0 0 v (by omega) (by omega) hv (by decide) (by decide) (by simp [psum])
      rw [tourref2_Big_Mul.c1, hlt, bif_true]
      show ∃ r, bnd (tourref2_Big_Mul.c2 k a b (i : Int) k 0 ((0 : Nat) : Int) v) _ = some r ∧ _
      rw [h3, bnd_some, e3]
      refine ih (i + 1) r (by omega) (by omega) h4 ?_
      obtain ⟨c, inv⟩ := inv
      obtain ⟨q, hq⟩ := psum_split b (8 - i) i
      rw [show 8 - i + i = 8 by omega] at hq
      have hpw : (65536 : Int) ^ 8 = 65536 ^ (8 - i) * 65536 ^ i := by rw [← Int.pow_add, show 8 - i + i = 8 by omega]
      refine ⟨c + c' + a.getD i 0 * q, ?_⟩
      rw [show psum a (i + 1) = psum a i + a.getD i 0 * 65536 ^ i from rfl]
      generalize (65536 : Int) ^ 8 = W at *
      generalize (65536 : Int) ^ (8 - i) = P at *
      generalize (65536 : Int) ^ i = Q at *
      grind

theorem BMul {k : Nat} (hk : 9 ≤ k) {a b : List Int} {x y : Int} (ha : BR a x) (hb : BR b y) : ∃ c, tourref2_Big_Mul k a b = some c ∧ BR c (x * y) := by
  obtain ⟨r, h1, h2, c, h3⟩ := Mul_out k hk ha.1 hb.1 k 0 (List.replicate 8 0) (by decide) (by omega) Dg_zero ⟨0, by rw [psum_zero, show psum a 0 = 0 from rfl]; simp⟩
  refine ⟨r, ?_, h2, ?_⟩
  · unfold tourref2_Big_Mul
    show bnd (tourref2_Big_Mul.c1 k a b k ((0 : Nat) : Int) _) _ = _
    rw [h1, bnd_some]
  · have hr := psum_range h2 8 (Nat.le_refl _)
    rw [pow8] at h3 hr
    have e1 : psum r 8 = (psum a 8 * psum b 8) % 340282366920938463463374607431768211456 := by
      rw [← h3]
      omega
    rw [e1, ha.2, hb.2, ← Int.mul_emod]
end Go.Proofs.T1
namespace Go.Proofs.T1
open Go Go.Sx

/-- The sign of a difference. -/
def cmpI (x y : Int) : Int := if x < y then -1 else if x = y then 0 else 1
theorem cmpI_lt {x y : Int} (h : x < y) : cmpI x y = -1 := if_pos h
theorem cmpI_eq {x y : Int} (h : x = y) : cmpI x y = 0 := by unfold cmpI; rw [if_neg (by omega), if_pos h]
theorem cmpI_gt {x y : Int} (h : y < x) : cmpI x y = 1 := by unfold cmpI; rw [if_neg (by omega), if_neg (by omega)]
def cmpS (x y : Int) : Int ⊕ Unit := if x < y then .inl (-1) else if x = y then .inr () else .inl 1
theorem cmpS_lt {x y : Int} (h : x < y) : cmpS x y = .inl (-1) := if_pos h
theorem cmpS_eq {x y : Int} (h : x = y) : cmpS x y = .inr () := by unfold cmpS; rw [if_neg (by omega), if_pos h]
theorem cmpS_gt {x y : Int} (h : y < x) : cmpS x y = .inl 1 := by unfold cmpS; rw [if_neg (by omega), if_neg (by omega)]
def SR (x : Int) : Prop := -170141183460469231731687303715884105728 ≤ x ∧ x < 170141183460469231731687303715884105728

theorem BBelow (k : Nat) {a : List Int} {x : Int} (ha : BR a x) (hx : SR x) : tourref2_Big_Below k a = some (decide (x < 0)) := by
  unfold tourref2_Big_Below SR at *
  have h1 := psum_range ha.1 7 (by decide)
  have h2 := ha.1.2 7 (by decide)
  have h3 : psum a 8 = psum a 7 + a.getD 7 0 * 5192296858534827628530496329220096 := by simp [psum]
  have h4 : (65536 : Int) ^ 7 = 5192296858534827628530496329220096 := by decide
  have e : el 0 a 7 = a.getD 7 0 := rfl
  have e2 : ishr .u32 (a.getD 7 0) 15 = a.getD 7 0 / 32768 := by
    unfold ishr
    exact Int.fdiv_eq_ediv_of_nonneg _ (by decide)
  rw [h4] at h1
  rw [e, e2]
  congr 1
  rw [ieq, decide_eq_decide]
  have h5 := ha.2
  rw [h3] at h5
  omega

theorem Cmp_loop (k : Nat) {a b : List Int} (ha : Dg a) (hb : Dg b) : ∀ (i n : Nat), i ≤ 8 → i < n →
    tourref2_Big_Cmp.c1 k a b n ((i : Int) - 1) = some (cmpS (psum a i) (psum b i)) := by
  intro i
  induction i with
  | zero =>
    intro n h1 h2
    obtain ⟨m, rfl⟩ : ∃ m, n = m + 1 := ⟨n - 1, by omega⟩
    rfl
  | succ i ih =>
    intro n h1 h2
    obtain ⟨m, rfl⟩ : ∃ m, n = m + 1 := ⟨n - 1, by omega⟩
    have e : (((i + 1 : Nat) : Int) - 1) = (i : Int) := by omega
    have hge : ige (i : Int) 0 = true := by simp [ige]
    have hin : inR (i : Int) 8 := by unfold inR; omega
    have e3 : isub .i64 (i : Int) 1 = (i : Int) - 1 := by rw [isub_i64 (by omega) (by omega)]
    rw [tourref2_Big_Cmp.c1, e, hge, bif_true, req_pos hin, e3, ih m (by omega) (by omega)]
    simp only [el_nat]
    have p1 := psum_range ha i (by omega)
    have p2 := psum_range hb i (by omega)
    simp only [psum]
    generalize (65536 : Int) ^ i = P at *
    generalize a.getD i 0 = x at *
    generalize b.getD i 0 = y at *
    generalize psum a i = S at *
    generalize psum b i = R at *
    by_cases h : x = y
    · have c1 : ine x y = false := by simp [ine, h]
      rw [c1, bif_false, h]
      rcases Int.lt_trichotomy S R with g | g | g
      · rw [cmpS_lt g, cmpS_lt (by omega)]
      · rw [cmpS_eq g, cmpS_eq (by omega)]
      · rw [cmpS_gt g, cmpS_gt (by omega)]
    · have c1 : ine x y = true := by simp [ine, h]
      rw [c1, bif_true]
      by_cases h2 : x < y
      · have c2 : ilt x y = true := by simp [ilt, h2]
        rw [c2, bif_true]
        have q0 : 0 ≤ (y - x - 1) * P := Int.mul_nonneg (by omega) (by omega)
        have q1 : (y - x - 1) * P = y * P - x * P - P := by grind
        rw [cmpS_lt (by omega)]
      · have c2 : ilt x y = false := by simp [ilt, h2]
        rw [c2, bif_false]
        have q0 : 0 ≤ (x - y - 1) * P := Int.mul_nonneg (by omega) (by omega)
        have q1 : (x - y - 1) * P = x * P - y * P - P := by grind
        rw [cmpS_gt (by omega)]

theorem BCmp {k : Nat} (hk : 9 ≤ k) {a b : List Int} {x y : Int} (ha : BR a x) (hb : BR b y) (hx : SR x) (hy : SR y) : tourref2_Big_Cmp k a b = some (cmpI x y) := by
  unfold tourref2_Big_Cmp
  rw [BBelow k ha hx, BBelow k hb hy]
  simp only [bnd_some]
  have hl := Cmp_loop k ha.1 hb.1 8 k (by decide) (by omega)
  have e7 : (((8 : Nat) : Int) - 1) = 7 := by decide
  rw [e7] at hl
  rw [hl]
  have e0 : Ty.eqb T4 (decide (x < 0)) (decide (y < 0)) = (decide (x < 0) == decide (y < 0)) := rfl
  rw [e0]
  unfold SR at *
  have h1 := ha.2
  have h2 := hb.2
  by_cases c1 : x < 0 <;> by_cases c2 : y < 0
  · simp only [c1, c2, decide_true, beq_self_eq_true, bif_true, bnd_some]
    rcases Int.lt_trichotomy x y with g | g | g
    · rw [cmpI_lt g, cmpS_lt (by omega)]; rfl
    · rw [cmpI_eq g, cmpS_eq (by omega)]; rfl
    · rw [cmpI_gt g, cmpS_gt (by omega)]; rfl
  · rw [cmpI_lt (by omega)]
    simp only [c1, c2, decide_true, decide_false]
    rfl
  · rw [cmpI_gt (by omega)]
    simp only [c1, c2, decide_true, decide_false]
    rfl
  · simp only [c1, c2, decide_false, beq_self_eq_true, bif_true, bnd_some]
    rcases Int.lt_trichotomy x y with g | g | g
    · rw [cmpI_lt g, cmpS_lt (by omega)]; rfl
    · rw [cmpI_eq g, cmpS_eq (by omega)]; rfl
    · rw [cmpI_gt g, cmpS_gt (by omega)]; rfl

/-- A whole number of 64 bits. -/
def I64 (x : Int) : Prop := -9223372036854775808 ≤ x ∧ x ≤ 9223372036854775807

theorem BDot {k : Nat} (hk : 9 ≤ k) {a b : V27} (h1 : I64 a.1) (h2 : I64 a.2.1) (h3 : I64 b.1) (h4 : I64 b.2.1) : ∃ c, tourref2_Dot k a b = some c ∧ BR c (a.1 * b.1 + a.2.1 * b.2.1) := by
  obtain ⟨y1, e1, r1⟩ := BOf hk h1.1 h1.2
  obtain ⟨y3, e3, r3⟩ := BOf hk h3.1 h3.2
  obtain ⟨y5, e5, r5⟩ := BMul hk r1 r3
  obtain ⟨y7, e7, r7⟩ := BOf hk h2.1 h2.2
  obtain ⟨y9, e9, r9⟩ := BOf hk h4.1 h4.2
  obtain ⟨y11, e11, r11⟩ := BMul hk r7 r9
  obtain ⟨y13, e13, r13⟩ := BAdd hk r5 r11
  exact ⟨y13, by unfold tourref2_Dot; rw [e1, bnd_some, e3, bnd_some, e5, bnd_some, e7, bnd_some, e9, bnd_some, e11, bnd_some, e13, bnd_some], r13⟩
theorem BCross {k : Nat} (hk : 9 ≤ k) {a b : V27} (h1 : I64 a.1) (h2 : I64 a.2.1) (h3 : I64 b.1) (h4 : I64 b.2.1) : ∃ c, tourref2_Cross k a b = some c ∧ BR c (a.1 * b.2.1 - a.2.1 * b.1) := by
  obtain ⟨y1, e1, r1⟩ := BOf hk h1.1 h1.2
  obtain ⟨y3, e3, r3⟩ := BOf hk h4.1 h4.2
  obtain ⟨y5, e5, r5⟩ := BMul hk r1 r3
  obtain ⟨y7, e7, r7⟩ := BOf hk h2.1 h2.2
  obtain ⟨y9, e9, r9⟩ := BOf hk h3.1 h3.2
  obtain ⟨y11, e11, r11⟩ := BMul hk r7 r9
  obtain ⟨y13, e13, r13⟩ := BSub hk r5 r11
  exact ⟨y13, by unfold tourref2_Cross; rw [e1, bnd_some, e3, bnd_some, e5, bnd_some, e7, bnd_some, e9, bnd_some, e11, bnd_some, e13, bnd_some], r13⟩

/-! Points within reach -/
def Wn (a : V27) : Prop := -65536000 ≤ a.1 ∧ a.1 ≤ 65536000 ∧ -65536000 ≤ a.2.1 ∧ a.2.1 ≤ 65536000
instance (a : V27) : Decidable (Wn a) := by unfold Wn; infer_instance
/-- Twice the area of a triangle. -/
def tri (a b p : V27) : Int := (b.1 - a.1) * (p.2.1 - a.2.1) - (b.2.1 - a.2.1) * (p.1 - a.1)

theorem mul_bd {x y M N : Int} (h1 : -M ≤ x) (h2 : x ≤ M) (h3 : -N ≤ y) (h4 : y ≤ N) : -(M * N) ≤ x * y ∧ x * y ≤ M * N := by
  have p1 : 0 ≤ (M - x) * (N - y) := Int.mul_nonneg (by omega) (by omega)
  have p2 : 0 ≤ (M + x) * (N + y) := Int.mul_nonneg (by omega) (by omega)
  have p3 : 0 ≤ (M - x) * (N + y) := Int.mul_nonneg (by omega) (by omega)
  have p4 : 0 ≤ (M + x) * (N - y) := Int.mul_nonneg (by omega) (by omega)
  have e1 : (M - x) * (N - y) = M * N - M * y - x * N + x * y := by grind
  have e2 : (M + x) * (N + y) = M * N + M * y + x * N + x * y := by grind
  have e3 : (M - x) * (N + y) = M * N + M * y - x * N - x * y := by grind
  have e4 : (M + x) * (N - y) = M * N - M * y + x * N - x * y := by grind
  omega

theorem within_eq (k : Nat) (a : V27) : poly_within k a = some (decide (Wn a)) := by
  unfold poly_within Wn
  by_cases h1 : a.1 ≥ -65536000 <;> by_cases h2 : a.1 ≤ 65536000 <;> by_cases h3 : a.2.1 ≥ -65536000 <;> by_cases h4 : a.2.1 ≤ 65536000 <;>
    simp [ige, ile, bif', h1, h2, h3, h4] <;> omega
theorem coord_eq (k : Nat) (a : V27) (m : Int) (h0 : 0 ≤ m) (h1 : m ≤ 9223372036854775807) : tourref2_coord k a m = some (decide (-m ≤ a.1 ∧ a.1 ≤ m ∧ -m ≤ a.2.1 ∧ a.2.1 ≤ m)) := by
  have e : ineg .i64 m = -m := by unfold ineg; rw [wrap_i64 (by omega) (by omega)]; omega
  unfold tourref2_coord
  rw [e]
  by_cases h1 : a.1 ≥ -m <;> by_cases h2 : a.1 ≤ m <;> by_cases h3 : a.2.1 ≥ -m <;> by_cases h4 : a.2.1 ≤ m <;>
    simp [ige, ile, bif', h1, h2, h3, h4] <;> omega

theorem tri_range {a b p : V27} (ha : Wn a) (hb : Wn b) (hp : Wn p) : -34359738368000000 ≤ tri a b p ∧ tri a b p ≤ 34359738368000000 := by
  unfold tri Wn at *
  have h1 := mul_bd (x := b.1 - a.1) (y := p.2.1 - a.2.1) (M := 131072000) (N := 131072000) (by omega) (by omega) (by omega) (by omega)
  have h2 := mul_bd (x := b.2.1 - a.2.1) (y := p.1 - a.1) (M := 131072000) (N := 131072000) (by omega) (by omega) (by omega) (by omega)
  omega

theorem side_eq (k : Nat) {a b p : V27} (ha : Wn a) (hb : Wn b) (hp : Wn p) : poly_side k a b p = some (tri a b p) := by
  unfold poly_side tri Wn at *
  have h1 := mul_bd (x := b.1 - a.1) (y := p.2.1 - a.2.1) (M := 131072000) (N := 131072000) (by omega) (by omega) (by omega) (by omega)
  have h2 := mul_bd (x := b.2.1 - a.2.1) (y := p.1 - a.1) (M := 131072000) (N := 131072000) (by omega) (by omega) (by omega) (by omega)
  rw [isub_i64 (x := b.1) (by omega) (by omega), isub_i64 (x := b.2.1) (by omega) (by omega), isub_i64 (x := p.1) (by omega) (by omega), isub_i64 (x := p.2.1) (by omega) (by omega)]
  rw [imul_i64 (by omega) (by omega), imul_i64 (by omega) (by omega), isub_i64 (by omega) (by omega)]

theorem left_eq {k : Nat} (hk : 9 ≤ k) {a b p : V27} (ha : Wn a) (hb : Wn b) (hp : Wn p) : tourref2_left k a b p = some (cmpI (tri a b p) 0) := by
  have ht := tri_range ha hb hp
  unfold Wn at *
  have e1 : tourref2_sub k b a = some (b.1 - a.1, b.2.1 - a.2.1, ()) := by
    unfold tourref2_sub
    rw [isub_i64 (by omega) (by omega), isub_i64 (by omega) (by omega)]
  have e2 : tourref2_sub k p a = some (p.1 - a.1, p.2.1 - a.2.1, ()) := by
    unfold tourref2_sub
    rw [isub_i64 (by omega) (by omega), isub_i64 (by omega) (by omega)]
  obtain ⟨c, e3, r⟩ := BCross hk (a := (b.1 - a.1, b.2.1 - a.2.1, ())) (b := (p.1 - a.1, p.2.1 - a.2.1, ())) (by unfold I64; dsimp only; omega) (by unfold I64; dsimp only; omega) (by unfold I64; dsimp only; omega) (by unfold I64; dsimp only; omega)
  unfold tourref2_left
  rw [e1, bnd_some, e2, bnd_some, e3, bnd_some, BCmp hk r BR_zero (by unfold SR; unfold tri at ht; dsimp only; omega) (by unfold SR; omega), bnd_some]
  rfl

theorem WCmp_eq (k : Nat) {a b : V154} (ha : WOk a) (hb : WOk b) : poly_Wide_Cmp k a b = some (cmpI (wv a) (wv b)) := by
  unfold poly_Wide_Cmp poly_Wide_Cmp.c1
  rw [eqb40]
  obtain ⟨a1, a2, u⟩ := a
  obtain ⟨b1, b2, u'⟩ := b
  by_cases h : ((a1, a2, u) : V154) = (b1, b2, u')
  · cases h
    simp [cmpI, bif']
  · have h' : ¬ (a1 = b1 ∧ a2 = b2) := fun e => h (by obtain ⟨e1, e2⟩ := e; subst e1 e2; rfl)
    simp only [h, decide_false, bif_false]
    have hwa : wv (a1, a2, u) = a1 * 18446744073709551616 + a2 := rfl
    have hwb : wv (b1, b2, u') = b1 * 18446744073709551616 + b2 := rfl
    simp only [WOk] at ha hb
    by_cases c1 : a1 < b1
    · have : ilt a1 b1 = true := by simp [ilt, c1]
      rw [this, bif_true, bnd_some, bif_true, cmpI_lt (by omega)]
    · have : ilt a1 b1 = false := by simp [ilt, c1]
      rw [this, bif_false]
      by_cases c2 : a1 = b1
      · have : ieq a1 b1 = true := by simp [ieq, c2]
        rw [this, bif_true, bnd_some]
        by_cases c3 : a2 < b2
        · have : ilt a2 b2 = true := by simp [ilt, c3]
          rw [this, bif_true, cmpI_lt (by omega)]
        · have : ilt a2 b2 = false := by simp [ilt, c3]
          rw [this, bif_false, cmpI_gt (by omega)]
      · have : ieq a1 b1 = false := by simp [ieq, c2]
        rw [this, bif_false, bnd_some, bif_false, cmpI_gt (by omega)]
end Go.Proofs.T1
namespace Go.Proofs.T1
open Go Go.Sx

theorem inL_of {α : Type} {v : Int} {l : List α} (h0 : 0 ≤ v) (h1 : v < len l) : inL v l := ⟨h0, h1⟩
theorem ilt_pos {a b : Int} (h : a < b) : ilt a b = true := decide_eq_true h
theorem ilt_neg {a b : Int} (h : b ≤ a) : ilt a b = false := decide_eq_false (by omega)
theorem ile_pos {a b : Int} (h : a ≤ b) : ile a b = true := decide_eq_true h
theorem ile_neg {a b : Int} (h : b < a) : ile a b = false := decide_eq_false (by omega)
theorem igt_pos {a b : Int} (h : a > b) : igt a b = true := decide_eq_true h
theorem igt_neg {a b : Int} (h : a ≤ b) : igt a b = false := decide_eq_false (by omega)
theorem ige_pos {a b : Int} (h : a ≥ b) : ige a b = true := decide_eq_true h
theorem ige_neg {a b : Int} (h : a < b) : ige a b = false := decide_eq_false (by omega)
theorem ine_pos {a b : Int} (h : ¬ a = b) : ine a b = true := decide_eq_true h
theorem ine_neg {a b : Int} (h : a = b) : ine a b = false := decide_eq_false (fun g => g h)
theorem ieq_pos {a b : Int} (h : a = b) : ieq a b = true := decide_eq_true h
theorem ieq_neg {a b : Int} (h : ¬ a = b) : ieq a b = false := decide_eq_false h

/-- The corner with a number, and the number behind a number. -/
def q (l : List V27) (i : Int) : V27 := el Z27 l i
def nx (n i : Int) : Int := if i + 1 = n then 0 else i + 1
theorem nx_range {n i : Int} (h0 : 0 ≤ i) (h1 : i < n) : 0 ≤ nx n i ∧ nx n i < n := by unfold nx; split <;> omega
theorem irem_nx {n i : Int} (h0 : 0 ≤ i) (h1 : i < n) (h2 : n ≤ 1000) : irem (iadd .i64 i 1) n = nx n i := by
  rw [iadd_i64 (by omega) (by omega)]
  unfold irem nx
  rw [Int.tmod_eq_emod_of_nonneg (by omega)]
  split
  · rename_i h; rw [h, Int.emod_self]
  · exact Int.emod_eq_of_lt (by omega) (by omega)

def AllW (l : List V27) : Prop := ∀ i, 0 ≤ i → i < len l → Wn (q l i)
def EdgeP (l : List V27) : Prop := ∀ i j, 0 ≤ i → i < len l → 0 ≤ j → j < len l → j ≠ i → j ≠ nx (len l) i → 0 < tri (q l i) (q l (nx (len l) i)) (q l j)
def TripP (l : List V27) : Prop := ∀ i j m, 0 ≤ i → i < j → j < m → m < len l → 0 < tri (q l i) (q l j) (q l m)

theorem tri_cyc (a b c : V27) : tri a b c = tri b c a := by unfold tri; grind
theorem tri_self (a b : V27) : tri a b b = 0 := by unfold tri; grind
theorem tri_self2 (a b : V27) : tri a b a = 0 := by unfold tri; grind
theorem tri_swap (a b c : V27) : tri b a c = - tri a b c := by unfold tri; grind
theorem tri_gp (a u x y z : V27) : tri a u y * tri a x z = tri a u x * tri a y z + tri a u z * tri a x y := by unfold tri; grind
theorem tri_bary (a b p x y z : V27) : tri a b p * tri x y z = tri a b x * tri p y z + tri a b y * tri x p z + tri a b z * tri x y p := by unfold tri; grind

theorem pos_of_mul {a b : Int} (hb : 0 < b) (h : 0 < b * a) : 0 < a := by
  rcases Int.lt_or_le 0 a with g | g
  · exact g
  · have : b * a ≤ b * 0 := Int.mul_le_mul_of_nonneg_left g (by omega)
    omega
theorem nn_of_mul {a b : Int} (hb : 0 < b) (h : 0 ≤ b * a) : 0 ≤ a := by
  rcases Int.lt_or_le a 0 with g | g
  · have : b * a ≤ b * (-1) := Int.mul_le_mul_of_nonneg_left (by omega) (by omega)
    omega
  · exact g

theorem Edge_Trip {l : List V27} (he : EdgeP l) : TripP l := by
  have H : ∀ (d : Nat) (i j : Int), 0 ≤ i → i < j → j + 1 + d < len l → 0 < tri (q l i) (q l j) (q l (j + 1 + d)) := by
    intro d
    induction d with
    | zero =>
      intro i j h0 h1 h2
      have h := he j i (by omega) (by omega) (by omega) (by omega) (by omega) (by unfold nx; split <;> omega)
      have hn : nx (len l) j = j + 1 := by unfold nx; split <;> omega
      rw [hn] at h
      rw [tri_cyc]
      simpa using h
    | succ d ih =>
      intro i j h0 h1 h2
      have hij : nx (len l) i = i + 1 := by unfold nx; split <;> omega
      have e1 : j + 1 + ((d + 1 : Nat) : Int) = (j + 1 + d) + 1 := by omega
      by_cases hj : j = i + 1
      · have h := he i (j + 1 + ((d + 1 : Nat) : Int)) (by omega) (by omega) (by omega) (by omega) (by omega) (by rw [hij]; omega)
        rw [hij] at h
        rw [hj] at h ⊢
        exact h
      · have a1 := ih i j h0 h1 (by omega)
        have hn : nx (len l) (j + 1 + d) = j + 1 + d + 1 := by unfold nx; split <;> omega
        have a2 := he (j + 1 + d) i (by omega) (by omega) (by omega) (by omega) (by omega) (by rw [hn]; omega)
        have a3 := he i j (by omega) (by omega) (by omega) (by omega) (by omega) (by rw [hij]; omega)
        have a4 := he i (j + 1 + d) (by omega) (by omega) (by omega) (by omega) (by omega) (by rw [hij]; omega)
        have a5 := he i (j + 1 + d + 1) (by omega) (by omega) (by omega) (by omega) (by omega) (by rw [hij]; omega)
        rw [hn, ← tri_cyc] at a2
        rw [hij] at a3 a4 a5
        rw [e1]
        refine pos_of_mul a4 ?_
        rw [tri_gp]
        have p1 := Int.mul_pos a3 a2
        have p2 := Int.mul_pos a5 a1
        omega
  intro i j m h0 h1 h2 h3
  have := H (m - j - 1).toNat i j h0 h1 (by omega)
  rwa [show j + 1 + ((m - j - 1).toNat : Int) = m by omega] at this

theorem Trip_Edge {l : List V27} (ht : TripP l) : EdgeP l := by
  intro i j h0 h1 h2 h3 h4 h5
  unfold nx at *
  split
  · rename_i h
    rw [if_pos h] at h5
    rw [tri_cyc]
    exact ht 0 j i (by omega) (by omega) (by omega) (by omega)
  · rename_i h
    rw [if_neg h] at h5
    rcases Int.lt_or_le j i with g | g
    · rw [← tri_cyc]
      exact ht j i (i + 1) (by omega) (by omega) (by omega) (by omega)
    · exact ht i (i + 1) j (by omega) (by omega) (by omega) (by omega)

/-! A point in a polygon -/
def InP (l : List V27) (p : V27) : Prop := ∀ i, 0 ≤ i → i < len l → 0 ≤ tri (q l i) (q l (nx (len l) i)) p
def FanP (l : List V27) (p : V27) : Prop := ∃ i, 2 ≤ i ∧ i < len l ∧ 0 ≤ tri (q l 0) (q l (i - 1)) p ∧ 0 ≤ tri (q l (i - 1)) (q l i) p ∧ 0 ≤ tri (q l i) (q l 0) p

theorem Edge_nn {l : List V27} (he : EdgeP l) (i j : Int) (h0 : 0 ≤ i) (h1 : i < len l) (h2 : 0 ≤ j) (h3 : j < len l) : 0 ≤ tri (q l i) (q l (nx (len l) i)) (q l j) := by
  by_cases a : j = i
  · subst a
    rw [tri_self2]
    decide
  · by_cases b : j = nx (len l) i
    · rw [← b, tri_self]
      decide
    · exact Int.le_of_lt (he i j h0 h1 h2 h3 a b)

theorem Fan_In {l : List V27} (he : EdgeP l) {p : V27} (h : FanP l p) : InP l p := by
  obtain ⟨i, h1, h2, a, b, c⟩ := h
  have ht := Edge_Trip he 0 (i - 1) i (by omega) (by omega) (by omega) (by omega)
  intro j j0 j1
  refine nn_of_mul ht ?_
  rw [Int.mul_comm, tri_bary]
  have e1 := Edge_nn he j 0 j0 j1 (by omega) (by omega)
  have e2 := Edge_nn he j (i - 1) j0 j1 (by omega) (by omega)
  have e3 := Edge_nn he j i j0 j1 (by omega) (by omega)
  have b' : 0 ≤ tri p (q l (i - 1)) (q l i) := by rw [tri_cyc]; exact b
  have c' : 0 ≤ tri (q l 0) p (q l i) := by rw [← tri_cyc]; exact c
  have p1 := Int.mul_nonneg e1 b'
  have p2 := Int.mul_nonneg e2 c'
  have p3 := Int.mul_nonneg e3 a
  omega

theorem In_Fan {l : List V27} (hl : 3 ≤ len l) {p : V27} (h : InP l p) : FanP l p := by
  -- the first corner from 2 on that has the point not to its left, seen from corner 0
  have H : ∀ (d : Nat) (i : Int), i = len l - 1 - d → 2 ≤ i → 0 ≤ tri (q l 0) (q l (i - 1)) p → FanP l p := by
    intro d
    induction d with
    | zero =>
      intro i hi h2 ha
      have e := h (len l - 1) (by omega) (by omega)
      have hn : nx (len l) (len l - 1) = 0 := by unfold nx; split <;> omega
      have e' := h (i - 1) (by omega) (by omega)
      have hn' : nx (len l) (i - 1) = i := by unfold nx; split <;> omega
      rw [hn] at e
      rw [hn'] at e'
      have : len l - 1 = i := by omega
      rw [this] at e
      exact ⟨i, h2, by omega, ha, e', e⟩
    | succ d ih =>
      intro i hi h2 ha
      by_cases c : 0 ≤ tri (q l i) (q l 0) p
      · have e' := h (i - 1) (by omega) (by omega)
        have hn' : nx (len l) (i - 1) = i := by unfold nx; split <;> omega
        rw [hn'] at e'
        exact ⟨i, h2, by omega, ha, e', c⟩
      · refine ih (i + 1) (by omega) (by omega) ?_
        rw [show i + 1 - 1 = i by omega]
        rw [tri_swap] at c
        omega
  refine H (len l - 3).toNat 2 (by omega) (by omega) ?_
  have e := h 0 (by omega) (by omega)
  have hn : nx (len l) 0 = 1 := by unfold nx; split <;> omega
  rw [hn] at e
  exact e
end Go.Proofs.T1
namespace Go.Proofs.T1
open Go Go.Sx

/-! slices.ContainsFunc of points -/
theorem Contains_no {k : Nat} {l : List V27} (hl : len l ≤ 1000) (hk : len l < k) {f : (V27 × Unit) → Option Bool} {g : V27 → Bool} (hf : ∀ x, f (x, ()) = some (g x))
    : slices_ContainsFunc k l f = some true ∧ (∃ i, 0 ≤ i ∧ i < len l ∧ g (q l i) = true) ∨ slices_ContainsFunc k l f = some false ∧ (∀ i, 0 ≤ i → i < len l → ¬ g (q l i) = true) := by
  have H := find_loop (fun n v => slices_IndexFunc.c1 k l f n v) 0 (len l) (fun v => g (q l v) = true) (fun v => v)
    (by
      intro n v h0 h1 h2
      show slices_IndexFunc.c1 k l f (n + 1) v = _
      rw [slices_IndexFunc.c1, ilt_pos h1, bif_true, req_pos (inL_of h0 h1), hf, bnd_some]
      show bif' (g (q l v)) _ _ = _
      rw [h2, bif_true])
    (by
      intro n v h0 h1 h2
      show slices_IndexFunc.c1 k l f (n + 1) v = slices_IndexFunc.c1 k l f n (v + 1)
      rw [slices_IndexFunc.c1, ilt_pos h1, bif_true, req_pos (inL_of h0 h1), hf, bnd_some]
      show bif' (g (q l v)) _ _ = _
      rw [Bool.not_eq_true] at h2
      rw [h2, bif_false, iadd_i64 (by omega) (by omega)])
    (by
      intro n v h0 h1
      show slices_IndexFunc.c1 k l f (n + 1) v = _
      rw [slices_IndexFunc.c1, ilt_neg h1, bif_false])
    k 0 (by omega) (by omega)
  have hk0 : 0 < k := by unfold len at hk; omega
  rcases H with ⟨j, a, b, c, _, e⟩ | ⟨a, e⟩
  · refine Or.inl ⟨?_, j, a, b, c⟩
    unfold slices_ContainsFunc slices_IndexFunc
    have e : slices_IndexFunc.c1 k l f k 0 = some (.inl j) := e
    rw [e, bnd_some, two_inl, bnd_some, ige_pos (by omega)]
  · refine Or.inr ⟨?_, a⟩
    unfold slices_ContainsFunc slices_IndexFunc
    have e : slices_IndexFunc.c1 k l f k 0 = some (.inr ()) := e hk0
    rw [e, bnd_some, two_inr, bnd_some]
    rfl

/-- What Check answers. -/
def Chk (l : List V27) (e : Int) : Prop :=
  (len l > 8 ∧ e = 2) ∨ (len l < 3 ∧ e = 3) ∨ (3 ≤ len l ∧ len l ≤ 8 ∧ ¬ AllW l ∧ e = 1) ∨
  (3 ≤ len l ∧ len l ≤ 8 ∧ AllW l ∧ ¬ EdgeP l ∧ e = 3) ∨ (3 ≤ len l ∧ len l ≤ 8 ∧ AllW l ∧ EdgeP l ∧ e = 0)

theorem Chk_uniq {l : List V27} {e f : Int} (h : Chk l e) (g : Chk l f) : e = f := by
  unfold Chk at *
  rcases h with h | h | h | h | h <;> rcases g with g | g | g | g | g <;> first | omega | (exact absurd h.2.2.1 g.2.2.1) | (exact absurd g.2.2.1 h.2.2.1) | (exact absurd h.2.2.2.1 g.2.2.2.1) | (exact absurd g.2.2.2.1 h.2.2.2.1)

theorem Check_c3 (k : Nat) {l : List V27} (hl : len l ≤ 8) (hw : AllW l) {i j : Int} (h0 : 0 ≤ i) (h1 : i < len l) (h2 : 0 ≤ j) (h3 : j < len l) :
    poly_Check.c3 k l i j = some (decide (j ≠ i ∧ j ≠ nx (len l) i ∧ tri (q l i) (q l (nx (len l) i)) (q l j) ≤ 0)) := by
  have hn := nx_range h0 h1
  have hz : nz (len l) := by unfold nz; omega
  unfold poly_Check.c3
  rw [irem_nx h0 h1 (by omega)]
  have hs : poly_side k (el Z27 l i) (el Z27 l (nx (len l) i)) (el Z27 l j) = some (tri (q l i) (q l (nx (len l) i)) (q l j)) := side_eq k (hw i h0 h1) (hw _ hn.1 hn.2) (hw j h2 h3)
  rw [hs, req_pos hz, bnd_some]
  by_cases a : j = i
  · rw [ine_neg a, bif_false]; simp [a]
  · rw [ine_pos a, bif_true]
    by_cases b : j = nx (len l) i
    · rw [ine_neg b, bif_false]
      have : ¬ (j ≠ i ∧ j ≠ nx (len l) i ∧ tri (q l i) (q l (nx (len l) i)) (q l j) ≤ 0) := fun h => h.2.1 b
      rw [decide_eq_false this]
    · rw [ine_pos b, bif_true]
      unfold ile
      congr 1
      rw [decide_eq_decide]
      exact ⟨fun h => ⟨a, b, h⟩, fun h => h.2.2⟩

theorem Check_c2 {k : Nat} {l : List V27} (hl : len l ≤ 8) (hk : 9 ≤ k) (hw : AllW l) {i : Int} (h0 : 0 ≤ i) (h1 : i < len l) :
    (poly_Check.c2 k l i k 0 = some (.inl ()) ∧ ∃ j, 0 ≤ j ∧ j < len l ∧ (j ≠ i ∧ j ≠ nx (len l) i ∧ tri (q l i) (q l (nx (len l) i)) (q l j) ≤ 0)) ∨
    (poly_Check.c2 k l i k 0 = some (.inr ()) ∧ ∀ j, 0 ≤ j → j < len l → ¬ (j ≠ i ∧ j ≠ nx (len l) i ∧ tri (q l i) (q l (nx (len l) i)) (q l j) ≤ 0)) := by
  have H := find_loop (fun n v => poly_Check.c2 k l i n v) 0 (len l) (fun j => j ≠ i ∧ j ≠ nx (len l) i ∧ tri (q l i) (q l (nx (len l) i)) (q l j) ≤ 0) (fun _ => ())
    (by
      intro n v h2 h3 h4
      show poly_Check.c2 k l i (n + 1) v = _
      rw [poly_Check.c2, ilt_pos h3, bif_true, req_pos (inL_of h2 h3), Check_c3 k hl hw h0 h1 h2 h3, bnd_some, decide_eq_true h4, bif_true])
    (by
      intro n v h2 h3 h4
      show poly_Check.c2 k l i (n + 1) v = poly_Check.c2 k l i n (v + 1)
      rw [poly_Check.c2, ilt_pos h3, bif_true, req_pos (inL_of h2 h3), Check_c3 k hl hw h0 h1 h2 h3, bnd_some, decide_eq_false h4, bif_false, iadd_i64 (by omega) (by omega)])
    (by
      intro n v h2 h3
      show poly_Check.c2 k l i (n + 1) v = _
      rw [poly_Check.c2, ilt_neg h3, bif_false])
    k 0 (by omega) (by omega)
  rcases H with ⟨j, a, b, c, _, e⟩ | ⟨a, e⟩
  · exact Or.inl ⟨e, j, a, b, c⟩
  · exact Or.inr ⟨e (by omega), a⟩

theorem Check_eq {k : Nat} (hk : 9 ≤ k) (l : List V27) : ∃ e, poly_Check k l = some e ∧ Chk l e := by
  unfold poly_Check
  by_cases c1 : len l > 8
  · rw [igt_pos c1, bif_true]
    exact ⟨2, rfl, Or.inl ⟨c1, rfl⟩⟩
  rw [igt_neg (by omega), bif_false]
  by_cases c2 : len l < 3
  · rw [ilt_pos c2, bif_true]
    exact ⟨3, rfl, Or.inr (Or.inl ⟨c2, rfl⟩)⟩
  rw [ilt_neg (by omega), bif_false]
  have hf : ∀ x : V27, (fun x : (V27 × Unit) => poly_Check_1 k (x.1)) (x, ()) = some (!decide (Wn x)) := by
    intro x
    show poly_Check_1 k x = _
    unfold poly_Check_1
    rw [within_eq, bnd_some]
  rcases Contains_no (l := l) (k := k) (f := fun x : (V27 × Unit) => poly_Check_1 k (x.1)) (by omega) (by omega) (g := fun x => !decide (Wn x)) hf with ⟨h, i, h0, h1, h2⟩ | ⟨h, h2⟩
  · rw [h, bnd_some, bif_true]
    refine ⟨1, rfl, Or.inr (Or.inr (Or.inl ⟨by omega, by omega, ?_, rfl⟩))⟩
    intro ha
    have := ha i h0 h1
    simp [this] at h2
  rw [h, bnd_some, bif_false]
  have hw : AllW l := by
    intro i h0 h1
    have := h2 i h0 h1
    simpa using this
  have H := find_loop (fun n v => poly_Check.c1 k l n v) 0 (len l) (fun i => ∃ j, 0 ≤ j ∧ j < len l ∧ (j ≠ i ∧ j ≠ nx (len l) i ∧ tri (q l i) (q l (nx (len l) i)) (q l j) ≤ 0)) (fun _ => ())
    (by
      intro n v h2 h3 h4
      show poly_Check.c1 k l (n + 1) v = _
      have hn := nx_range h2 h3
      rw [poly_Check.c1, ilt_pos h3, bif_true, req_pos (inL_of h2 h3), req_pos (show nz (len l) by unfold nz; omega), irem_nx h2 h3 (by omega), req_pos (inL_of hn.1 hn.2)]
      rcases Check_c2 (k := k) (by omega) hk hw h2 h3 with ⟨e, _⟩ | ⟨_, e⟩
      · rw [e, bnd_some, two_inl]
      · obtain ⟨j, a, b, c⟩ := h4
        exact absurd c (e j a b))
    (by
      intro n v h2 h3 h4
      show poly_Check.c1 k l (n + 1) v = poly_Check.c1 k l n (v + 1)
      have hn := nx_range h2 h3
      rw [poly_Check.c1, ilt_pos h3, bif_true, req_pos (inL_of h2 h3), req_pos (show nz (len l) by unfold nz; omega), irem_nx h2 h3 (by omega), req_pos (inL_of hn.1 hn.2)]
      rcases Check_c2 (k := k) (by omega) hk hw h2 h3 with ⟨_, e⟩ | ⟨e, _⟩
      · exact absurd e h4
      · rw [e, bnd_some, two_inr, iadd_i64 (by omega) (by omega)])
    (by
      intro n v h2 h3
      show poly_Check.c1 k l (n + 1) v = _
      rw [poly_Check.c1, ilt_neg h3, bif_false])
    k 0 (by omega) (by omega)
  rcases H with ⟨i, a, b, ⟨j, c, d, f⟩, _, e⟩ | ⟨a, e⟩
  · have e : poly_Check.c1 k l k 0 = some (.inl ()) := e
    rw [e, bnd_some, two_inl]
    refine ⟨3, rfl, Or.inr (Or.inr (Or.inr (Or.inl ⟨by omega, by omega, hw, ?_, rfl⟩)))⟩
    intro he
    have := he i j a b c d f.1 f.2.1
    omega
  · have e : poly_Check.c1 k l k 0 = some (.inr ()) := e (by omega)
    rw [e, bnd_some, two_inr]
    refine ⟨0, rfl, Or.inr (Or.inr (Or.inr (Or.inr ⟨by omega, by omega, hw, ?_, rfl⟩)))⟩
    intro i j h0 h1 h2 h3 h4 h5
    rcases Int.lt_or_le 0 (tri (q l i) (q l (nx (len l) i)) (q l j)) with g | g
    · exact g
    · exact absurd ⟨j, h2, h3, h4, h5, g⟩ (a i h0 h1)

/-! The reference's check -/
end Go.Proofs.T1
namespace Go.Proofs.T1
open Go Go.Sx

/-! Area -/
def cr (a b : V27) : Int := a.1 * b.2.1 - a.2.1 * b.1
def shn (l : List V27) : Nat → Int
  | 0 => 0
  | n + 1 => shn l n + cr (q l n) (q l (n + 1))
/-- What is left of the shoelace, up to corner v. -/
def sh (l : List V27) (v : Int) : Int := shn l v.toNat
theorem sh_zero (l : List V27) : sh l 0 = 0 := rfl
theorem sh_succ (l : List V27) {v : Int} (h : 0 ≤ v) : sh l (v + 1) = sh l v + cr (q l v) (q l (v + 1)) := by
  obtain ⟨n, rfl⟩ := Int.eq_ofNat_of_zero_le h
  rfl
/-- Twice the area. -/
def area (l : List V27) : Int := sh l (len l - 1) + cr (q l (len l - 1)) (q l 0)

theorem Area_c1 {k : Nat} {l : List V27} (hk : 9 ≤ k) (h3 : 3 ≤ len l) (hl : len l ≤ 8) (hw : AllW l) : poly_Area.c1 k l k 0 2 = some (area l) := by
  have H := inv_loop (fun n s v => poly_Area.c1 k l n s v) 2 (len l) (fun s v => s = sh l (v - 1) + cr (q l (v - 1)) (q l 0) ∧ -(v * 34359738368000000) ≤ s ∧ s ≤ v * 34359738368000000)
    (by
      intro n s v a b ⟨c, d, e⟩
      have hs : poly_side k (el Z27 l 0) (el Z27 l (isub .i64 v 1)) (el Z27 l v) = some (tri (q l 0) (q l (v - 1)) (q l v)) := by
        rw [isub_i64 (by omega) (by omega)]
        exact side_eq k (hw 0 (by omega) (by omega)) (hw (v - 1) (by omega) (by omega)) (hw v (by omega) b)
      have ht := tri_range (hw 0 (by omega) (by omega)) (hw (v - 1) (by omega) (by omega)) (hw v (by omega) b)
      refine ⟨s + tri (q l 0) (q l (v - 1)) (q l v), ⟨?_, by omega, by omega⟩, ?_⟩
      · have e1 := sh_succ l (v := v - 1) (by omega)
        rw [show v - 1 + 1 = v by omega] at e1
        rw [show v + 1 - 1 = v by omega, e1, c]
        unfold tri cr
        grind
      · show poly_Area.c1 k l (n + 1) s v = poly_Area.c1 k l n (s + tri (q l 0) (q l (v - 1)) (q l v)) (v + 1)
        rw [poly_Area.c1, ilt_pos b, bif_true, hs, bnd_some, req_pos (inL_of (by omega) (by omega)), isub_i64 (by omega) (by omega), req_pos (inL_of (by omega) (by omega)), req_pos (inL_of (by omega) b), iadd_i64 (by omega) (by omega), iadd_i64 (by omega) (by omega)])
    (by
      intro n s v a b
      show poly_Area.c1 k l (n + 1) s v = some s
      rw [poly_Area.c1, ilt_neg b, bif_false])
    k 0 2 (by omega) (by omega) (by omega) ⟨by
      have e1 := sh_succ l (v := 0) (by omega)
      rw [show (2 : Int) - 1 = 1 by decide, show (1 : Int) = 0 + 1 by decide, e1, sh_zero]
      unfold cr
      grind, by decide, by decide⟩
  obtain ⟨s, ⟨a, _⟩, b⟩ := H
  have b : poly_Area.c1 k l k 0 2 = some s := b
  rw [b, a]
  rfl

theorem Area_eq {k : Nat} (hk : 9 ≤ k) (l : List V27) : ∃ e, Chk l e ∧ poly_Area k l = some (if e = 0 then area l else 0, e) := by
  obtain ⟨e, h1, h2⟩ := Check_eq hk l
  refine ⟨e, h2, ?_⟩
  unfold poly_Area
  rw [h1, bnd_some]
  by_cases he : e = 0
  · rw [ine_neg he, bif_false, if_pos he]
    have h2 : 3 ≤ len l ∧ len l ≤ 8 ∧ AllW l := by
      unfold Chk at h2
      rcases h2 with h | h | h | h | h
      · omega
      · omega
      · omega
      · omega
      · exact ⟨h.1, h.2.1, h.2.2.1⟩
    rw [Area_c1 hk h2.1 h2.2.1 h2.2.2, bnd_some, he]
  · rw [ine_pos he, bif_true, if_neg he]

/-- A valid polygon. -/
def Val (l : List V27) : Prop := 3 ≤ len l ∧ len l ≤ 8 ∧ AllW l ∧ EdgeP l
theorem Chk_zero {l : List V27} (h : Chk l 0) : Val l := by
  unfold Chk at h
  rcases h with h | h | h | h | h
  · omega
  · omega
  · omega
  · omega
  · exact ⟨h.1, h.2.1, h.2.2.1, h.2.2.2.1⟩
theorem Val_chk {l : List V27} (h : Val l) : Chk l 0 := Or.inr (Or.inr (Or.inr (Or.inr ⟨h.1, h.2.1, h.2.2.1, h.2.2.2, rfl⟩)))
theorem Check_val {k : Nat} (hk : 9 ≤ k) {l : List V27} (h : Val l) : poly_Check k l = some 0 := by
  obtain ⟨e, h1, h2⟩ := Check_eq hk l
  rw [h1, Chk_uniq h2 (Val_chk h)]

/-! Has -/
theorem Has_bad {k : Nat} (hk : 9 ≤ k) {l : List V27} {e : Int} (h : Chk l e) (he : e ≠ 0) (p : V27) : poly_Has k l p = some false := by
  obtain ⟨e', h1, h2⟩ := Check_eq hk l
  have := Chk_uniq h2 h
  subst this
  unfold poly_Has poly_Has.c1
  rw [h1, bnd_some, ine_pos he, bif_true, bnd_some, bif_true]

open Classical in
theorem Has_val {k : Nat} (hk : 9 ≤ k) {l : List V27} (hv : Val l) (p : V27) : poly_Has k l p = some (decide (Wn p ∧ InP l p)) := by
  unfold poly_Has poly_Has.c1
  rw [Check_val hk hv, bnd_some, ine_neg rfl, bif_false, within_eq, bnd_some, bnd_some]
  by_cases hp : Wn p
  · rw [decide_eq_true hp]
    show bif' false _ _ = _
    rw [bif_false]
    have hs : ∀ v, 0 ≤ v → v < len l → poly_side k (el Z27 l v) (el Z27 l (nx (len l) v)) p = some (tri (q l v) (q l (nx (len l) v)) p) := by
      intro v a b
      have hn := nx_range a b
      exact side_eq k (hv.2.2.1 v a b) (hv.2.2.1 _ hn.1 hn.2) hp
    have h8 := hv.2.1
    have H := find_loop (fun n v => poly_Has.c2 k l p n v) 0 (len l) (fun v => tri (q l v) (q l (nx (len l) v)) p < 0) (fun _ => ())
      (by
        intro n v a b c
        have hn := nx_range a b
        show poly_Has.c2 k l p (n + 1) v = _
        rw [poly_Has.c2, ilt_pos b, bif_true, req_pos (inL_of a b), req_pos (show nz (len l) by unfold nz; omega), irem_nx a b (by omega), req_pos (inL_of hn.1 hn.2), hs v a b, bnd_some, ilt_pos c, bif_true])
      (by
        intro n v a b c
        have hn := nx_range a b
        show poly_Has.c2 k l p (n + 1) v = poly_Has.c2 k l p n (v + 1)
        rw [poly_Has.c2, ilt_pos b, bif_true, req_pos (inL_of a b), req_pos (show nz (len l) by unfold nz; omega), irem_nx a b (by omega), req_pos (inL_of hn.1 hn.2), hs v a b, bnd_some, ilt_neg (by omega), bif_false, iadd_i64 (by omega) (by omega)])
      (by
        intro n v a b
        show poly_Has.c2 k l p (n + 1) v = _
        rw [poly_Has.c2, ilt_neg b, bif_false])
      k 0 (by omega) (by omega)
    rcases H with ⟨i, a, b, c, _, e⟩ | ⟨a, e⟩
    · have e : poly_Has.c2 k l p k 0 = some (.inl ()) := e
      rw [e, bnd_some, two_inl, decide_eq_false]
      intro h
      have := h.2 i a b
      omega
    · have e : poly_Has.c2 k l p k 0 = some (.inr ()) := e (by omega)
      rw [e, bnd_some, two_inr, decide_eq_true]
      refine ⟨hp, fun i x y => ?_⟩
      have := a i x y
      omega
  · rw [decide_eq_false hp]
    show bif' true _ _ = _
    rw [bif_true, decide_eq_false (fun h => hp h.1)]

end Go.Proofs.T1
