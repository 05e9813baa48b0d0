/-
  Plain laws: no program in sight.
-/
import Derived.Test.YtddbhngnhegndaaPlSwap
import Derived.Test.YtddbhngnhegndaaG6
namespace Go.Proofs.T1
open Go Go.Sx

/-! The reference's meeting of two polygons -/
instance (x y : Int) : Decidable (Opp x y) := by unfold Opp; infer_instance
instance (a b p : V28) : Decidable (Box a b p) := by unfold Box; infer_instance
instance (a b p : V28) : Decidable (On a b p) := by unfold On; infer_instance
instance (a b c d : V28) : Decidable (CrP a b c d) := by unfold CrP; infer_instance
theorem opp_dec (x y : Int) : ilt (imul .i64 (cmpI x 0) (cmpI y 0)) 0 = decide (Opp x y) := by
  rcases Int.lt_trichotomy x 0 with a | a | a <;> rcases Int.lt_trichotomy y 0 with b | b | b <;>
    first
    | (rw [cmpI_lt a, cmpI_lt b, decide_eq_false (by unfold Opp; omega)]; decide)
    | (rw [cmpI_lt a, cmpI_eq b, decide_eq_false (by unfold Opp; omega)]; decide)
    | (rw [cmpI_lt a, cmpI_gt b, decide_eq_true (by unfold Opp; omega)]; decide)
    | (rw [cmpI_eq a, cmpI_lt b, decide_eq_false (by unfold Opp; omega)]; decide)
    | (rw [cmpI_eq a, cmpI_eq b, decide_eq_false (by unfold Opp; omega)]; decide)
    | (rw [cmpI_eq a, cmpI_gt b, decide_eq_false (by unfold Opp; omega)]; decide)
    | (rw [cmpI_gt a, cmpI_lt b, decide_eq_true (by unfold Opp; omega)]; decide)
    | (rw [cmpI_gt a, cmpI_eq b, decide_eq_false (by unfold Opp; omega)]; decide)
    | (rw [cmpI_gt a, cmpI_gt b, decide_eq_false (by unfold Opp; omega)]; decide)
theorem cmpI_zero (x : Int) : cmpI x 0 = 0 ↔ x = 0 := by
  rcases Int.lt_trichotomy x 0 with a | a | a
  · rw [cmpI_lt a]; omega
  · rw [cmpI_eq a]; omega
  · rw [cmpI_gt a]; omega
theorem cmpI_nn (x : Int) : ige (cmpI x 0) 0 = decide (0 ≤ x) := by
  rcases Int.lt_trichotomy x 0 with a | a | a
  · rw [cmpI_lt a, decide_eq_false (by omega)]; rfl
  · rw [cmpI_eq a, decide_eq_true (by omega)]; rfl
  · rw [cmpI_gt a, decide_eq_true (by omega)]; rfl
/-! The reference's axis -/
theorem rnd_mono {x y n : Int} (hn : 0 < n) (h : x ≤ y) : rnd x n ≤ rnd y n := Int.ediv_le_ediv (by omega) (by omega)
theorem rnd_nn {x n : Int} (hn : 0 < n) (h : 0 ≤ x) : 0 ≤ rnd x n := Int.ediv_nonneg (by omega) (by omega)
theorem wt_nn {a b : List V28} (ha : Val a) {i : Int} (i0 : 0 ≤ i) (i1 : i < len a) (h : 0 ≤ dp a b i) : 0 ≤ wt a b i := by
  obtain ⟨_, l0, _, _⟩ := Length_eq (k := 40) (by decide) ha i0 i1
  exact rnd_nn l0 h
/-! The law -/
theorem eqbP_self (s : Bool) (v : V28) : Ty.eqb (.pair T4 T28) (s, v) (s, v) = true := by
  show (Ty.eqb T4 s s && Ty.eqb T28 v v) = true
  rw [eqb24_self]
  cases s <;> rfl
end Go.Proofs.T1
namespace Go.Proofs.T1
open Go Go.Sx

/-! Quotients by negative numbers -/
theorem mag_neg (x : Int) : mag (-x) = mag x := by unfold mag; split <;> split <;> omega
theorem Over_neg {k : Nat} (hk : 2 ≤ k) {w : V63} (hw : WOk w) {n : Int} (hn : n < 0) (hn' : -9223372036854775807 ≤ n) : poly_Wide_Over k w n = some (fit (rnd (-(wv w)) (-n))) := by
  rw [Over_gen hk hw ⟨by omega, by omega⟩ (by omega), ← rnd_pos (x := -(wv w)) (n := -n) (by omega), mag_neg, mag_neg]
  by_cases h : wv w = 0
  · rw [h]
    have e : mag 0 = 0 := rfl
    rw [e, rndM_zero (by unfold mag; split <;> omega), rndM_zero (by unfold mag; split <;> omega)]
  · have e : (decide (wv w < 0) != decide (n < 0)) = (decide (-wv w < 0) != decide (-n < 0)) := by
      rw [decide_eq_true hn, decide_eq_false (show ¬ -n < 0 by omega)]
      by_cases c : wv w < 0
      · rw [decide_eq_true c, decide_eq_false (show ¬ -wv w < 0 by omega)]; rfl
      · rw [decide_eq_false c, decide_eq_true (show -wv w < 0 by omega)]; rfl
    rw [e]
theorem ineg_in {x : Int} (h : -4611686018427387904 ≤ x) (g : x ≤ 4611686018427387904) : ineg .i64 x = -x := by
  show IntKind.i64.wrap (0 - x) = -x
  rw [wrap_i64 (by omega) (by omega)]
  omega
/-! A point between two others -/
def qv (x n : Int) : Int := if 0 < n then rnd x n else rnd (-x) (-n)
theorem rnd_z {n : Int} (hn : 0 < n) : rnd 0 n = 0 := by
  unfold rnd
  exact Int.ediv_eq_zero_of_lt (by omega) (by omega)
theorem rnd_part {e A N : Int} (hN : 0 < N) (a0 : 0 ≤ A) (a1 : A ≤ N) : (0 ≤ e → 0 ≤ rnd (e * A) N ∧ rnd (e * A) N ≤ e) ∧ (e ≤ 0 → e ≤ rnd (e * A) N ∧ rnd (e * A) N ≤ 0) := by
  have full : rnd (N * e) N = e := by
    have := rnd_add (x := 0) (n := N) (c := e) hN
    rw [Int.zero_add, rnd_z hN, Int.zero_add] at this
    exact this
  constructor
  · intro h
    have g := Int.mul_le_mul_of_nonneg_left a1 h
    rw [Int.mul_comm e N] at g
    exact ⟨rnd_nn hN (Int.mul_nonneg h a0), by have := rnd_mono hN g; omega⟩
  · intro h
    have g : N * e ≤ e * A := by
      have := Int.mul_le_mul_of_nonneg_left a1 (show 0 ≤ -e by omega)
      rw [Int.neg_mul, Int.neg_mul] at this
      have := Int.mul_comm N e
      omega
    have z : e * A ≤ 0 := Int.mul_nonpos_of_nonpos_of_nonneg h a0
    have m1 := rnd_mono hN g
    have m2 := rnd_mono hN z
    rw [rnd_z hN] at m2
    omega
theorem qv_bd {e a b : Int} (h : (a < 0 ∧ 0 ≤ b) ∨ (b < 0 ∧ 0 ≤ a)) : (0 ≤ e → 0 ≤ qv (e * a) (a - b) ∧ qv (e * a) (a - b) ≤ e) ∧ (e ≤ 0 → e ≤ qv (e * a) (a - b) ∧ qv (e * a) (a - b) ≤ 0) := by
  unfold qv
  rcases h with ⟨h1, h2⟩ | ⟨h1, h2⟩
  · rw [if_neg (by omega), show -(e * a) = e * -a from (Int.mul_neg e a).symm]
    exact rnd_part (by omega) (by omega) (by omega)
  · rw [if_pos (by omega)]
    exact rnd_part (by omega) (by omega) (by omega)
def btw (p r : V28) (a b : Int) : V28 := (p.1 + qv ((r.1 - p.1) * a) (a - b), p.2.1 + qv ((r.2.1 - p.2.1) * a) (a - b), ())
theorem btw_W {p r : V28} (hp : Wn p) (hr : Wn r) {a b : Int} (h : (a < 0 ∧ 0 ≤ b) ∨ (b < 0 ∧ 0 ≤ a)) : Wn (btw p r a b) := by
  have x := qv_bd (e := r.1 - p.1) h
  have y := qv_bd (e := r.2.1 - p.2.1) h
  unfold Wn at *
  unfold btw
  dsimp only
  rcases Int.le_total 0 (r.1 - p.1) with c | c <;> rcases Int.le_total 0 (r.2.1 - p.2.1) with d | d
  · have := x.1 c; have := y.1 d; omega
  · have := x.1 c; have := y.2 d; omega
  · have := x.2 c; have := y.1 d; omega
  · have := x.2 c; have := y.2 d; omega
theorem qv_small {p r : Int} (hp : -65536000 ≤ p ∧ p ≤ 65536000) (hr : -65536000 ≤ r ∧ r ≤ 65536000) {a b : Int} (h : (a < 0 ∧ 0 ≤ b) ∨ (b < 0 ∧ 0 ≤ a)) : -131072000 ≤ qv ((r - p) * a) (a - b) ∧ qv ((r - p) * a) (a - b) ≤ 131072000 := by
  have x := qv_bd (e := r - p) h
  rcases Int.le_total 0 (r - p) with c | c
  · have := x.1 c; omega
  · have := x.2 c; omega
theorem WOver_q {k : Nat} (hk : 2 ≤ k) {e a b : Int} (he : -131072000 ≤ e ∧ e ≤ 131072000) (ha : -1000000000000000000 ≤ a ∧ a ≤ 1000000000000000000) (hb : -1000000000000000000 ≤ b ∧ b ≤ 1000000000000000000) (h : (a < 0 ∧ 0 ≤ b) ∨ (b < 0 ∧ 0 ≤ a)) :
    ∃ w, poly_Times k e a = some w ∧ poly_Wide_Over k w (a - b) = some (qv (e * a) (a - b), 0) := by
  obtain ⟨w, e1, o1, v1⟩ := Times_eq k (a := e) (b := a) (by omega) (by omega) (by omega) (by omega)
  have q := qv_bd (e := e) h
  have qb : -131072000 ≤ qv (e * a) (a - b) ∧ qv (e * a) (a - b) ≤ 131072000 := by
    rcases Int.le_total 0 e with c | c
    · have := q.1 c; omega
    · have := q.2 c; omega
  refine ⟨w, e1, ?_⟩
  unfold qv at qb ⊢
  by_cases c : 0 < a - b
  · rw [if_pos c] at qb ⊢
    rw [Over_pos hk o1 c (by omega), v1, fit_in (by omega)]
  · rw [if_neg c] at qb ⊢
    rw [Over_neg hk o1 (by omega) (by omega), v1, fit_in (by omega)]
theorem between_V {k : Nat} (hk : 2 ≤ k) {p r : V28} (hp : Wn p) (hr : Wn r) {a b : Int} (ha : -1000000000000000000 ≤ a ∧ a ≤ 1000000000000000000) (hb : -1000000000000000000 ≤ b ∧ b ≤ 1000000000000000000) (h : (a < 0 ∧ 0 ≤ b) ∨ (b < 0 ∧ 0 ≤ a)) :
    contact_between k p r a b = some (btw p r a b) := by
  unfold Wn at hp hr
  obtain ⟨x, e1, e2⟩ := WOver_q hk (e := r.1 - p.1) (by omega) ha hb h
  obtain ⟨y, e3, e4⟩ := WOver_q hk (e := r.2.1 - p.2.1) (by omega) ha hb h
  have q1 := qv_small (p := p.1) (r := r.1) (by omega) (by omega) h
  have q2 := qv_small (p := p.2.1) (r := r.2.1) (by omega) (by omega) h
  unfold contact_between
  rw [isub_i64 (x := r.1) (by omega) (by omega), isub_i64 (x := r.2.1) (by omega) (by omega), isub_i64 (x := a) (by omega) (by omega), e1, bnd_some, e2, bnd_some, e3, bnd_some, e4, bnd_some]
  dsimp only
  rw [iadd_i64 (by omega) (by omega), iadd_i64 (by omega) (by omega)]
  rfl

/-! Clipping -/
def dw (p at_ w : V28) : Int := (p.1 - at_.1) * w.1 + (p.2.1 - at_.2.1) * w.2.1
def clV (p r at_ w : V28) : V28 × (V28 × Bool) :=
  if dw p at_ w < 0 ∧ dw r at_ w < 0 then (p, r, false) else if dw p at_ w < 0 then (btw p r (dw p at_ w) (dw r at_ w), r, true) else if dw r at_ w < 0 then (p, btw p r (dw p at_ w) (dw r at_ w), true) else (p, r, true)
def Ww (w : V28) : Prop := -131072000 ≤ w.1 ∧ w.1 ≤ 131072000 ∧ -131072000 ≤ w.2.1 ∧ w.2.1 ≤ 131072000
theorem clV_W {p r at_ w : V28} (hp : Wn p) (hr : Wn r) : Wn (clV p r at_ w).1 ∧ Wn (clV p r at_ w).2.1 := by
  unfold clV
  by_cases a : dw p at_ w < 0
  · by_cases b : dw r at_ w < 0
    · rw [if_pos ⟨a, b⟩]; exact ⟨hp, hr⟩
    · rw [if_neg (fun h => b h.2), if_pos a]; exact ⟨btw_W hp hr (Or.inl ⟨a, by omega⟩), hr⟩
  · by_cases b : dw r at_ w < 0
    · rw [if_neg (fun h => a h.1), if_neg a, if_pos b]; exact ⟨hp, btw_W hp hr (Or.inr ⟨b, by omega⟩)⟩
    · rw [if_neg (fun h => a h.1), if_neg a, if_neg b]; exact ⟨hp, hr⟩
theorem dw_bd {p at_ w : V28} (hp : Wn p) (ha : Wn at_) (hw : Ww w) : -34359738368000000 ≤ dw p at_ w ∧ dw p at_ w ≤ 34359738368000000 := by
  unfold Wn at hp ha
  unfold Ww at hw
  have h1 := mul_bd (x := p.1 - at_.1) (y := w.1) (M := 131072000) (N := 131072000) (by omega) (by omega) (by omega) (by omega)
  have h2 := mul_bd (x := p.2.1 - at_.2.1) (y := w.2.1) (M := 131072000) (N := 131072000) (by omega) (by omega) (by omega) (by omega)
  unfold dw
  omega
theorem cminus_eq (k : Nat) {a b : V28} (ha : Wn a) (hb : Wn b) : contact_minus k a b = some (sb a b) := by
  unfold Wn at ha hb
  unfold contact_minus
  rw [isub_i64 (by omega) (by omega), isub_i64 (by omega) (by omega)]
  rfl
theorem sb_W {a b : V28} (ha : Wn a) (hb : Wn b) : Ww (sb a b) := by
  unfold Wn at ha hb
  unfold Ww sb
  dsimp only
  omega
theorem cdot_eq (k : Nat) {a b : V28} (ha : Ww a) (hb : Ww b) : contact_dot k a b = some (a.1 * b.1 + a.2.1 * b.2.1) := by
  unfold Ww at ha hb
  have h1 := mul_bd (x := a.1) (y := b.1) (M := 131072000) (N := 131072000) (by omega) (by omega) (by omega) (by omega)
  have h2 := mul_bd (x := a.2.1) (y := b.2.1) (M := 131072000) (N := 131072000) (by omega) (by omega) (by omega) (by omega)
  unfold contact_dot
  rw [imul_i64 (by omega) (by omega), imul_i64 (by omega) (by omega), iadd_i64 (by omega) (by omega)]
theorem W_w {a : V28} (h : Wn a) : Ww a := by unfold Wn at h; unfold Ww; omega
theorem clip_V {k : Nat} (hk : 2 ≤ k) {p r at_ w : V28} (hp : Wn p) (hr : Wn r) (ha : Wn at_) (hw : Ww w) : contact_clip k p r at_ w = some (clV p r at_ w) := by
  have b1 := dw_bd hp ha hw
  have b2 := dw_bd hr ha hw
  have d1 : contact_dot k (sb p at_) w = some (dw p at_ w) := cdot_eq k (sb_W hp ha) hw
  have d2 : contact_dot k (sb r at_) w = some (dw r at_ w) := cdot_eq k (sb_W hr ha) hw
  unfold contact_clip
  rw [cminus_eq k hp ha, bnd_some, d1, bnd_some, cminus_eq k hr ha, bnd_some, d2, bnd_some]
  unfold contact_clip.c1 contact_clip.c2 clV
  by_cases a : dw p at_ w < 0
  · by_cases b : dw r at_ w < 0
    · rw [ilt_pos a, bif_true, ilt_pos b, bnd_some, bif_true, if_pos ⟨a, b⟩]
    · rw [ilt_pos a, bif_true, ilt_neg (by omega), bnd_some, bif_false, bif_true, between_V hk hp hr (by omega) (by omega) (Or.inl ⟨a, by omega⟩), bnd_some, bnd_some, if_neg (fun h => b h.2), if_pos a]
  · by_cases b : dw r at_ w < 0
    · rw [ilt_neg (by omega), bif_false, bnd_some, bif_false, bif_false, ilt_pos b, bif_true, between_V hk hp hr (by omega) (by omega) (Or.inr ⟨b, by omega⟩), bnd_some, bnd_some, if_neg (fun h => a h.1), if_neg a, if_pos b]
    · rw [ilt_neg (by omega), bif_false, bnd_some, bif_false, bif_false, ilt_neg (by omega), bif_false, bnd_some, if_neg (fun h => a h.1), if_neg a, if_neg b]
theorem icv_back {x : Int} (h0 : -9223372036854775808 ≤ x) (h1 : x ≤ 9223372036854775807) : icv .i64 (x % 18446744073709551616) = x := by
  show IntKind.i64.wrap (x % 18446744073709551616) = x
  rw [wrap_i64_eq]
  split <;> omega
end Go.Proofs.T1
