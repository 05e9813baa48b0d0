/-
  Plain laws: no program in sight.
-/
import Derived.Test.YtcgcnojpcgjnmaaPlSatC
import Derived.Test.YtcgcnojpcgjnmaaG14
namespace Go.Proofs.T1
open Go Go.Sx

/-! Quotients by negative numbers -/
theorem mag_neg (x : Int) : mag (-x) = mag x := by unfold mag; split <;> split <;> omega
theorem Over_neg {k : Nat} (hk : 2 ≤ k) {w : V90} (hw : WOk w) {n : Int} (hn : n < 0) (hn' : -9223372036854775807 ≤ n) : poly_Wide_Over k w n = some (fit (rnd (-(wv w)) (-n))) := by
  rw [Over_gen hk hw ⟨by omega, by omega⟩ (by omega), ← rnd_pos (x := -(wv w)) (n := -n) (by omega), mag_neg, mag_neg]
  by_cases h : wv w = 0
  · rw [h]
    have e : mag 0 = 0 := rfl
    rw [e, rndM_zero (by unfold mag; split <;> omega), rndM_zero (by unfold mag; split <;> omega)]
  · have e : (decide (wv w < 0) != decide (n < 0)) = (decide (-wv w < 0) != decide (-n < 0)) := by
      rw [decide_eq_true hn, decide_eq_false (show ¬ -n < 0 by omega)]
      by_cases c : wv w < 0
      · rw [decide_eq_true c, decide_eq_false (show ¬ -wv w < 0 by omega)]; rfl
      · rw [decide_eq_false c, decide_eq_true (show -wv w < 0 by omega)]; rfl
    rw [e]
theorem ineg_in {x : Int} (h : -4611686018427387904 ≤ x) (g : x ≤ 4611686018427387904) : ineg .i64 x = -x := by
  show IntKind.i64.wrap (0 - x) = -x
  rw [wrap_i64 (by omega) (by omega)]
  omega
theorem BOver_neg {k : Nat} (hk : 200 ≤ k) {a : List Int} {x n : Int} (ha : BR a x) (h0 : -42535295865117307932921825928971026432 ≤ x) (h1 : x ≤ 42535295865117307932921825928971026432) (hn : n < 0) (hn' : -2305843009213693952 ≤ n) :
    tourref2_Big_Over k a n = some (fit (rnd (-x) (-n))) := by
  obtain ⟨c, ec, rc⟩ := BNeg (k := k) (by omega) ha
  have P := BOver_pos hk rc (n := -n) (by omega) (by omega) (by omega) (by omega)
  unfold tourref2_Big_Over tourref2_Big_Over.c1 at P ⊢
  rw [ieq_neg (by omega), bif_false, ilt_neg (by omega), bif_false, bnd_some] at P
  rw [ieq_neg (by omega), bif_false, ilt_pos hn, bif_true, ec, bnd_some, ineg_in (by omega) (by omega), bnd_some]
  exact P

/-! A point between two others -/
def qv (x n : Int) : Int := if 0 < n then rnd x n else rnd (-x) (-n)
theorem rnd_z {n : Int} (hn : 0 < n) : rnd 0 n = 0 := by
  unfold rnd
  exact Int.ediv_eq_zero_of_lt (by omega) (by omega)
theorem rnd_part {e A N : Int} (hN : 0 < N) (a0 : 0 ≤ A) (a1 : A ≤ N) : (0 ≤ e → 0 ≤ rnd (e * A) N ∧ rnd (e * A) N ≤ e) ∧ (e ≤ 0 → e ≤ rnd (e * A) N ∧ rnd (e * A) N ≤ 0) := by
  have full : rnd (N * e) N = e := by
    have := rnd_add (x := 0) (n := N) (c := e) hN
    rw [Int.zero_add, rnd_z hN, Int.zero_add] at this
    exact this
  constructor
  · intro h
    have g := Int.mul_le_mul_of_nonneg_left a1 h
    rw [Int.mul_comm e N] at g
    exact ⟨rnd_nn hN (Int.mul_nonneg h a0), by have := rnd_mono hN g; omega⟩
  · intro h
    have g : N * e ≤ e * A := by
      have := Int.mul_le_mul_of_nonneg_left a1 (show 0 ≤ -e by omega)
      rw [Int.neg_mul, Int.neg_mul] at this
      have := Int.mul_comm N e
      omega
    have z : e * A ≤ 0 := Int.mul_nonpos_of_nonpos_of_nonneg h a0
    have m1 := rnd_mono hN g
    have m2 := rnd_mono hN z
    rw [rnd_z hN] at m2
    omega
theorem qv_bd {e a b : Int} (h : (a < 0 ∧ 0 ≤ b) ∨ (b < 0 ∧ 0 ≤ a)) : (0 ≤ e → 0 ≤ qv (e * a) (a - b) ∧ qv (e * a) (a - b) ≤ e) ∧ (e ≤ 0 → e ≤ qv (e * a) (a - b) ∧ qv (e * a) (a - b) ≤ 0) := by
  unfold qv
  rcases h with ⟨h1, h2⟩ | ⟨h1, h2⟩
  · rw [if_neg (by omega), show -(e * a) = e * -a from (Int.mul_neg e a).symm]
    exact rnd_part (by omega) (by omega) (by omega)
  · rw [if_pos (by omega)]
    exact rnd_part (by omega) (by omega) (by omega)
def btw (p r : V22) (a b : Int) : V22 := (p.1 + qv ((r.1 - p.1) * a) (a - b), p.2.1 + qv ((r.2.1 - p.2.1) * a) (a - b), ())
theorem btw_W {p r : V22} (hp : Wn p) (hr : Wn r) {a b : Int} (h : (a < 0 ∧ 0 ≤ b) ∨ (b < 0 ∧ 0 ≤ a)) : Wn (btw p r a b) := by
  have x := qv_bd (e := r.1 - p.1) h
  have y := qv_bd (e := r.2.1 - p.2.1) h
  unfold Wn at *
  unfold btw
  dsimp only
  rcases Int.le_total 0 (r.1 - p.1) with c | c <;> rcases Int.le_total 0 (r.2.1 - p.2.1) with d | d
  · have := x.1 c; have := y.1 d; omega
  · have := x.1 c; have := y.2 d; omega
  · have := x.2 c; have := y.1 d; omega
  · have := x.2 c; have := y.2 d; omega
theorem qv_small {p r : Int} (hp : -65536000 ≤ p ∧ p ≤ 65536000) (hr : -65536000 ≤ r ∧ r ≤ 65536000) {a b : Int} (h : (a < 0 ∧ 0 ≤ b) ∨ (b < 0 ∧ 0 ≤ a)) : -131072000 ≤ qv ((r - p) * a) (a - b) ∧ qv ((r - p) * a) (a - b) ≤ 131072000 := by
  have x := qv_bd (e := r - p) h
  rcases Int.le_total 0 (r - p) with c | c
  · have := x.1 c; omega
  · have := x.2 c; omega
theorem WOver_q {k : Nat} (hk : 2 ≤ k) {e a b : Int} (he : -131072000 ≤ e ∧ e ≤ 131072000) (ha : -1000000000000000000 ≤ a ∧ a ≤ 1000000000000000000) (hb : -1000000000000000000 ≤ b ∧ b ≤ 1000000000000000000) (h : (a < 0 ∧ 0 ≤ b) ∨ (b < 0 ∧ 0 ≤ a)) :
    ∃ w, poly_Times k e a = some w ∧ poly_Wide_Over k w (a - b) = some (qv (e * a) (a - b), 0) := by
  obtain ⟨w, e1, o1, v1⟩ := Times_eq k (a := e) (b := a) (by omega) (by omega) (by omega) (by omega)
  have q := qv_bd (e := e) h
  have qb : -131072000 ≤ qv (e * a) (a - b) ∧ qv (e * a) (a - b) ≤ 131072000 := by
    rcases Int.le_total 0 e with c | c
    · have := q.1 c; omega
    · have := q.2 c; omega
  refine ⟨w, e1, ?_⟩
  unfold qv at qb ⊢
  by_cases c : 0 < a - b
  · rw [if_pos c] at qb ⊢
    rw [Over_pos hk o1 c (by omega), v1, fit_in (by omega)]
  · rw [if_neg c] at qb ⊢
    rw [Over_neg hk o1 (by omega) (by omega), v1, fit_in (by omega)]
theorem BOver_q {k : Nat} (hk : 200 ≤ k) {c : List Int} {e a b : Int} (hc : BR c a) (he : -131072000 ≤ e ∧ e ≤ 131072000) (ha : -1000000000000000000 ≤ a ∧ a ≤ 1000000000000000000) (hb : -1000000000000000000 ≤ b ∧ b ≤ 1000000000000000000) (h : (a < 0 ∧ 0 ≤ b) ∨ (b < 0 ∧ 0 ≤ a)) :
    ∃ o m, tourref2_Of k e = some o ∧ tourref2_Big_Mul k o c = some m ∧ tourref2_Big_Over k m (a - b) = some (qv (e * a) (a - b), 0) := by
  obtain ⟨o, e1, r1⟩ := BOf (k := k) (by omega) (n := e) (by omega) (by omega)
  obtain ⟨m, e2, r2⟩ := BMul (k := k) (by omega) r1 hc
  have q := qv_bd (e := e) h
  have qb : -131072000 ≤ qv (e * a) (a - b) ∧ qv (e * a) (a - b) ≤ 131072000 := by
    rcases Int.le_total 0 e with c | c
    · have := q.1 c; omega
    · have := q.2 c; omega
  have mb := mul_bd (x := e) (y := a) (M := 131072000) (N := 1000000000000000000) (by omega) (by omega) (by omega) (by omega)
  refine ⟨o, m, e1, e2, ?_⟩
  unfold qv at qb ⊢
  by_cases c : 0 < a - b
  · rw [if_pos c] at qb ⊢
    rw [BOver_pos hk r2 (by omega) (by omega) c (by omega), fit_in (by omega)]
  · rw [if_neg c] at qb ⊢
    rw [BOver_neg hk r2 (by omega) (by omega) (by omega) (by omega), fit_in (by omega)]
theorem between_V {k : Nat} (hk : 2 ≤ k) {p r : V22} (hp : Wn p) (hr : Wn r) {a b : Int} (ha : -1000000000000000000 ≤ a ∧ a ≤ 1000000000000000000) (hb : -1000000000000000000 ≤ b ∧ b ≤ 1000000000000000000) (h : (a < 0 ∧ 0 ≤ b) ∨ (b < 0 ∧ 0 ≤ a)) :
    contact_between k p r a b = some (btw p r a b) := by
  unfold Wn at hp hr
  obtain ⟨x, e1, e2⟩ := WOver_q hk (e := r.1 - p.1) (by omega) ha hb h
  obtain ⟨y, e3, e4⟩ := WOver_q hk (e := r.2.1 - p.2.1) (by omega) ha hb h
  have q1 := qv_small (p := p.1) (r := r.1) (by omega) (by omega) h
  have q2 := qv_small (p := p.2.1) (r := r.2.1) (by omega) (by omega) h
  unfold contact_between
  rw [isub_i64 (x := r.1) (by omega) (by omega), isub_i64 (x := r.2.1) (by omega) (by omega), isub_i64 (x := a) (by omega) (by omega), e1, bnd_some, e2, bnd_some, e3, bnd_some, e4, bnd_some]
  dsimp only
  rw [iadd_i64 (by omega) (by omega), iadd_i64 (by omega) (by omega)]
  rfl

/-! Clipping -/
def dw (p at_ w : V22) : Int := (p.1 - at_.1) * w.1 + (p.2.1 - at_.2.1) * w.2.1
def clV (p r at_ w : V22) : V22 × (V22 × Bool) :=
  if dw p at_ w < 0 ∧ dw r at_ w < 0 then (p, r, false) else if dw p at_ w < 0 then (btw p r (dw p at_ w) (dw r at_ w), r, true) else if dw r at_ w < 0 then (p, btw p r (dw p at_ w) (dw r at_ w), true) else (p, r, true)
def Ww (w : V22) : Prop := -131072000 ≤ w.1 ∧ w.1 ≤ 131072000 ∧ -131072000 ≤ w.2.1 ∧ w.2.1 ≤ 131072000
theorem clV_W {p r at_ w : V22} (hp : Wn p) (hr : Wn r) : Wn (clV p r at_ w).1 ∧ Wn (clV p r at_ w).2.1 := by
  unfold clV
  by_cases a : dw p at_ w < 0
  · by_cases b : dw r at_ w < 0
    · rw [if_pos ⟨a, b⟩]; exact ⟨hp, hr⟩
    · rw [if_neg (fun h => b h.2), if_pos a]; exact ⟨btw_W hp hr (Or.inl ⟨a, by omega⟩), hr⟩
  · by_cases b : dw r at_ w < 0
    · rw [if_neg (fun h => a h.1), if_neg a, if_pos b]; exact ⟨hp, btw_W hp hr (Or.inr ⟨b, by omega⟩)⟩
    · rw [if_neg (fun h => a h.1), if_neg a, if_neg b]; exact ⟨hp, hr⟩
theorem dw_bd {p at_ w : V22} (hp : Wn p) (ha : Wn at_) (hw : Ww w) : -34359738368000000 ≤ dw p at_ w ∧ dw p at_ w ≤ 34359738368000000 := by
  unfold Wn at hp ha
  unfold Ww at hw
  have h1 := mul_bd (x := p.1 - at_.1) (y := w.1) (M := 131072000) (N := 131072000) (by omega) (by omega) (by omega) (by omega)
  have h2 := mul_bd (x := p.2.1 - at_.2.1) (y := w.2.1) (M := 131072000) (N := 131072000) (by omega) (by omega) (by omega) (by omega)
  unfold dw
  omega
theorem cminus_eq (k : Nat) {a b : V22} (ha : Wn a) (hb : Wn b) : contact_minus k a b = some (sb a b) := by
  unfold Wn at ha hb
  unfold contact_minus
  rw [isub_i64 (by omega) (by omega), isub_i64 (by omega) (by omega)]
  rfl
theorem rsub_W (k : Nat) {a b : V22} (ha : Wn a) (hb : Wn b) : tourref2_sub k a b = some (sb a b) := by
  unfold Wn at ha hb
  unfold tourref2_sub
  rw [isub_i64 (by omega) (by omega), isub_i64 (by omega) (by omega)]
  rfl
theorem sb_W {a b : V22} (ha : Wn a) (hb : Wn b) : Ww (sb a b) := by
  unfold Wn at ha hb
  unfold Ww sb
  dsimp only
  omega
theorem cdot_eq (k : Nat) {a b : V22} (ha : Ww a) (hb : Ww b) : contact_dot k a b = some (a.1 * b.1 + a.2.1 * b.2.1) := by
  unfold Ww at ha hb
  have h1 := mul_bd (x := a.1) (y := b.1) (M := 131072000) (N := 131072000) (by omega) (by omega) (by omega) (by omega)
  have h2 := mul_bd (x := a.2.1) (y := b.2.1) (M := 131072000) (N := 131072000) (by omega) (by omega) (by omega) (by omega)
  unfold contact_dot
  rw [imul_i64 (by omega) (by omega), imul_i64 (by omega) (by omega), iadd_i64 (by omega) (by omega)]
theorem W_w {a : V22} (h : Wn a) : Ww a := by unfold Wn at h; unfold Ww; omega
theorem clip_V {k : Nat} (hk : 2 ≤ k) {p r at_ w : V22} (hp : Wn p) (hr : Wn r) (ha : Wn at_) (hw : Ww w) : contact_clip k p r at_ w = some (clV p r at_ w) := by
  have b1 := dw_bd hp ha hw
  have b2 := dw_bd hr ha hw
  have d1 : contact_dot k (sb p at_) w = some (dw p at_ w) := cdot_eq k (sb_W hp ha) hw
  have d2 : contact_dot k (sb r at_) w = some (dw r at_ w) := cdot_eq k (sb_W hr ha) hw
  unfold contact_clip
  rw [cminus_eq k hp ha, bnd_some, d1, bnd_some, cminus_eq k hr ha, bnd_some, d2, bnd_some]
  unfold contact_clip.c1 contact_clip.c2 clV
  by_cases a : dw p at_ w < 0
  · by_cases b : dw r at_ w < 0
    · rw [ilt_pos a, bif_true, ilt_pos b, bnd_some, bif_true, if_pos ⟨a, b⟩]
    · rw [ilt_pos a, bif_true, ilt_neg (by omega), bnd_some, bif_false, bif_true, between_V hk hp hr (by omega) (by omega) (Or.inl ⟨a, by omega⟩), bnd_some, bnd_some, if_neg (fun h => b h.2), if_pos a]
  · by_cases b : dw r at_ w < 0
    · rw [ilt_neg (by omega), bif_false, bnd_some, bif_false, bif_false, ilt_pos b, bif_true, between_V hk hp hr (by omega) (by omega) (Or.inr ⟨b, by omega⟩), bnd_some, bnd_some, if_neg (fun h => a h.1), if_neg a, if_pos b]
    · rw [ilt_neg (by omega), bif_false, bnd_some, bif_false, bif_false, ilt_neg (by omega), bif_false, bnd_some, if_neg (fun h => a h.1), if_neg a, if_neg b]
theorem icv_back {x : Int} (h0 : -9223372036854775808 ≤ x) (h1 : x ≤ 9223372036854775807) : icv .i64 (x % 18446744073709551616) = x := by
  show IntKind.i64.wrap (x % 18446744073709551616) = x
  rw [wrap_i64_eq]
  split <;> omega
theorem rclip_V {k : Nat} (hk : 200 ≤ k) {p r at_ w : V22} (hp : Wn p) (hr : Wn r) (ha : Wn at_) (hw : Ww w) : tourref2_clip k [p, r] at_ w = some ([(clV p r at_ w).1, (clV p r at_ w).2.1], (clV p r at_ w).2.2) := by
  have hk9 : 9 ≤ k := by omega
  have b1 := dw_bd hp ha hw
  have b2 := dw_bd hr ha hw
  have i64 : ∀ {v : V22}, Ww v → I64 v.1 ∧ I64 v.2.1 := fun h => by unfold Ww at h; unfold I64; omega
  obtain ⟨x, ex, rx⟩ := BDot hk9 (a := sb p at_) (b := w) (i64 (sb_W hp ha)).1 (i64 (sb_W hp ha)).2 (i64 hw).1 (i64 hw).2
  obtain ⟨y, ey, ry⟩ := BDot hk9 (a := sb r at_) (b := w) (i64 (sb_W hr ha)).1 (i64 (sb_W hr ha)).2 (i64 hw).1 (i64 hw).2
  have rx : BR x (dw p at_ w) := rx
  have ry : BR y (dw r at_ w) := ry
  have bx := BBelow k rx (by unfold SR; omega)
  have by_ := BBelow k ry (by unfold SR; omega)
  obtain ⟨z, ez, rz⟩ := BSub hk9 rx ry
  obtain ⟨wd, ew, _, _, lw⟩ := BWide hk9 rz
  have hn : icv .i64 wd.2.1 = dw p at_ w - dw r at_ w := by rw [lw]; exact icv_back (by omega) (by omega)
  have e1 : isub .i64 (el Z22 [p, r] 1).1 (el Z22 [p, r] 0).1 = r.1 - p.1 := by
    show isub .i64 r.1 p.1 = _
    unfold Wn at hp hr
    exact isub_i64 (by omega) (by omega)
  have e2 : isub .i64 (el Z22 [p, r] 1).2.1 (el Z22 [p, r] 0).2.1 = r.2.1 - p.2.1 := by
    show isub .i64 r.2.1 p.2.1 = _
    unfold Wn at hp hr
    exact isub_i64 (by omega) (by omega)
  have hl : len [x, y] = 2 := rfl
  -- the new end
  have new : ((dw p at_ w < 0 ∧ 0 ≤ dw r at_ w) ∨ (dw r at_ w < 0 ∧ 0 ≤ dw p at_ w)) → ∃ o1 m1 o2 m2, tourref2_Of k (r.1 - p.1) = some o1 ∧ tourref2_Big_Mul k o1 x = some m1 ∧ tourref2_Big_Over k m1 (dw p at_ w - dw r at_ w) = some (qv ((r.1 - p.1) * dw p at_ w) (dw p at_ w - dw r at_ w), 0) ∧
      tourref2_Of k (r.2.1 - p.2.1) = some o2 ∧ tourref2_Big_Mul k o2 x = some m2 ∧ tourref2_Big_Over k m2 (dw p at_ w - dw r at_ w) = some (qv ((r.2.1 - p.2.1) * dw p at_ w) (dw p at_ w - dw r at_ w), 0) ∧
      ((iadd .i64 (el Z22 [p, r] 0).1 (qv ((r.1 - p.1) * dw p at_ w) (dw p at_ w - dw r at_ w)), iadd .i64 (el Z22 [p, r] 0).2.1 (qv ((r.2.1 - p.2.1) * dw p at_ w) (dw p at_ w - dw r at_ w)), ()) : V22) = btw p r (dw p at_ w) (dw r at_ w) := by
    intro h
    unfold Wn at hp hr
    obtain ⟨o1, m1, f1, f2, f3⟩ := BOver_q hk rx (e := r.1 - p.1) (b := dw r at_ w) (by omega) (by omega) (by omega) h
    obtain ⟨o2, m2, f4, f5, f6⟩ := BOver_q hk rx (e := r.2.1 - p.2.1) (b := dw r at_ w) (by omega) (by omega) (by omega) h
    have q1 := qv_small (p := p.1) (r := r.1) (by omega) (by omega) h
    have q2 := qv_small (p := p.2.1) (r := r.2.1) (by omega) (by omega) h
    refine ⟨o1, m1, o2, m2, f1, f2, f3, f4, f5, f6, ?_⟩
    show (iadd .i64 p.1 _, iadd .i64 p.2.1 _, ()) = _
    rw [iadd_i64 (by omega) (by omega), iadd_i64 (by omega) (by omega)]
    rfl
  have run : ∀ f : Nat, tourref2_clip.c1 k [p, r] x y (f + 3) 0 [p, r] = some (if dw p at_ w < 0 ∧ dw r at_ w < 0 then .inl () else .inr [(clV p r at_ w).1, (clV p r at_ w).2.1]) := by
    intro f
    have g0 : el (List.replicate 8 0) [x, y] 0 = x := rfl
    have g1 : el (List.replicate 8 0) [x, y] 1 = y := rfl
    have last : ∀ l, tourref2_clip.c1 k [p, r] x y (f + 1) 2 l = some (.inr l) := by
      intro l
      rw [tourref2_clip.c1, hl, ilt_neg (by decide), bif_false]
    rw [tourref2_clip.c1, hl, ilt_pos (by decide), bif_true, req_pos (inL_of (by decide) (by rw [hl]; decide)), g0, bx, bnd_some, iadd_i64 (by decide) (by decide)]
    have s1 : ∀ l, tourref2_clip.c1 k [p, r] x y (f + 2) (0 + 1) l = bif' (decide (dw r at_ w < 0)) (bnd (tourref2_clip.c2 k x y) fun o21 => bif' o21 (some (.inl ())) (bnd (tourref2_Big_Sub k x y) fun y24 =>
      bnd (tourref2_Big_Wide k y24) fun y26 =>
      bnd (tourref2_Of k (isub .i64 (el Z22 [p, r] 1).1 (el Z22 [p, r] 0).1)) fun y28 =>
      bnd (tourref2_Big_Mul k y28 x) fun y30 =>
      bnd (tourref2_Big_Over k y30 (icv .i64 y26.2.1)) fun y32 =>
      bnd (tourref2_Of k (isub .i64 (el Z22 [p, r] 1).2.1 (el Z22 [p, r] 0).2.1)) fun y34 =>
      bnd (tourref2_Big_Mul k y34 x) fun y36 =>
      bnd (tourref2_Big_Over k y36 (icv .i64 y26.2.1)) fun y38 =>
      req (inR 1 2) <|
      tourref2_clip.c1 k [p, r] x y (f + 1) 2 (st l 1 ((iadd .i64 (el Z22 [p, r] 0).1 y32.1), (iadd .i64 (el Z22 [p, r] 0).2.1 y38.1), ())))) (tourref2_clip.c1 k [p, r] x y (f + 1) 2 l) := by
      intro l
      show tourref2_clip.c1 k [p, r] x y (f + 2) 1 l = _
      rw [tourref2_clip.c1, hl, ilt_pos (by decide), bif_true, req_pos (inL_of (by decide) (by rw [hl]; decide)), g1, by_, bnd_some, iadd_i64 (by decide) (by decide)]
      rfl
    have c2 : tourref2_clip.c2 k x y = some (decide (dw p at_ w < 0 ∧ dw r at_ w < 0)) := by
      unfold tourref2_clip.c2
      rw [bx, bnd_some]
      by_cases a : dw p at_ w < 0
      · rw [decide_eq_true a, bif_true, by_, bnd_some]
        congr 1
        exact decide_eq_decide.2 ⟨fun h => ⟨a, h⟩, fun h => h.2⟩
      · rw [decide_eq_false a, bif_false, decide_eq_false (fun h => a h.1)]
    unfold clV
    by_cases a : dw p at_ w < 0
    · rw [decide_eq_true a, bif_true, c2, bnd_some]
      by_cases b : dw r at_ w < 0
      · rw [decide_eq_true ⟨a, b⟩, bif_true, if_pos ⟨a, b⟩]
      · obtain ⟨o1, m1, o2, m2, f1, f2, f3, f4, f5, f6, f7⟩ := new (Or.inl ⟨a, by omega⟩)
        rw [decide_eq_false (fun h => b h.2), bif_false, ez, bnd_some, ew, bnd_some, e1, e2, hn, f1, bnd_some, f2, bnd_some, f3, bnd_some, f4, bnd_some, f5, bnd_some, f6, bnd_some, req_pos (show inR 0 2 from ⟨by decide, by decide⟩)]
        dsimp only
        rw [f7, s1, decide_eq_false b, bif_false, last, if_neg (fun h => b h.2), if_neg (fun h => b h.2), if_pos a]
        rfl
    · rw [decide_eq_false a, bif_false, s1, if_neg (fun h => a h.1), if_neg (fun h => a h.1), if_neg a]
      by_cases b : dw r at_ w < 0
      · obtain ⟨o1, m1, o2, m2, f1, f2, f3, f4, f5, f6, f7⟩ := new (Or.inr ⟨b, by omega⟩)
        rw [decide_eq_true b, bif_true, c2, bnd_some, decide_eq_false (fun h => a h.1), bif_false, ez, bnd_some, ew, bnd_some, e1, e2, hn, f1, bnd_some, f2, bnd_some, f3, bnd_some, f4, bnd_some, f5, bnd_some, f6, bnd_some, req_pos (show inR 1 2 from ⟨by decide, by decide⟩)]
        dsimp only
        rw [f7, last, if_pos b]
        rfl
      · rw [decide_eq_false b, bif_false, last, if_neg b]
  have R := run (k - 3)
  rw [show k - 3 + 3 = k by omega] at R
  have s1 : tourref2_sub k (el Z22 [p, r] 0) at_ = some (sb p at_) := rsub_W k hp ha
  have s2 : tourref2_sub k (el Z22 [p, r] 1) at_ = some (sb r at_) := rsub_W k hr ha
  unfold tourref2_clip
  rw [s1, bnd_some, ex, bnd_some, s2, bnd_some, ey, bnd_some, R, bnd_some]
  by_cases h : dw p at_ w < 0 ∧ dw r at_ w < 0
  · rw [if_pos h, two_inl]
    unfold clV
    rw [if_pos h]
  · rw [if_neg h, two_inr]
    have : (clV p r at_ w).2.2 = true := by
      unfold clV
      rw [if_neg h]
      split
      · rfl
      · split <;> rfl
    rw [this]
end Go.Proofs.T1
