/-
  Plain laws: no program in sight.
-/
import Derived.Test.YtcgcnojpcgjnmaaPlLine
import Derived.Test.YtcgcnojpcgjnmaaG11
namespace Go.Proofs.T1
open Go Go.Sx

/-! The reference's meeting of two polygons -/
instance (x y : Int) : Decidable (Opp x y) := by unfold Opp; infer_instance
instance (a b p : V22) : Decidable (Box a b p) := by unfold Box; infer_instance
instance (a b p : V22) : Decidable (On a b p) := by unfold On; infer_instance
instance (a b c d : V22) : Decidable (CrP a b c d) := by unfold CrP; infer_instance
theorem opp_dec (x y : Int) : ilt (imul .i64 (cmpI x 0) (cmpI y 0)) 0 = decide (Opp x y) := by
  rcases Int.lt_trichotomy x 0 with a | a | a <;> rcases Int.lt_trichotomy y 0 with b | b | b <;>
    first
    | (rw [cmpI_lt a, cmpI_lt b, decide_eq_false (by unfold Opp; omega)]; decide)
    | (rw [cmpI_lt a, cmpI_eq b, decide_eq_false (by unfold Opp; omega)]; decide)
    | (rw [cmpI_lt a, cmpI_gt b, decide_eq_true (by unfold Opp; omega)]; decide)
    | (rw [cmpI_eq a, cmpI_lt b, decide_eq_false (by unfold Opp; omega)]; decide)
    | (rw [cmpI_eq a, cmpI_eq b, decide_eq_false (by unfold Opp; omega)]; decide)
    | (rw [cmpI_eq a, cmpI_gt b, decide_eq_false (by unfold Opp; omega)]; decide)
    | (rw [cmpI_gt a, cmpI_lt b, decide_eq_true (by unfold Opp; omega)]; decide)
    | (rw [cmpI_gt a, cmpI_eq b, decide_eq_false (by unfold Opp; omega)]; decide)
    | (rw [cmpI_gt a, cmpI_gt b, decide_eq_false (by unfold Opp; omega)]; decide)
theorem cmpI_zero (x : Int) : cmpI x 0 = 0 ↔ x = 0 := by
  rcases Int.lt_trichotomy x 0 with a | a | a
  · rw [cmpI_lt a]; omega
  · rw [cmpI_eq a]; omega
  · rw [cmpI_gt a]; omega
theorem cmpI_nn (x : Int) : ige (cmpI x 0) 0 = decide (0 ≤ x) := by
  rcases Int.lt_trichotomy x 0 with a | a | a
  · rw [cmpI_lt a, decide_eq_false (by omega)]; rfl
  · rw [cmpI_eq a, decide_eq_true (by omega)]; rfl
  · rw [cmpI_gt a, decide_eq_true (by omega)]; rfl
theorem cross1_eq (k : Nat) (a b p : V22) : tourref2_cross_1 k a b p (cmpI (tri a b p) 0) = some (decide (On a b p)) := by
  unfold tourref2_cross_1
  by_cases z : tri a b p = 0
  · rw [ieq_pos ((cmpI_zero _).2 z), bif_true]
    by_cases c1 : imin a.1 b.1 ≤ p.1
    · rw [ile_pos c1, bif_true]
      by_cases c2 : p.1 ≤ imax a.1 b.1
      · rw [ile_pos c2, bif_true]
        by_cases c3 : imin a.2.1 b.2.1 ≤ p.2.1
        · rw [ile_pos c3, bif_true]
          unfold ile
          congr 1
          rw [decide_eq_decide]
          exact ⟨fun h => ⟨z, c1, c2, c3, h⟩, fun h => h.2.2.2.2⟩
        · rw [ile_neg (by omega), bif_false, decide_eq_false (fun h => c3 h.2.2.2.1)]
      · rw [ile_neg (by omega), bif_false, decide_eq_false (fun h => c2 h.2.2.1)]
    · rw [ile_neg (by omega), bif_false, decide_eq_false (fun h => c1 h.2.1)]
  · rw [ieq_neg (fun h => z ((cmpI_zero _).1 h)), bif_false, decide_eq_false (fun h => z h.1)]
/-! The reference's axis -/
/-! The law -/
end Go.Proofs.T1
namespace Go.Proofs.T1
open Go Go.Sx

/-! Bodies that a polygon meets; RayStops -/
theorem Val_big {l : List V22} (h : Val l) : Big1 l := by
  refine ⟨h.1, by have := h.2.1; omega, fun t t0 t1 => ?_⟩
  have := h.2.2.1 t t0 t1
  unfold Wn at this
  omega
/-- What a ray's way through one body is. -/
def HitS (l : List V22) (a b : V22) (h : Int × Bool) : Prop :=
  (∃ X w, h.2 = true ∧ 0 < w ∧ 0 ≤ X ∧ X ≤ w ∧ Fea l a b X w ∧ (∀ Y v, 0 < v → 0 ≤ Y → Y ≤ v → Fea l a b Y v → X * v ≤ Y * w) ∧ (0 ≤ h.1 ∧ h.1 ≤ 65536 ∧ h.1 * w ≤ X * 65536 ∧ X * 65536 < (h.1 + 1) * w) ∧
      ((X = 0 ∧ w = 1) ∨ ∃ i, 0 ≤ i ∧ i < len l ∧ dn l b i < 0 ∧ X = -nu l a i ∧ w = -dn l b i)) ∨
    (h = (0, false) ∧ ∀ Y v, 0 < v → 0 ≤ Y → Y ≤ v → ¬ Fea l a b Y v)
theorem rline_hit {k : Nat} (hk : 40 ≤ k) {l : List V22} {a b : V22} (hl : Big1 l) (ha : Wn a) (hb : Wn b) : ∃ h, ray_line k l a b = some h ∧ HitS l a b h := by
  rcases rline_spec hk hl ha hb with ⟨X, w, t, e, h1, h2, h3, h4, h5, h6, h7⟩ | ⟨e, h⟩
  · exact ⟨(t, true), e, Or.inl ⟨X, w, rfl, h1, h2, h3, h4, h5, h6, h7⟩⟩
  · exact ⟨(0, false), e, Or.inr ⟨rfl, h⟩⟩
theorem cast_hit {k : Nat} (hk : 100 < k) {a b : V22} (ha : Wn a) (hb : Wn b) (y : V25) (hy : OKb k y) : ∃ P, body_Place k y = some P ∧ Val P ∧ HitS P a b (hitOf k (fun x => ray_Cast_1 k x.1 a b) y) := by
  obtain ⟨P, p1, p2⟩ := place_tot (k := k) (by omega) y hy
  obtain ⟨h, e, hs⟩ := rline_hit (k := k) (by omega) (Val_big p2) ha hb
  refine ⟨P, p1, p2, ?_⟩
  have : hitOf k (fun x => ray_Cast_1 k x.1 a b) y = h := by
    unfold hitOf
    rw [p1]
    show (ray_Cast_1 k P a b).getD (0, false) = h
    unfold ray_Cast_1
    rw [e, bnd_some]
    rfl
  rw [this]
  exact hs
end Go.Proofs.T1
namespace Go.Proofs.T1
open Go Go.Sx

/-! The reference's way of a segment into a polygon -/
def Wb (a : V22) : Prop := -300000000 ≤ a.1 ∧ a.1 ≤ 300000000 ∧ -300000000 ≤ a.2.1 ∧ a.2.1 ≤ 300000000
theorem left_big {k : Nat} (hk : 9 ≤ k) {a b p : V22} (ha : Wb a) (hb : Wb b) (hp : Wb p) : tourref2_left k a b p = some (cmpI (tri a b p) 0) := by
  unfold Wb at *
  have m1 := mul_bd (x := b.1 - a.1) (y := p.2.1 - a.2.1) (M := 600000000) (N := 600000000) (by omega) (by omega) (by omega) (by omega)
  have m2 := mul_bd (x := b.2.1 - a.2.1) (y := p.1 - a.1) (M := 600000000) (N := 600000000) (by omega) (by omega) (by omega) (by omega)
  have e1 : tourref2_sub k b a = some (b.1 - a.1, b.2.1 - a.2.1, ()) := by
    unfold tourref2_sub
    rw [isub_i64 (by omega) (by omega), isub_i64 (by omega) (by omega)]
  have e2 : tourref2_sub k p a = some (p.1 - a.1, p.2.1 - a.2.1, ()) := by
    unfold tourref2_sub
    rw [isub_i64 (by omega) (by omega), isub_i64 (by omega) (by omega)]
  obtain ⟨c, e3, r⟩ := BCross hk (a := (b.1 - a.1, b.2.1 - a.2.1, ())) (b := (p.1 - a.1, p.2.1 - a.2.1, ())) (by unfold I64; dsimp only; omega) (by unfold I64; dsimp only; omega) (by unfold I64; dsimp only; omega) (by unfold I64; dsimp only; omega)
  unfold tourref2_left
  rw [e1, bnd_some, e2, bnd_some, e3, bnd_some, BCmp hk r BR_zero (by unfold SR; dsimp only; omega) (by unfold SR; omega), bnd_some]
  rfl
theorem cross_big {k : Nat} (hk : 9 ≤ k) {a b c d : V22} (ha : Wb a) (hb : Wb b) (hc : Wb c) (hd : Wb d) : tourref2_cross k a b c d = some (decide (CrP a b c d)) := by
  unfold tourref2_cross
  rw [left_big hk ha hb hc, bnd_some, left_big hk ha hb hd, bnd_some, left_big hk hc hd ha, bnd_some, left_big hk hc hd hb, bnd_some]
  have c1 : tourref2_cross.c1 k (cmpI (tri a b c) 0) (cmpI (tri a b d) 0) (cmpI (tri c d a) 0) (cmpI (tri c d b) 0) = some (decide (Opp (tri a b c) (tri a b d) ∧ Opp (tri c d a) (tri c d b))) := by
    unfold tourref2_cross.c1
    rw [opp_dec, opp_dec]
    by_cases h : Opp (tri a b c) (tri a b d)
    · rw [decide_eq_true h, bif_true]
      congr 1
      rw [decide_eq_decide]
      exact ⟨fun g => ⟨h, g⟩, fun g => g.2⟩
    · rw [decide_eq_false h, bif_false, decide_eq_false (fun g => h g.1)]
  rw [c1, bnd_some, cross1_eq, bnd_some, cross1_eq, bnd_some, cross1_eq, bnd_some, cross1_eq, bnd_some]
  by_cases h1 : Opp (tri a b c) (tri a b d) ∧ Opp (tri c d a) (tri c d b)
  · rw [decide_eq_true h1, bif_true, decide_eq_true (show CrP a b c d from (Or.inl h1))]
  rw [decide_eq_false h1, bif_false]
  by_cases h2 : On a b c
  · rw [decide_eq_true h2, bif_true, decide_eq_true (show CrP a b c d from (Or.inr (Or.inl h2)))]
  rw [decide_eq_false h2, bif_false]
  by_cases h3 : On a b d
  · rw [decide_eq_true h3, bif_true, decide_eq_true (show CrP a b c d from (Or.inr (Or.inr (Or.inl h3))))]
  rw [decide_eq_false h3, bif_false]
  by_cases h4 : On c d a
  · rw [decide_eq_true h4, bif_true, decide_eq_true (show CrP a b c d from (Or.inr (Or.inr (Or.inr (Or.inl h4)))))]
  rw [decide_eq_false h4, bif_false]
  congr 1
  rw [decide_eq_decide]
  unfold CrP
  exact ⟨fun h => Or.inr (Or.inr (Or.inr (Or.inr h))), fun h => by rcases h with h | h | h | h | h <;> first | exact absurd h h1 | exact absurd h h2 | exact absurd h h3 | exact absurd h h4 | exact h⟩
theorem part_step {k : Nat} (hk : 9 ≤ k) {n d : List Int} {Y w : Int} (hn : BR n Y) (hd : BR d w) (w0 : 0 < w) (wb : w ≤ 4611686018427387904) (Y0 : 0 ≤ Y) (Yb : Y ≤ w) (f : Nat) {o b : Int} (o0 : 0 ≤ o) (b0 : 0 < b) (ob : o + b ≤ 131072) :
    tourref2_part.c2 k (n, d) (f + 1) o b = tourref2_part.c2 k (n, d) f (if (o + b) * w ≤ Y * 65536 then o + b else o) (b / 2) := by
  have m := mul_bd (x := o + b) (y := w) (M := 131072) (N := 4611686018427387904) (by omega) (by omega) (by omega) (by omega)
  obtain ⟨y13, e13, r13⟩ := BOf hk (n := o + b) (by omega) (by omega)
  obtain ⟨y15, e15, r15⟩ := BMul hk r13 hd
  obtain ⟨y17, e17, r17⟩ := BOf hk (n := 65536) (by decide) (by decide)
  obtain ⟨y19, e19, r19⟩ := BMul hk hn r17
  have c3 : ∀ y, tourref2_part.c3 k o b (cmpI y (Y * 65536)) = some (if y ≤ Y * 65536 then o + b else o) := by
    intro y
    unfold tourref2_part.c3
    rw [cmp_ile]
    by_cases z : y ≤ Y * 65536
    · rw [decide_eq_true z, bif_true, if_pos z, iadd_i64 (by omega) (by omega)]
    · rw [decide_eq_false z, bif_false, if_neg z]
  rw [tourref2_part.c2, igt_pos b0, bif_true, iadd_i64 (by omega) (by omega), e13, bnd_some]
  dsimp only
  rw [e15, bnd_some, e17, bnd_some, e19, bnd_some, BCmp hk r15 r19 (by unfold SR; omega) (by unfold SR; omega), bnd_some, c3, bnd_some, iquo_i64 (by omega) (by omega) (by decide)]
theorem part_loop {k : Nat} (hk : 9 ≤ k) {n d : List Int} {Y w : Int} (hn : BR n Y) (hd : BR d w) (w0 : 0 < w) (wb : w ≤ 4611686018427387904) (Y0 : 0 ≤ Y) (Yb : Y ≤ w) : ∀ (m f : Nat) (o b : Int), m + 1 < f → b = 2 ^ m → 0 ≤ o → o + 2 * b ≤ 131072 → o * w ≤ Y * 65536 → Y * 65536 < (o + 2 * b) * w →
    ∃ t, tourref2_part.c2 k (n, d) f o b = some t ∧ 0 ≤ t ∧ t * w ≤ Y * 65536 ∧ Y * 65536 < (t + 1) * w := by
  intro m
  induction m with
  | zero =>
    intro f o b hf hb o0 ob h1 h2
    obtain ⟨f, rfl⟩ : ∃ j, f = j + 2 := ⟨f - 2, by omega⟩
    have hb : b = 1 := by rw [hb]; decide
    subst hb
    rw [part_step hk hn hd w0 wb Y0 Yb (f + 1) o0 (by decide) (by omega), tourref2_part.c2, igt_neg (by decide), bif_false]
    refine ⟨_, rfl, ?_, ?_, ?_⟩
    · split <;> omega
    · split <;> omega
    · split
      · have e : o + 1 + 1 = o + 2 * 1 := by omega
        rw [e]; exact h2
      · omega
  | succ m ih =>
    intro f o b hf hb o0 ob h1 h2
    obtain ⟨f, rfl⟩ : ∃ j, f = j + 1 := ⟨f - 1, by omega⟩
    have e2 : (2 : Int) ^ (m + 1) = 2 * 2 ^ m := by rw [Int.pow_succ]; omega
    have p2 : (0 : Int) < 2 ^ m := Int.pow_pos (by decide)
    rw [part_step hk hn hd w0 wb Y0 Yb f o0 (by omega) (by omega)]
    have bb : 2 * (b / 2) = b := by omega
    refine ih f _ (b / 2) (by omega) (by omega) ?_ ?_ ?_ ?_
    · split <;> omega
    · split <;> omega
    · split <;> omega
    · rw [bb]
      split
      · have e : o + b + b = o + 2 * b := by omega
        rw [e]; exact h2
      · omega
theorem part_eq {k : Nat} (hk : 40 ≤ k) {n d : List Int} {N D Y w : Int} (hn : BR n N) (hd : BR d D) (hw : (0 < D ∧ Y = N ∧ w = D) ∨ (D < 0 ∧ Y = -N ∧ w = -D)) (Y0 : 0 ≤ Y) (Yb : Y ≤ w) (wb : w ≤ 4611686018427387904) :
    ∃ t, tourref2_part k n d = some t ∧ 0 ≤ t ∧ t ≤ 65536 ∧ t * w ≤ Y * 65536 ∧ Y * 65536 < (t + 1) * w := by
  have w0 : 0 < w := by omega
  have hq : ∃ n' d', tourref2_part.c1 k n d (decide (D < 0)) = some (n', d') ∧ BR n' Y ∧ BR d' w := by
    unfold tourref2_part.c1
    rcases hw with ⟨h, e1, e2⟩ | ⟨h, e1, e2⟩
    · rw [decide_eq_false (by omega), bif_false]
      subst e1 e2
      exact ⟨_, _, rfl, hn, hd⟩
    · obtain ⟨n', f1, r1⟩ := BNeg (k := k) (by omega) hn
      obtain ⟨d', f2, r2⟩ := BNeg (k := k) (by omega) hd
      rw [decide_eq_true h, bif_true, f1, bnd_some, f2, bnd_some]
      subst e1 e2
      exact ⟨_, _, rfl, r1, r2⟩
  obtain ⟨n', d', q1, q2, q3⟩ := hq
  obtain ⟨t, t1, t2, t3, t4⟩ := part_loop (k := k) (by omega) q2 q3 w0 wb Y0 Yb 16 k 0 65536 (by omega) (by decide) (by decide) (by decide) (by rw [Int.zero_mul]; omega) (by omega)
  have tb : t ≤ 65536 := by
    have : t * w ≤ 65536 * w := by omega
    exact Int.le_of_mul_le_mul_right this w0
  unfold tourref2_part
  rw [BBelow k hd (by unfold SR; omega), bnd_some, q1, bnd_some, t1, bnd_some]
  exact ⟨t, congrArg some (by unfold imin; split <;> omega), t2, tb, t3, t4⟩
theorem floor_le {t w X f v Y : Int} (hw : 0 < w) (hv : 0 < v) (h1 : t * w ≤ X * 65536) (h2 : Y * 65536 < (f + 1) * v) (h : X * v ≤ Y * w) : t ≤ f := by
  have p1 := Int.mul_le_mul_of_nonneg_right h1 (Int.le_of_lt hv)
  have p2 := Int.mul_lt_mul_of_pos_right h2 hw
  have e1 : t * w * v = t * (w * v) := by grind
  have e2 : X * 65536 * v = X * v * 65536 := by grind
  have e3 : Y * 65536 * w = Y * w * 65536 := by grind
  have e4 : (f + 1) * v * w = (f + 1) * (w * v) := by grind
  have : t * (w * v) < (f + 1) * (w * v) := by omega
  have := Int.lt_of_mul_lt_mul_right this (Int.le_of_lt (Int.mul_pos hw hv))
  omega
section
variable {l : List V22} {a b : V22}
theorem Wb_cor (hl : Big1 l) {i : Int} (i0 : 0 ≤ i) (i1 : i < len l) : Wb (q l i) := by
  have := hl.2.2 i i0 i1
  unfold Wb
  omega
theorem edge_val {k : Nat} (hk : 40 ≤ k) (hl : Big1 l) (he : EdgeP l) (ha : Wn a) (hb : Wn b) (hout : ¬ InP l a) {v : Int} (v0 : 0 ≤ v) (v1 : v < len l) (hc : CrP (q l v) (q l (nx (len l) v)) a (pl a b)) :
    ∃ y23 y25 y27 y29 y31 f Y w, tourref2_Out k l v = some y23 ∧ tourref2_sub k (el Z22 l v) a = some y25 ∧ tourref2_Dot k y23 y25 = some y27 ∧ tourref2_Dot k y23 b = some y29 ∧ tourref2_Big_Cmp k y29 (List.replicate 8 0) = some y31 ∧ tourref2_Line.c3 k l a b v y27 y29 y31 = some f ∧
      0 < w ∧ 0 ≤ Y ∧ Y ≤ w ∧ Fea l a b Y w ∧ (0 ≤ f ∧ f ≤ 65536 ∧ f * w ≤ Y * 65536 ∧ Y * 65536 < (f + 1) * w) ∧ (dn l b v < 0 → Y = -nu l a v ∧ w = -dn l b v) := by
  have h16 := hl.2.1
  have hn := nx_range v0 v1
  have hr : irem (iadd .i64 v 1) (len l) = nx (len l) v := irem_nx v0 v1 (by omega)
  have bd := nd_bd hl ha hb v0 v1
  have b1 := hl.2.2 v v0 v1
  have b2 := hl.2.2 _ hn.1 hn.2
  have ha' := ha
  have hb' := hb
  unfold Wn at ha' hb'
  have o1 : tourref2_Out k l v = some ((q l (nx (len l) v)).2.1 - (q l v).2.1, -((q l (nx (len l) v)).1 - (q l v).1), ()) := by
    unfold tourref2_Out tourref2_sub
    rw [req_pos (show nz (len l) by unfold nz; omega), req_pos (show inL (irem (iadd .i64 v 1) (len l)) l by rw [hr]; exact inL_of hn.1 hn.2), req_pos (inL_of v0 v1), hr]
    show bnd (some (isub .i64 (q l (nx (len l) v)).1 (q l v).1, isub .i64 (q l (nx (len l) v)).2.1 (q l v).2.1, ())) _ = _
    rw [isub_i64 (x := (q l (nx (len l) v)).1) (by omega) (by omega), isub_i64 (x := (q l (nx (len l) v)).2.1) (by omega) (by omega), bnd_some]
    dsimp only
    congr 3
    unfold ineg
    rw [wrap_i64 (by omega) (by omega)]
    omega
  have sb1 : ∀ i, 0 ≤ i → i < len l → tourref2_sub k (el Z22 l i) a = some ((q l i).1 - a.1, (q l i).2.1 - a.2.1, ()) := by
    intro i i0 i1
    have := hl.2.2 i i0 i1
    unfold tourref2_sub
    show some (isub .i64 (q l i).1 a.1, isub .i64 (q l i).2.1 a.2.1, ()) = _
    rw [isub_i64 (x := (q l i).1) (by omega) (by omega), isub_i64 (x := (q l i).2.1) (by omega) (by omega)]
  obtain ⟨y27, e27, r27⟩ := BDot (k := k) (by omega) (a := ((q l (nx (len l) v)).2.1 - (q l v).2.1, -((q l (nx (len l) v)).1 - (q l v).1), ())) (b := ((q l v).1 - a.1, (q l v).2.1 - a.2.1, ())) (by unfold I64; dsimp only; omega) (by unfold I64; dsimp only; omega) (by unfold I64; dsimp only; omega) (by unfold I64; dsimp only; omega)
  obtain ⟨y29, e29, r29⟩ := BDot (k := k) (by omega) (a := ((q l (nx (len l) v)).2.1 - (q l v).2.1, -((q l (nx (len l) v)).1 - (q l v).1), ())) (b := b) (by unfold I64; dsimp only; omega) (by unfold I64; dsimp only; omega) (by unfold I64; omega) (by unfold I64; omega)
  have eN : ((q l (nx (len l) v)).2.1 - (q l v).2.1) * ((q l v).1 - a.1) + -((q l (nx (len l) v)).1 - (q l v).1) * ((q l v).2.1 - a.2.1) = nu l a v := by unfold nu tri; grind
  have eD : ((q l (nx (len l) v)).2.1 - (q l v).2.1) * b.1 + -((q l (nx (len l) v)).1 - (q l v).1) * b.2.1 = dn l b v := by unfold dn; grind
  dsimp only at r27 r29
  rw [eN] at r27
  rw [eD] at r29
  have e31 := BCmp (k := k) (by omega) r29 BR_zero (by unfold SR; omega) (by unfold SR; omega)
  rcases edge_cr he hl.1 hout v0 v1 hc with ⟨d, n0, n1, hf⟩ | ⟨d, n0, n1, hf⟩ | ⟨d, w0, n0, n1, hf⟩
  · obtain ⟨t, t1, t2, t3, t4, t5⟩ := part_eq hk r27 r29 (Or.inl ⟨d, rfl, rfl⟩) n0 n1 (by omega)
    refine ⟨_, _, y27, y29, _, t, _, _, o1, sb1 v v0 v1, e27, e29, e31, ?_, d, n0, n1, hf, ⟨t2, t3, t4, t5⟩, fun h => by omega⟩
    unfold tourref2_Line.c3
    rw [ieq_neg (fun h => by have := (cmpI_zero _).1 h; omega), bif_false, t1, bnd_some]
  · obtain ⟨t, t1, t2, t3, t4, t5⟩ := part_eq hk r27 r29 (Or.inr ⟨d, rfl, rfl⟩) n0 n1 (by omega)
    refine ⟨_, _, y27, y29, _, t, _, _, o1, sb1 v v0 v1, e27, e29, e31, ?_, by omega, n0, n1, hf, ⟨t2, t3, t4, t5⟩, fun h => ⟨rfl, rfl⟩⟩
    unfold tourref2_Line.c3
    rw [ieq_neg (fun h => by have := (cmpI_zero _).1 h; omega), bif_false, t1, bnd_some]
  · have mA1 := mul_bd (x := (q l v).1 - a.1) (y := b.1) (M := 196608000) (N := 65536000) (by omega) (by omega) (by omega) (by omega)
    have mA2 := mul_bd (x := (q l v).2.1 - a.2.1) (y := b.2.1) (M := 196608000) (N := 65536000) (by omega) (by omega) (by omega) (by omega)
    have mB1 := mul_bd (x := (q l (nx (len l) v)).1 - a.1) (y := b.1) (M := 196608000) (N := 65536000) (by omega) (by omega) (by omega) (by omega)
    have mB2 := mul_bd (x := (q l (nx (len l) v)).2.1 - a.2.1) (y := b.2.1) (M := 196608000) (N := 65536000) (by omega) (by omega) (by omega) (by omega)
    have mV1 := mul_bd (x := b.1) (y := b.1) (M := 65536000) (N := 65536000) (by omega) (by omega) (by omega) (by omega)
    have mV2 := mul_bd (x := b.2.1) (y := b.2.1) (M := 65536000) (N := 65536000) (by omega) (by omega) (by omega) (by omega)
    obtain ⟨y36, e36, r36⟩ := BDot (k := k) (by omega) (a := ((q l v).1 - a.1, (q l v).2.1 - a.2.1, ())) (b := b) (by unfold I64; dsimp only; omega) (by unfold I64; dsimp only; omega) (by unfold I64; omega) (by unfold I64; omega)
    obtain ⟨y40, e40, r40⟩ := BDot (k := k) (by omega) (a := ((q l (nx (len l) v)).1 - a.1, (q l (nx (len l) v)).2.1 - a.2.1, ())) (b := b) (by unfold I64; dsimp only; omega) (by unfold I64; dsimp only; omega) (by unfold I64; omega) (by unfold I64; omega)
    obtain ⟨y47, e47, r47⟩ := BDot (k := k) (by omega) (a := b) (b := b) (by unfold I64; omega) (by unfold I64; omega) (by unfold I64; omega) (by unfold I64; omega)
    dsimp only at r36 r40
    have e42 := BCmp (k := k) (by omega) r40 r36 (by unfold SR; omega) (by unfold SR; omega)
    have c4 : ∃ y, tourref2_Line.c4 k y36 y40 (cmpI (((q l (nx (len l) v)).1 - a.1) * b.1 + ((q l (nx (len l) v)).2.1 - a.2.1) * b.2.1) (((q l v).1 - a.1) * b.1 + ((q l v).2.1 - a.2.1) * b.2.1)) = some y ∧ BR y (nearE (q l v) (q l (nx (len l) v)) a b) := by
      unfold tourref2_Line.c4 nearE
      rw [cmp_ilt]
      by_cases z : ((q l (nx (len l) v)).1 - a.1) * b.1 + ((q l (nx (len l) v)).2.1 - a.2.1) * b.2.1 < ((q l v).1 - a.1) * b.1 + ((q l v).2.1 - a.2.1) * b.2.1
      · rw [decide_eq_true z, bif_true, if_pos z]
        exact ⟨_, rfl, r40⟩
      · rw [decide_eq_false z, bif_false, if_neg z]
        exact ⟨_, rfl, r36⟩
    obtain ⟨y, c4, r⟩ := c4
    obtain ⟨t, t1, t2, t3, t4, t5⟩ := part_eq hk r r47 (Or.inl ⟨w0, rfl, rfl⟩) n0 n1 (by omega)
    refine ⟨_, _, y27, y29, _, t, _, _, o1, sb1 v v0 v1, e27, e29, e31, ?_, w0, n0, n1, hf, ⟨t2, t3, t4, t5⟩, fun h => by omega⟩
    unfold tourref2_Line.c3
    rw [ieq_pos ((cmpI_zero _).2 d), bif_true, sb1 v v0 v1, bnd_some, e36, bnd_some, hr, sb1 _ hn.1 hn.2, bnd_some, e40, bnd_some, e42, bnd_some, c4, bnd_some, e47, bnd_some, t1, bnd_some]
theorem RLine_eq {k : Nat} (hk : 40 ≤ k) (hl : Big1 l) (he : EdgeP l) (ha : Wn a) (hb : Wn b) {h : Int × Bool} (hh : HitS l a b h) : tourref2_Line k l a b = some h := by
  have h16 := hl.2.1
  have h3 := hl.1
  have wa : Wb a := by unfold Wn at ha; unfold Wb; omega
  have wt : Wb (pl a b) := by
    unfold Wn at ha hb
    unfold Wb pl
    dsimp only
    omega
  have tt : (iadd .i64 a.1 b.1, iadd .i64 a.2.1 b.2.1, ()) = pl a b := by
    unfold Wn at ha hb
    rw [iadd_i64 (by omega) (by omega), iadd_i64 (by omega) (by omega)]
    rfl
  obtain ⟨s, hs, e1⟩ := inv_loop (fun n (s : Bool) v => tourref2_Line.c1 k l a n s v) 0 (len l) (fun s v => s = true ↔ ∀ j, 0 ≤ j → j < v → 0 ≤ nu l a j)
    (by
      intro n s v v0 v1 hI
      have hn := nx_range v0 v1
      have hr : irem (iadd .i64 v 1) (len l) = nx (len l) v := irem_nx v0 v1 (by omega)
      have st : iadd .i64 v 1 = v + 1 := iadd_i64 (by omega) (by omega)
      cases s with
      | true =>
        refine ⟨decide (0 ≤ nu l a v), ?_, ?_⟩
        · rw [decide_eq_true_eq]
          constructor
          · intro z j j0 j1
            by_cases c : j = v
            · rw [c]; exact z
            · exact hI.1 rfl j j0 (by omega)
          · intro z
            exact z v v0 (by omega)
        · show tourref2_Line.c1 k l a (n + 1) true v = _
          rw [tourref2_Line.c1, ilt_pos v1, bif_true, req_pos (inL_of v0 v1), bif_true, req_pos (show nz (len l) by unfold nz; omega), req_pos (show inL (irem (iadd .i64 v 1) (len l)) l by rw [hr]; exact inL_of hn.1 hn.2), hr]
          have := left_big (k := k) (by omega) (Wb_cor hl v0 v1) (Wb_cor hl hn.1 hn.2) wa
          show bnd (tourref2_left k (q l v) (q l (nx (len l) v)) a) _ = _
          rw [this, bnd_some, cmpI_nn, st]
          rfl
      | false =>
        refine ⟨false, ?_, ?_⟩
        · constructor
          · intro z; cases z
          · intro z
            exact hI.2 (fun j j0 j1 => z j j0 (by omega))
        · show tourref2_Line.c1 k l a (n + 1) false v = _
          rw [tourref2_Line.c1, ilt_pos v1, bif_true, req_pos (inL_of v0 v1), bif_false, st])
    (by
      intro n s v v0 v1
      show tourref2_Line.c1 k l a (n + 1) s v = _
      rw [tourref2_Line.c1, ilt_neg v1, bif_false])
    k true 0 (by omega) (by omega) (by omega) ⟨fun _ j j0 j1 => by omega, fun _ => rfl⟩
  have e1 : tourref2_Line.c1 k l a k true 0 = some s := e1
  unfold tourref2_Line
  rw [e1, bnd_some]
  by_cases hin : InP l a
  · have : s = true := hs.2 hin
    rw [this, bif_true]
    have f0 : Fea l a b 0 1 := by
      intro i i0 i1
      have : 0 ≤ nu l a i := hin i i0 i1
      omega
    rcases hh with ⟨X, w, h2, w0, X0, X1, hf, hmin, ⟨t0, t1, t2, t3⟩, _⟩ | ⟨_, hno⟩
    · have := hmin 0 1 (by decide) (by decide) (by decide) f0
      have X00 : X = 0 := by omega
      have : h.1 = 0 := by
        by_cases z : h.1 = 0
        · exact z
        · have := Int.mul_pos (show 0 < h.1 by omega) w0
          rw [X00] at t2
          omega
      rw [← this, ← h2]
    · exact absurd f0 (hno 0 1 (by decide) (by decide) (by decide))
  · have : s = false := by
      cases s with
      | false => rfl
      | true => exact absurd (hs.1 rfl) hin
    rw [this, bif_false]
    have crs : ∀ v, 0 ≤ v → v < len l → tourref2_cross k (el Z22 l v) (el Z22 l (nx (len l) v)) a (pl a b) = some (decide (CrP (q l v) (q l (nx (len l) v)) a (pl a b))) := by
      intro v v0 v1
      have hn := nx_range v0 v1
      exact cross_big (by omega) (Wb_cor hl v0 v1) (Wb_cor hl hn.1 hn.2) wa wt
    have skip : ∀ n v x y, 0 ≤ v → v < len l → ¬ CrP (q l v) (q l (nx (len l) v)) a (pl a b) → tourref2_Line.c2 k l a b (n + 1) x y v = tourref2_Line.c2 k l a b n x y (v + 1) := by
      intro n v x y v0 v1 hc
      have hn := nx_range v0 v1
      have hr : irem (iadd .i64 v 1) (len l) = nx (len l) v := irem_nx v0 v1 (by omega)
      have st : iadd .i64 v 1 = v + 1 := iadd_i64 (by omega) (by omega)
      rw [tourref2_Line.c2, ilt_pos v1, bif_true, req_pos (inL_of v0 v1), req_pos (show nz (len l) by unfold nz; omega), req_pos (show inL (irem (iadd .i64 v 1) (len l)) l by rw [hr]; exact inL_of hn.1 hn.2), hr, tt, crs v v0 v1, bnd_some, decide_eq_false hc, bif_false, st]
    have take : ∀ n v x y, 0 ≤ v → v < len l → CrP (q l v) (q l (nx (len l) v)) a (pl a b) → ∃ f Y w, 0 < w ∧ 0 ≤ Y ∧ Y ≤ w ∧ Fea l a b Y w ∧ (0 ≤ f ∧ f ≤ 65536 ∧ f * w ≤ Y * 65536 ∧ Y * 65536 < (f + 1) * w) ∧ (dn l b v < 0 → Y = -nu l a v ∧ w = -dn l b v) ∧
        tourref2_Line.c2 k l a b (n + 1) x y v = bif' (bif y then decide (f < x) else true) (tourref2_Line.c2 k l a b n f true (v + 1)) (tourref2_Line.c2 k l a b n x y (v + 1)) := by
      intro n v x y v0 v1 hc
      have hn := nx_range v0 v1
      have hr : irem (iadd .i64 v 1) (len l) = nx (len l) v := irem_nx v0 v1 (by omega)
      have st : iadd .i64 v 1 = v + 1 := iadd_i64 (by omega) (by omega)
      obtain ⟨y23, y25, y27, y29, y31, f, Y, w, o1, o2, o3, o4, o5, o6, p1, p2, p3, p4, p5, p6⟩ := edge_val hk hl he ha hb hin v0 v1 hc
      refine ⟨f, Y, w, p1, p2, p3, p4, p5, p6, ?_⟩
      have c5 : tourref2_Line.c5 k f x y = some (bif y then decide (f < x) else true) := by
        unfold tourref2_Line.c5
        cases y <;> rfl
      rw [tourref2_Line.c2, ilt_pos v1, bif_true, req_pos (inL_of v0 v1), req_pos (show nz (len l) by unfold nz; omega), req_pos (show inL (irem (iadd .i64 v 1) (len l)) l by rw [hr]; exact inL_of hn.1 hn.2), hr, tt, crs v v0 v1, bnd_some, decide_eq_true hc, bif_true, o1, bnd_some, o2, bnd_some, o3, bnd_some, o4, bnd_some, o5, bnd_some, o6, bnd_some, c5, bnd_some, st]
    rcases hh with ⟨X, w, h2, w0, X0, X1, hf, hmin, ⟨t0, t1, t2, t3⟩, hl2⟩ | ⟨h0, hno⟩
    · rcases hl2 with ⟨x0, x1⟩ | ⟨i, i0, i1, d, x0, x1⟩
      · exfalso
        apply hin
        rw [x0, x1] at hf
        intro j j0 j1
        have := hf j j0 j1
        show 0 ≤ nu l a j
        omega
      · rw [x0, x1] at hf
        have hci := edge_rc he h3 i0 i1 d (by omega) (by omega) hf
        obtain ⟨s2, ⟨I1, I2⟩, e2⟩ := inv_loop (fun n (s : Int × Bool) v => tourref2_Line.c2 k l a b n s.1 s.2 v) 0 (len l) (fun s v => (s.2 = true → h.1 ≤ s.1) ∧ (i < v → s = (h.1, true)))
          (by
            intro n s v v0 v1 ⟨I1, I2⟩
            show ∃ s', _ ∧ tourref2_Line.c2 k l a b (n + 1) s.1 s.2 v = _
            by_cases hc : CrP (q l v) (q l (nx (len l) v)) a (pl a b)
            · obtain ⟨f, Y, u, u0, Y0, Y1, hf2, ⟨f0, f1, f2, f3⟩, hd, e⟩ := take n v s.1 s.2 v0 v1 hc
              have le1 : h.1 ≤ f := floor_le w0 u0 t2 f3 (hmin Y u u0 Y0 Y1 hf2)
              have eq1 : v = i → f = h.1 := by
                intro z
                subst z
                obtain ⟨z1, z2⟩ := hd d
                have : f ≤ h.1 := floor_le u0 w0 f2 t3 (by rw [z1, z2, x0, x1]; exact Int.le_refl _)
                omega
              rw [e]
              cases hs2 : s.2 with
              | false =>
                refine ⟨(f, true), ⟨fun _ => le1, fun z => ?_⟩, rfl⟩
                by_cases c : v = i
                · rw [eq1 c]
                · have := I2 (by omega)
                  rw [this] at hs2
                  cases hs2
              | true =>
                have b1 := I1 hs2
                by_cases lt : f < s.1
                · refine ⟨(f, true), ⟨fun _ => le1, fun z => ?_⟩, ?_⟩
                  · by_cases c : v = i
                    · rw [eq1 c]
                    · have := I2 (by omega)
                      rw [this] at lt
                      dsimp only at lt
                      omega
                  · show bif' (decide (f < s.1)) _ _ = _
                    rw [decide_eq_true lt, bif_true]
                · refine ⟨s, ⟨fun _ => b1, fun z => ?_⟩, ?_⟩
                  · by_cases c : v = i
                    · have := eq1 c
                      have : s.1 = h.1 := by omega
                      rw [← this, ← hs2]
                    · exact I2 (by omega)
                  · show bif' (decide (f < s.1)) _ _ = _
                    rw [decide_eq_false lt, bif_false, hs2]
            · refine ⟨s, ⟨I1, fun z => ?_⟩, skip n v s.1 s.2 v0 v1 hc⟩
              by_cases c : v = i
              · rw [c] at hc
                exact absurd hci hc
              · exact I2 (by omega))
          (by
            intro n s v v0 v1
            show tourref2_Line.c2 k l a b (n + 1) s.1 s.2 v = _
            rw [tourref2_Line.c2, ilt_neg v1, bif_false])
          k (0, false) 0 (by omega) (by omega) (by omega) ⟨fun z => (by cases z), fun z => (by omega)⟩
        have e2 : tourref2_Line.c2 k l a b k 0 false 0 = some s2 := e2
        rw [e2, bnd_some, I2 i1, ← h2]
    · obtain ⟨s2, I1, e2⟩ := inv_loop (fun n (s : Int × Bool) v => tourref2_Line.c2 k l a b n s.1 s.2 v) 0 (len l) (fun s _ => s = (0, false))
        (by
          intro n s v v0 v1 I1
          refine ⟨s, I1, ?_⟩
          refine skip n v s.1 s.2 v0 v1 (fun hc => ?_)
          obtain ⟨f, Y, u, u0, Y0, Y1, hf2, _⟩ := take n v s.1 s.2 v0 v1 hc
          exact hno Y u u0 Y0 Y1 hf2)
        (by
          intro n s v v0 v1
          show tourref2_Line.c2 k l a b (n + 1) s.1 s.2 v = _
          rw [tourref2_Line.c2, ilt_neg v1, bif_false])
        k (0, false) 0 (by omega) (by omega) (by omega) rfl
      have e2 : tourref2_Line.c2 k l a b k 0 false 0 = some s2 := e2
      rw [e2, bnd_some, I1, h0]
end
end Go.Proofs.T1
namespace Go.Proofs.T1
open Go Go.Sx

/-! RayCasts -/
theorem rwithin_gen (k : Nat) (a : V22) : ray_within k a = some (decide (Wn a)) := by
  unfold ray_within Wn
  by_cases h1 : a.1 ≥ -65536000 <;> by_cases h2 : a.1 ≤ 65536000 <;> by_cases h3 : a.2.1 ≥ -65536000 <;> by_cases h4 : a.2.1 ≤ 65536000 <;>
    simp [ige, ile, bif', h1, h2, h3, h4] <;> omega
theorem near1000_eq (k : Nat) (a : V22) : tourlaw2_near1000 k a = some (decide (Wn a)) := by
  have hm : imax a.1 a.2.1 ≤ 65536000 ↔ a.1 ≤ 65536000 ∧ a.2.1 ≤ 65536000 := by unfold imax; split <;> omega
  have hn : imin a.1 a.2.1 ≥ -65536000 ↔ -65536000 ≤ a.1 ∧ -65536000 ≤ a.2.1 := by unfold imin; split <;> omega
  unfold tourlaw2_near1000
  by_cases h1 : imax a.1 a.2.1 ≤ 65536000
  · rw [ile_pos h1, bif_true]
    unfold ige
    congr 1
    rw [decide_eq_decide, hn]
    rw [hm] at h1
    unfold Wn
    omega
  · rw [ile_neg (by omega), bif_false, decide_eq_false]
    intro h
    rw [hm] at h1
    unfold Wn at h
    omega
theorem both_dec (p r : Prop) [Decidable p] [Decidable r] : (bif' (decide p) (some (!(decide r))) (some true) : Option Bool) = some (decide (¬ (p ∧ r))) := by
  by_cases h : p
  · rw [decide_eq_true h, bif_true]
    by_cases g : r
    · rw [decide_eq_true g]
      exact congrArg some (decide_eq_false (p := ¬ (p ∧ r)) (fun w => w ⟨h, g⟩)).symm
    · rw [decide_eq_false g]
      exact congrArg some (decide_eq_true (p := ¬ (p ∧ r)) (fun w => g w.2)).symm
  · rw [decide_eq_false h, bif_false]
    exact congrArg some (decide_eq_true (p := ¬ (p ∧ r)) (fun w => h w.1)).symm
theorem castc1 (k : Nat) (a b : V22) : ray_Cast.c1 k a b = some (decide (¬ (Wn a ∧ Wn b))) := by
  unfold ray_Cast.c1
  rw [rwithin_gen, bnd_some, rwithin_gen, bnd_some]
  exact both_dec _ _
theorem linec1 (k : Nat) (a b : V22) : ray_Line.c1 k a b = some (decide (¬ (Wn a ∧ Wn b))) := by
  unfold ray_Line.c1
  rw [rwithin_gen, bnd_some, rwithin_gen, bnd_some]
  exact both_dec _ _
theorem law_c1 (k : Nat) (a b : V22) (y : Int) : tourlaw2_RayCasts.c1 k a b y = some (decide (y = 0 ∧ ¬ (Wn a ∧ Wn b))) := by
  unfold tourlaw2_RayCasts.c1
  by_cases h : y = 0
  · rw [ieq_pos h, bif_true, near1000_eq, bnd_some, near1000_eq, bnd_some]
    refine (both_dec _ _).trans ?_
    congr 1
    rw [decide_eq_decide]
    exact ⟨fun w => ⟨h, w⟩, fun w => w.2⟩
  · rw [ieq_neg h, bif_false, decide_eq_false (fun w => h w.1)]
theorem law_c5 (k : Nat) (a b : V22) (y : Int) : tourlaw2_RayCasts.c5 k a b y = some (decide (y = 0 ∧ ¬ (Wn a ∧ Wn b))) := law_c1 k a b y
/-- The first of a list that the reference finds, from behind. -/
theorem rfirst_loop {k : Nat} {l : List V25} {f : ((List V22) × Unit) → Option (Int × Bool)} {g : Int → Int × Bool} (hg : ∀ j, 0 ≤ j → j < len l → (∃ P, tourref2_Placed k (el Z25 l j) = some P ∧ f (P, ()) = some (g j)) ∧ ((g j).2 = true → 0 ≤ (g j).1)) (hl : len l ≤ 64) :
    ∀ (n : Nat) (v : Int) (s : Int × Int), -1 ≤ v → v < len l → v + 1 < (n : Int) →
      ((s = (0, -1) ∧ ∀ j, v < j → j < len l → (g j).2 = false) ∨ (v < s.1 ∧ 0 ≤ s.1 ∧ s.1 < len l ∧ (g s.1).2 = true ∧ s.2 = (g s.1).1 ∧ ∀ j, v < j → j < len l → (g j).2 = true → (g s.1).1 ≤ (g j).1 ∧ (j < s.1 → (g s.1).1 < (g j).1))) →
      ∃ s', tourref2_First.c1 k l f n s.1 s.2 v = some s' ∧ ((s' = (0, -1) ∧ ∀ j, 0 ≤ j → j < len l → (g j).2 = false) ∨ (0 ≤ s'.1 ∧ s'.1 < len l ∧ (g s'.1).2 = true ∧ s'.2 = (g s'.1).1 ∧ ∀ j, 0 ≤ j → j < len l → (g j).2 = true → (g s'.1).1 ≤ (g j).1 ∧ (j < s'.1 → (g s'.1).1 < (g j).1))) := by
  intro n
  induction n with
  | zero => intro v s h0 _ h1; omega
  | succ n ih =>
    intro v s v0 v1 vn hI
    rw [tourref2_First.c1]
    by_cases c : 0 ≤ v
    · obtain ⟨⟨P, p1, p2⟩, p3⟩ := hg v c v1
      have st : isub .i64 v 1 = v - 1 := isub_i64 (by omega) (by omega)
      rw [ige_pos c, bif_true, req_pos (inL_of c v1), p1, bnd_some, p2, bnd_some, st]
      have c2 : ∀ x, tourref2_First.c2 k x (g v) = some ((g v).2 && (decide (x < 0) || decide ((g v).1 ≤ x))) := by
        intro x
        unfold tourref2_First.c2
        cases hz : (g v).2 with
        | false => rw [bif_false]; rfl
        | true =>
          rw [bif_true]
          by_cases d : x < 0
          · rw [ilt_pos d, bif_true, decide_eq_true d]; rfl
          · rw [ilt_neg (by omega), bif_false, decide_eq_false d]; rfl
      rw [c2, bnd_some]
      unfold tourref2_First.c3
      cases hz : (g v).2 with
      | false =>
        show ∃ s', bnd (bif' false _ _) _ = _ ∧ _
        rw [bif_false, bnd_some]
        refine ih (v - 1) s (by omega) (by omega) (by omega) ?_
        rcases hI with ⟨a, b⟩ | ⟨a, a0, a1, b, d, e⟩
        · refine Or.inl ⟨a, fun j j0 j1 => ?_⟩
          by_cases q : j = v
          · rw [q]; exact hz
          · exact b j (by omega) j1
        · refine Or.inr ⟨by omega, a0, a1, b, d, fun j j0 j1 j2 => ?_⟩
          by_cases q : j = v
          · rw [q, hz] at j2; cases j2
          · exact e j (by omega) j1 j2
      | true =>
        have g0 := p3 hz
        rcases hI with ⟨a, b⟩ | ⟨a, a0, a1, b, d, e⟩
        · rw [a, decide_eq_true (show (0, (-1 : Int)).2 < 0 by decide)]
          show ∃ s', bnd (bif' true _ _) _ = _ ∧ _
          rw [bif_true, bnd_some]
          refine ih (v - 1) (v, (g v).1) (by omega) (by omega) (by omega) (Or.inr ⟨by show v - 1 < v; omega, c, v1, hz, rfl, fun j j0 j1 j2 => ?_⟩)
          by_cases q : j = v
          · rw [q]; exact ⟨Int.le_refl _, fun x => absurd x (by show ¬ v < v; omega)⟩
          · rw [b j (by omega) j1] at j2; cases j2
        · have s0 : 0 ≤ s.2 := by rw [d]; exact (hg s.1 a0 a1).2 b
          by_cases le : (g v).1 ≤ s.2
          · rw [decide_eq_true le, Bool.or_true]
            show ∃ s', bnd (bif' true _ _) _ = _ ∧ _
            rw [bif_true, bnd_some]
            refine ih (v - 1) (v, (g v).1) (by omega) (by omega) (by omega) (Or.inr ⟨by show v - 1 < v; omega, c, v1, hz, rfl, fun j j0 j1 j2 => ?_⟩)
            by_cases q : j = v
            · rw [q]; exact ⟨Int.le_refl _, fun x => absurd x (by show ¬ v < v; omega)⟩
            · have := (e j (by omega) j1 j2).1
              refine ⟨by dsimp only; omega, fun x => ?_⟩
              dsimp only at x
              omega
          · rw [decide_eq_false le, decide_eq_false (by omega)]
            show ∃ s', bnd (bif' false _ _) _ = _ ∧ _
            rw [bif_false, bnd_some]
            refine ih (v - 1) s (by omega) (by omega) (by omega) (Or.inr ⟨by omega, a0, a1, b, d, fun j j0 j1 j2 => ?_⟩)
            by_cases q : j = v
            · rw [q]; exact ⟨by omega, fun x => by omega⟩
            · exact e j (by omega) j1 j2
    · rw [ige_neg (by omega), bif_false]
      have : v = -1 := by omega
      subst this
      refine ⟨s, rfl, ?_⟩
      rcases hI with ⟨a, b⟩ | ⟨a, a0, a1, b, d, e⟩
      · exact Or.inl ⟨a, fun j j0 j1 => b j (by omega) j1⟩
      · exact Or.inr ⟨a0, a1, b, d, fun j j0 j1 j2 => e j (by omega) j1 j2⟩
/-- The program's and the reference's first body are the same. -/
theorem rfirst_eq {k : Nat} (hk : 100 < k) {l : List V25} (hA : AllK k l) (hl : len l ≤ 64) {fp fr : ((List V22) × Unit) → Option (Int × Bool)} (hfp : ∀ m, Val m → ∃ h, fp (m, ()) = some h) 
    (hg : ∀ j, 0 ≤ j → j < len l → (∃ P, tourref2_Placed k (el Z25 l j) = some P ∧ fr (P, ()) = some (hitOf k fp (el Z25 l j))) ∧ ((hitOf k fp (el Z25 l j)).2 = true → 0 ≤ (hitOf k fp (el Z25 l j)).1)) :
    tourref2_First k l fr = ray_first k l fp := by
  obtain ⟨s, e, hs⟩ := rfirst_loop hg hl k (len l - 1) (0, -1) (by unfold len; omega) (by omega) (by omega) (Or.inl ⟨rfl, fun j j0 j1 => by omega⟩)
  have e : tourref2_First.c1 k l fr k 0 (-1) (len l - 1) = some s := e
  unfold tourref2_First
  rw [isub_i64 (by unfold len; omega) (by omega), e, bnd_some]
  rcases first_ok hk hA hl hfp with ⟨i, i0, i1, ⟨F1, F2⟩, f⟩ | ⟨F, f⟩
  · rw [f]
    rcases hs with ⟨a, b⟩ | ⟨a0, a1, b, d, c⟩
    · rw [b i i0 i1] at F1; cases F1
    · have k0 := (hg s.1 a0 a1).2 b
      rw [ilt_neg (by omega), bif_false, d]
      have x1 := F2 s.1 a0 a1 b
      have x2 := c i i0 i1 F1
      have : s.1 = i := by
        rcases Int.lt_trichotomy s.1 i with z | z | z
        · have := x1.2 z; omega
        · exact z
        · have := x2.2 z; omega
      rw [this]
  · rw [f]
    rcases hs with ⟨a, b⟩ | ⟨a0, a1, b, d, c⟩
    · rw [a, ilt_pos (by decide), bif_true]
    · rw [F s.1 a0 a1] at b; cases b
theorem cast_ref {k : Nat} (hk : 100 < k) {a b : V22} (ha : Wn a) (hb : Wn b) (y : V25) (hy : OKb k y) : (∃ P, tourref2_Placed k y = some P ∧ tourlaw2_RayCasts_1 k P a b = some (hitOf k (fun x => ray_Cast_1 k x.1 a b) y)) ∧ ((hitOf k (fun x => ray_Cast_1 k x.1 a b) y).2 = true → 0 ≤ (hitOf k (fun x => ray_Cast_1 k x.1 a b) y).1) := by
  obtain ⟨P, p1, p2, H⟩ := cast_hit hk ha hb y hy
  constructor
  · refine ⟨P, ?_, ?_⟩
    · obtain ⟨p, v, ang, spin, mass, inertia, bounce, rub, l, asleep, calm, _⟩ := y
      obtain ⟨l', e1, e2, _⟩ := Place_both (k := k) (by omega) hy
      rw [p1] at e1
      cases e1
      exact e2
    · unfold tourlaw2_RayCasts_1
      rw [RLine_eq (by omega) (Val_big p2) p2.2.2.2 ha hb H, bnd_some]
  · intro h
    rcases H with ⟨_, _, _, _, _, _, _, _, ⟨t0, _⟩, _⟩ | ⟨z, _⟩
    · exact t0
    · rw [z] at h; cases h
theorem rbegun_eq : tourlaw2_rayBegun 1000 = some true := by kernel_rfl
theorem RayCasts_true {k : Nat} (hk : 100 < k) (hb : tourlaw2_rayBegun k = some true) (B : List V25) (l : List V22) (a b : V22) : tourlaw2_RayCasts k B l a b = some true := by
  obtain ⟨e, e1, e2⟩ := Check_eq (k := k) (by omega) l
  obtain ⟨e', f1, f2⟩ := Poly_eq (k := k) (by omega) l
  have ee := Chk_uniq e2 f2
  subst ee
  obtain ⟨g, g1, g2, g3⟩ := kcheck (k := k) (by omega) hk B
  unfold tourlaw2_RayCasts
  rw [hb, bnd_some, bif_true]
  -- the segment and the polygon
  have part1 : ∃ y4, ray_Line k l a b = some y4 ∧ ∃ o18 o21 o27, tourlaw2_RayCasts.c1 k a b e = some o18 ∧ tourlaw2_RayCasts.c2 k o18 e = some o21 ∧ tourlaw2_RayCasts.c3 k l a b o21 = some o27 ∧ tourlaw2_RayCasts.c4 k o27 y4 = some false := by
    unfold ray_Line
    rw [e1, bnd_some, linec1]
    by_cases z : e = 0
    · subst z
      rw [ine_neg rfl, bif_false, bnd_some]
      by_cases w : Wn a ∧ Wn b
      · rw [decide_eq_false (fun h => h w), bif_false]
        have hv := Chk_zero e2
        obtain ⟨h, h1, h2⟩ := rline_hit (k := k) (by omega) (Val_big hv) w.1 w.2
        rw [h1, bnd_some]
        have r := RLine_eq (k := k) (by omega) (Val_big hv) hv.2.2.2 w.1 w.2 h2
        have q1 : tourlaw2_RayCasts.c1 k a b 0 = some false := by rw [law_c1, decide_eq_false (fun h => h.2 w)]
        have q2 : tourlaw2_RayCasts.c2 k false 0 = some 0 := rfl
        cases hz : h.2 with
        | true =>
          rw [bif_true]
          refine ⟨_, rfl, false, 0, (0, h.1), q1, q2, ?_, ?_⟩
          · unfold tourlaw2_RayCasts.c3
            rw [ieq_pos rfl, bif_true, r, bnd_some, hz, bif_true]
          · unfold tourlaw2_RayCasts.c4
            dsimp only
            rw [ine_neg rfl, bif_false, ine_neg rfl]
        | false =>
          rw [bif_false]
          refine ⟨_, rfl, false, 0, (4, 0), q1, q2, ?_, rfl⟩
          unfold tourlaw2_RayCasts.c3
          rw [ieq_pos rfl, bif_true, r, bnd_some, hz, bif_false]
      · rw [decide_eq_true w, bif_true]
        refine ⟨_, rfl, true, 1, (1, 0), by rw [law_c1, decide_eq_true ⟨rfl, w⟩], rfl, rfl, rfl⟩
    · rw [ine_pos z, bif_true]
      refine ⟨_, rfl, false, e, (e, 0), by rw [law_c1, decide_eq_false (fun h => z h.1)], rfl, ?_, ?_⟩
      · unfold tourlaw2_RayCasts.c3
        rw [ieq_neg z, bif_false]
      · unfold tourlaw2_RayCasts.c4
        dsimp only
        rw [ine_neg rfl, bif_false, ine_neg rfl]
  obtain ⟨y4, r1, o18, o21, o27, r2, r3, r4, r5⟩ := part1
  rw [r1, bnd_some]
  unfold ray_Cast
  rw [g1, bnd_some, castc1]
  by_cases z : g = 0
  · subst z
    obtain ⟨hA, hl⟩ := g3 rfl
    rw [ine_neg rfl, bif_false, bnd_some]
    by_cases w : Wn a ∧ Wn b
    · have rf := rfirst_eq hk hA hl (fp := fun x => ray_Cast_1 k x.1 a b) (fr := fun x => tourlaw2_RayCasts_1 k x.1 a b) (fun m hm => rline_tot (by omega) hm.2.1 a b) (fun j j0 j1 => cast_ref hk w.1 w.2 _ (hA j j0 j1))
      rw [decide_eq_false (fun h => h w), bif_false]
      have ft : ∃ y, ray_first k B (fun x => ray_Cast_1 k x.1 a b) = some y := by
        rcases first_ok hk hA hl (f := fun x => ray_Cast_1 k x.1 a b) (fun m hm => rline_tot (by omega) hm.2.1 a b) with ⟨i, _, _, _, h⟩ | ⟨_, h⟩
        · exact ⟨_, h⟩
        · exact ⟨_, h⟩
      obtain ⟨y, hy⟩ := ft
      rw [hy] at rf
      have q5 : tourlaw2_RayCasts.c5 k a b 0 = some false := by rw [law_c5, decide_eq_false (fun h => h.2 w)]
      have q6 : tourlaw2_RayCasts.c6 k false 0 = some 0 := rfl
      rw [hy, bnd_some, bnd_some, f1, bnd_some, g2, bnd_some, r2, bnd_some, r3, bnd_some, r4, bnd_some, r5, bnd_some, bif_false, q5, bnd_some, q6, bnd_some, ine_neg rfl, bif_false, rf, bnd_some]
      dsimp only
      rw [ieq_pos rfl, bif_true, ieq_pos rfl, bif_true, ieq_pos rfl]
    · have q5 : tourlaw2_RayCasts.c5 k a b 0 = some true := by rw [law_c5, decide_eq_true ⟨rfl, w⟩]
      have q6 : tourlaw2_RayCasts.c6 k true 0 = some 1 := rfl
      have q7 : tourlaw2_RayCasts.c7 k 1 (0, 0, 1) = some true := rfl
      rw [decide_eq_true w, bif_true, bnd_some, f1, bnd_some, g2, bnd_some, r2, bnd_some, r3, bnd_some, r4, bnd_some, r5, bnd_some, bif_false, q5, bnd_some, q6, bnd_some, ine_pos (by decide), bif_true, q7, bnd_some]
  · have q5 : tourlaw2_RayCasts.c5 k a b g = some false := by rw [law_c5, decide_eq_false (fun h => z h.1)]
    have q6 : tourlaw2_RayCasts.c6 k false g = some g := rfl
    have q7 : tourlaw2_RayCasts.c7 k g (0, 0, g) = some true := by
      unfold tourlaw2_RayCasts.c7
      dsimp only
      rw [ieq_pos rfl, bif_true]
      rfl
    rw [ine_pos z, bif_true, bnd_some, f1, bnd_some, g2, bnd_some, r2, bnd_some, r3, bnd_some, r4, bnd_some, r5, bnd_some, bif_false, q5, bnd_some, q6, bnd_some, ine_pos z, bif_true, q7, bnd_some]
theorem tourlaw2_RayCasts_plain (x : ((.pair (.slice T25) (.pair (.slice T22) (.pair T22 (.pair T22 .unit)))) : Ty).den) (_ : Ty.wf (.pair (.slice T25) (.pair (.slice T22) (.pair T22 (.pair T22 .unit)))) x) : ∃ k, (tourlaw2_RayCasts.sp k).f x = some true := by
  obtain ⟨B, l, a, b, _⟩ := x
  obtain ⟨K, hK⟩ : ∃ K : Nat, K = 1000 := ⟨_, rfl⟩
  have hb := rbegun_eq
  rw [← hK] at hb
  exact ⟨K, RayCasts_true (by omega) hb B l a b⟩
end Go.Proofs.T1
