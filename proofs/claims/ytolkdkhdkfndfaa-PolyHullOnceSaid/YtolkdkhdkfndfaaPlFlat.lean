/-
  Plain laws: no program in sight.
-/
import Derived.Test.YtolkdkhdkfndfaaPlWrap
namespace Go.Proofs.T1
open Go Go.Sx

/-! Gift wrapping where all points lie on one line -/
theorem par_nn {y1 y2 z1 z2 : Int} (hz : 0 < z2 ∨ (z2 = 0 ∧ 0 < z1)) (hy : 0 < y2 ∨ (y2 = 0 ∧ 0 ≤ y1)) (h : z1 * y2 = z2 * y1) : 0 ≤ y1 * z1 + y2 * z2 := by
  have p2 : 0 ≤ y2 * z2 := Int.mul_nonneg (by omega) (by omega)
  have p1 : 0 ≤ y1 * z1 := by
    rcases hz with hz | ⟨hz, hz'⟩
    · rcases hy with hy | ⟨hy, hy'⟩
      · have h3 : 0 < y2 * z2 := Int.mul_pos hy hz
        have h4 : (y2 * z2) * (y1 * z1) = (z1 * y2) * (z1 * y2) := by
          have : (y2 * z2) * (y1 * z1) = (z1 * y2) * (z2 * y1) := by grind
          rw [this, ← h]
        exact nn_of_mul h3 (by rw [h4]; exact sq_nn _)
      · rw [hy, Int.mul_zero] at h
        rcases Int.mul_eq_zero.1 h.symm with e | e
        · omega
        · rw [e, Int.zero_mul]; exact Int.le_refl 0
    · rw [hz, Int.zero_mul] at h
      rcases Int.mul_eq_zero.1 h with e | e
      · omega
      · exact Int.mul_nonneg (by omega) (by omega)
  omega
theorem dt_more {y z : V27} (hz : Up z) (hy : (y.1 = 0 ∧ y.2.1 = 0) ∨ Up y) (h : cr z y = 0) : dt y y < dt (pl y z) (pl y z) := by
  obtain ⟨y1, y2, u⟩ := y
  obtain ⟨z1, z2, u'⟩ := z
  unfold Up at *
  unfold cr at h
  unfold dt pl
  dsimp only at *
  have a := par_nn (y1 := y1) (y2 := y2) hz (by omega) (by omega)
  have b1 := sq_nn z1
  have b2 := sq_nn z2
  have b3 : 0 < z1 * z1 ∨ 0 < z2 * z2 := by
    rcases hz with g | ⟨_, g⟩
    · exact .inr (Int.mul_pos g g)
    · exact .inl (Int.mul_pos g g)
  have e : (y1 + z1) * (y1 + z1) + (y2 + z2) * (y2 + z2) = y1 * y1 + y2 * y2 + 2 * (y1 * z1 + y2 * z2) + (z1 * z1 + z2 * z2) := by grind
  omega
theorem dt_ng (v : V27) : dt (ng v) (ng v) = dt v v := by unfold dt ng; dsimp only; grind
section
variable {a b : V27}
def Fl (a b x : V27) : Prop := tri a b x = 0 ∧ Lq a x ∧ Lq x b
theorem Fl_tri (h : Fw true a b) {x y z : V27} (hx : Fl a b x) (hy : Fl a b y) (hz : Fl a b z) : tri x y z = 0 := by
  have U : Up (sb b a) := h
  have d : ∀ {u v : V27}, Fl a b u → Fl a b v → cr (sb b a) (sb v u) = 0 := by
    intro u v hu hv
    have h1 : cr (sb b a) (sb u a) = 0 := hu.1
    have h2 : cr (sb b a) (sb v a) = 0 := hv.1
    have : cr (sb b a) (sb v u) = cr (sb b a) (sb v a) - cr (sb b a) (sb u a) := by unfold cr sb; dsimp only; grind
    omega
  exact tri_par (e := sb b a) (by unfold Up at U; omega) (d hx hy) (d hx hz)
theorem Fl_far (h : Fw true a b) {x : V27} (hx : Fl a b x) (hb : x ≠ b) : dt (sb x a) (sb x a) < dt (sb b a) (sb b a) := by
  have e : pl (sb x a) (sb b x) = sb b a := v_ext (by unfold pl sb; dsimp only; omega) (by unfold pl sb; dsimp only; omega)
  have := dt_more (y := sb x a) (z := sb b x) (hx.2.2.resolve_left hb) (by
    rcases hx.2.1 with g | g
    · left; rw [g]; unfold sb; dsimp only; omega
    · exact .inr g) (by
    have h1 : cr (sb b a) (sb x a) = 0 := hx.1
    have : cr (sb b x) (sb x a) = cr (sb b a) (sb x a) := by unfold cr sb; dsimp only; grind
    omega)
  rw [e] at this
  exact this
theorem Fl_far2 (h : Fw true a b) {x : V27} (hx : Fl a b x) (ha : x ≠ a) : dt (sb x b) (sb x b) < dt (sb a b) (sb a b) := by
  have e : pl (sb b x) (sb x a) = sb b a := v_ext (by unfold pl sb; dsimp only; omega) (by unfold pl sb; dsimp only; omega)
  have e1 : sb x b = ng (sb b x) := v_ext (by unfold ng sb; dsimp only; omega) (by unfold ng sb; dsimp only; omega)
  have e2 : sb a b = ng (sb b a) := v_ext (by unfold ng sb; dsimp only; omega) (by unfold ng sb; dsimp only; omega)
  have := dt_more (y := sb b x) (z := sb x a) (hx.2.1.resolve_left (fun e => ha e.symm)) (by
    rcases hx.2.2 with g | g
    · left; rw [g]; unfold sb; dsimp only; omega
    · exact .inr g) (by
    have h1 : cr (sb b a) (sb x a) = 0 := hx.1
    have : cr (sb x a) (sb b x) = - cr (sb b a) (sb x a) := by unfold cr sb; dsimp only; grind
    omega)
  rw [e] at this
  rw [e1, e2, dt_ng, dt_ng]
  exact this
variable {k : Nat} {L : List V27}
theorem FWrap_first (hk : 130 ≤ k) (hl : len L ≤ 100) (hin : ∀ x, 0 ≤ x → x < len L → Lq a (q L x)) {x0 : Int} (x00 : 0 ≤ x0) (x01 : x0 < len L) (hx : q L x0 = a) :
    tourref2_Wrap.c1 k L k 0 (q L 0) = some a := by
  obtain ⟨s, ⟨_, b⟩, e⟩ := inv_loop (fun n s v => tourref2_Wrap.c1 k L n v s) 0 (len L) (fun s v => Lq a s ∧ (x0 < v → s = a))
    (by
      intro n s v v0 v1 ⟨h1, h2⟩
      obtain ⟨b, e, hb⟩ := Wrap_c2 k (l := L) (v := v) s
      have hv := hin v v0 v1
      refine ⟨if b then q L v else s, ⟨?_, fun hlt => ?_⟩, ?_⟩
      · cases b with
        | true => exact hv
        | false => exact h1
      · by_cases d : v = x0
        · cases b with
          | true => rw [d]; exact hx
          | false =>
            show s = a
            rcases h1 with g | g
            · exact g.symm
            · have : Up (sb s (q L v)) := by rw [d, hx]; exact g
              exact absurd (hb.2 this) (by decide)
        · have sB := h2 (by omega)
          cases b with
          | false => exact sB
          | true =>
            have := hb.1 rfl
            rw [sB] at this
            rcases hv with g | g
            · exact g.symm
            · exact absurd this (Up_asymm g)
      · show tourref2_Wrap.c1 k L (n + 1) v s = tourref2_Wrap.c1 k L n (v + 1) _
        rw [tourref2_Wrap.c1, ilt_pos v1, bif_true, req_pos (inL_of v0 v1), e, bnd_some, iadd_i64 (by omega) (by omega)]
        cases b <;> rfl)
    (by
      intro n s v a b
      show tourref2_Wrap.c1 k L (n + 1) v s = some s
      rw [tourref2_Wrap.c1, ilt_neg b, bif_false])
    k (q L 0) 0 (by omega) (by omega) (by omega) ⟨hin 0 (by omega) (by omega), fun h => by omega⟩
  have e : tourref2_Wrap.c1 k L k 0 (q L 0) = some s := e
  rw [e, b x01]
theorem FWrap_next (hk : 130 ≤ k) (hl : len L ≤ 100) {at' tg : V27} (hne : at' ≠ tg) (fl : ∀ x y, (x = at' ∨ ∃ i, 0 ≤ i ∧ i < len L ∧ x = q L i) → (y = at' ∨ ∃ i, 0 ≤ i ∧ i < len L ∧ y = q L i) → tri at' x y = 0)
    (far : ∀ i, 0 ≤ i → i < len L → q L i ≠ tg → dt (sb (q L i) at') (sb (q L i) at') < dt (sb tg at') (sb tg at')) (bw : ∀ x, 0 ≤ x → x < len L → Bw (q L x)) (ba : Bw at')
    {out : List V27} (ho : el Z27 out (isub .i64 (len out) 1) = at') {x0 : Int} (x00 : 0 ≤ x0) (x01 : x0 < len L) (hx : q L x0 = tg) :
    tourref2_Wrap.c4 k L out k 0 at' = some tg := by
  obtain ⟨s, ⟨_, _, b⟩, e⟩ := inv_loop (fun n s v => tourref2_Wrap.c4 k L out n v s) 0 (len L) (fun s v => (s = at' ∨ ∃ i, 0 ≤ i ∧ i < len L ∧ s = q L i) ∧ Bw s ∧ (x0 < v → s = tg))
    (by
      intro n s v v0 v1 ⟨h1, h1', h2⟩
      have wv := bw v v0 v1
      have inv : q L v = at' ∨ ∃ i, 0 ≤ i ∧ i < len L ∧ q L v = q L i := .inr ⟨v, v0, v1, rfl⟩
      show ∃ s', _ ∧ tourref2_Wrap.c4 k L out (n + 1) v s = tourref2_Wrap.c4 k L out n (v + 1) s'
      rw [tourref2_Wrap.c4, ilt_pos v1, bif_true, req_pos (inL_of v0 v1), iadd_i64 (by omega) (by omega)]
      by_cases c : q L v = at'
      · refine ⟨s, ⟨h1, h1', fun g => ?_⟩, ?_⟩
        · by_cases d : v = x0
          · rw [d, hx] at c
            exact absurd c.symm hne
          · exact h2 (by omega)
        · refine (congrArg (fun b => bif' b _ _) ((eqb24 (q L v) (el Z27 out (isub .i64 (len out) 1))).trans (decide_eq_true (c.trans ho.symm)))).trans ?_
          rw [bif_true]
      · obtain ⟨o, b, e5, e6, hb⟩ := Wrap_step hk ho (v := v) (p := q L v) rfl ba h1' wv
        have t0 := fl s (q L v) h1 inv
        refine ⟨if b then q L v else s, ⟨?_, ?_, fun g => ?_⟩, ?_⟩
        · cases b with
          | true => exact inv
          | false => exact h1
        · cases b with
          | true => exact wv
          | false => exact h1'
        · by_cases d : v = x0
          · have pB : q L v = tg := by rw [d]; exact hx
            cases b with
            | true => exact pB
            | false =>
              show s = tg
              rcases h1 with f | ⟨i, i0, i1, f⟩
              · exact absurd (hb.2 (.inl f)) (by decide)
              · by_cases g : q L i = tg
                · exact f.trans g
                · have := far i i0 i1 g
                  rw [← f, ← pB] at this
                  exact absurd (hb.2 (.inr (.inr ⟨t0, this⟩))) (by decide)
          · have sB := h2 (by omega)
            cases b with
            | false => exact sB
            | true =>
              show q L v = tg
              rcases hb.1 rfl with f | f | ⟨_, f⟩
              · rw [sB] at f
                exact absurd f.symm hne
              · omega
              · by_cases g : q L v = tg
                · exact g
                · have := far v v0 v1 g
                  rw [sB] at f
                  omega
        · refine (congrArg (fun b => bif' b _ _) ((eqb24 (q L v) (el Z27 out (isub .i64 (len out) 1))).trans (decide_eq_false (fun g => c (g.trans ho))))).trans ?_
          rw [bif_false, e5, bnd_some, e6, bnd_some]
          cases b <;> rfl)
    (by
      intro n s v a b
      show tourref2_Wrap.c4 k L out (n + 1) v s = some s
      rw [tourref2_Wrap.c4, ilt_neg b, bif_false])
    k at' 0 (by omega) (by omega) (by omega) ⟨.inl rfl, ba, fun h => by omega⟩
  have e : tourref2_Wrap.c4 k L out k 0 at' = some s := e
  rw [e, b x01]
theorem FWrap_same (hk : 130 ≤ k) (hl : len L ≤ 100) {at' : V27} (all : ∀ i, 0 ≤ i → i < len L → q L i = at') {out : List V27} (ho : el Z27 out (isub .i64 (len out) 1) = at') :
    tourref2_Wrap.c4 k L out k 0 at' = some at' := by
  have ll : len L = (L.length : Int) := rfl
  obtain ⟨s, b, e⟩ := inv_loop (fun n s v => tourref2_Wrap.c4 k L out n v s) 0 (len L) (fun s v => s = at')
    (by
      intro n s v v0 v1 h1
      refine ⟨s, h1, ?_⟩
      show tourref2_Wrap.c4 k L out (n + 1) v s = tourref2_Wrap.c4 k L out n (v + 1) s
      rw [tourref2_Wrap.c4, ilt_pos v1, bif_true, req_pos (inL_of v0 v1), iadd_i64 (by omega) (by omega)]
      refine (congrArg (fun b => bif' b _ _) ((eqb24 (q L v) (el Z27 out (isub .i64 (len out) 1))).trans (decide_eq_true ((all v v0 v1).trans ho.symm)))).trans ?_
      rw [bif_true])
    (by
      intro n s v a b
      show tourref2_Wrap.c4 k L out (n + 1) v s = some s
      rw [tourref2_Wrap.c4, ilt_neg b, bif_false])
    k at' 0 (by omega) (by omega) (by omega) rfl
  have e : tourref2_Wrap.c4 k L out k 0 at' = some s := e
  rw [e, b]
theorem FWrap_eq (hk : 130 ≤ k) (hl : len L ≤ 100) (bw : ∀ x, x ∈ L → Bw x) (h : Flat L) : ∃ r, tourref2_Wrap k L = some r ∧ r.length < 3 := by
  have ll : len L = (L.length : Int) := rfl
  rcases h with rfl | ⟨a, b, ha, hb, hab, hfl⟩
  · exact ⟨[], by unfold tourref2_Wrap; rw [ieq_pos (show len ([] : List V27) = 0 from rfl), bif_true], by decide⟩
  obtain ⟨xa, xa0, xa1, hxa⟩ := mem_q ha
  obtain ⟨xb, xb0, xb1, hxb⟩ := mem_q hb
  have qin : ∀ x, 0 ≤ x → x < len L → q L x ∈ L := fun x h0 h1 => q_mem h0 h1
  have c1 := FWrap_first (a := a) hk hl (fun x h0 h1 => (hfl _ (qin x h0 h1)).2.1) xa0 xa1 hxa
  have bwq : ∀ x, 0 ≤ x → x < len L → Bw (q L x) := fun x h0 h1 => bw _ (qin x h0 h1)
  have ho1 : el Z27 [a] (isub .i64 (len [a]) 1) = a := by
    have : len [a] = 1 := rfl
    rw [this, isub_i64 (by omega) (by omega)]
    rfl
  have ho2 : el Z27 [a, b] (isub .i64 (len [a, b]) 1) = b := by
    have : len [a, b] = 2 := rfl
    rw [this, isub_i64 (by omega) (by omega)]
    rfl
  have e0 : tourref2_Wrap.c1 k L k 0 (el Z27 L 0) = some a := c1
  obtain ⟨K, rfl⟩ : ∃ K, k = K + 2 := ⟨k - 2, by omega⟩
  unfold tourref2_Wrap
  rw [ieq_neg (by omega), bif_false, req_pos (inL_of (by omega) (by omega)), e0, bnd_some]
  have l1 : len [a] = 1 := rfl
  have l2 : len [a, b] = 2 := rfl
  have g1 : el Z27 [a] 0 = a := rfl
  have g2 : el Z27 [a, b] 1 = b := rfl
  have i1 : isub .i64 1 1 = 0 := rfl
  have i2 : isub .i64 2 1 = 1 := rfl
  rcases hab with e | hF
  · subst e
    have all : ∀ i, 0 ≤ i → i < len L → q L i = a := by
      intro i h0 h1
      obtain ⟨_, f1, f2⟩ := hfl _ (qin i h0 h1)
      rcases f1 with f | f
      · exact f.symm
      · rcases f2 with g | g
        · exact g
        · exact absurd (Fw_tr f g) (Fw_irr _ _)
    refine ⟨[a], ?_, by simp⟩
    rw [tourref2_Wrap.c3, l1, ile_pos (by omega), bif_true, i1, req_pos (inL_of (by omega) (by omega)), g1, FWrap_same hk hl all ho1, bnd_some]
    unfold tourref2_Wrap.c7
    refine (congrArg (fun x => bnd x _) (congrArg (fun b => bnd b _) ((congrArg (fun b => bif' b _ _) ((eqb24 a a).trans (decide_eq_true rfl))).trans (bif_true _ _)))).trans ?_
    rw [bnd_some, bif_true, bnd_some]
  · have hne : a ≠ b := fun e => by rw [e] at hF; exact Fw_irr _ _ hF
    have hL2 : 2 ≤ len L := by
      rcases Int.lt_or_le (len L) 2 with g | g
      · exfalso
        apply hne
        rw [← hxa, ← hxb, (show xa = xb by omega)]
      · exact g
    have fla : Fl a b a := hfl a ha
    have flb : Fl a b b := hfl b hb
    have n1 := FWrap_next (k := K + 2) (L := L) hk hl (at' := a) (tg := b) hne
      (by
        rintro x y (rfl | ⟨i, i0, i1, rfl⟩) (rfl | ⟨j, j0, j1, rfl⟩)
        · exact Fl_tri hF fla fla fla
        · exact Fl_tri hF fla fla (hfl _ (qin j j0 j1))
        · exact Fl_tri hF fla (hfl _ (qin i i0 i1)) fla
        · exact Fl_tri hF fla (hfl _ (qin i i0 i1)) (hfl _ (qin j j0 j1)))
      (fun i i0 i1 g => Fl_far hF (hfl _ (qin i i0 i1)) g) bwq (bw a ha) ho1 xb0 xb1 hxb
    have n2 := FWrap_next (k := K + 2) (L := L) hk hl (at' := b) (tg := a) (fun e => hne e.symm)
      (by
        rintro x y (rfl | ⟨i, i0, i1, rfl⟩) (rfl | ⟨j, j0, j1, rfl⟩)
        · exact Fl_tri hF flb flb flb
        · exact Fl_tri hF flb flb (hfl _ (qin j j0 j1))
        · exact Fl_tri hF flb (hfl _ (qin i i0 i1)) flb
        · exact Fl_tri hF flb (hfl _ (qin i i0 i1)) (hfl _ (qin j j0 j1)))
      (fun i i0 i1 g => Fl_far2 hF (hfl _ (qin i i0 i1)) g) bwq (bw b hb) ho2 xa0 xa1 hxa
    refine ⟨[a, b], ?_, by simp⟩
    have t1 : tourref2_Wrap.c7 (K + 2) a b [a] = some false := by
      unfold tourref2_Wrap.c7
      exact (congrArg (fun x => bif' x (some true) (some (Ty.eqb T27 b (el Z27 [a] (isub .i64 (len [a]) 1))))) ((eqb24 b a).trans (decide_eq_false (fun e => hne e.symm)))).trans ((bif_false _ _).trans (congrArg some ((eqb24 b (el Z27 [a] (isub .i64 (len [a]) 1))).trans (decide_eq_false (fun e => hne (e.trans ho1).symm)))))
    have t2 : tourref2_Wrap.c7 (K + 2) a a [a, b] = some true := by
      unfold tourref2_Wrap.c7
      exact (congrArg (fun x => bif' x _ _) ((eqb24 a a).trans (decide_eq_true rfl))).trans (bif_true _ _)
    have ap : [a] ++ [b] = [a, b] := rfl
    rw [tourref2_Wrap.c3, l1, ile_pos (by omega), bif_true, i1, req_pos (inL_of (by omega) (by omega)), g1, n1, bnd_some, t1, bnd_some, bif_false, req_pos (show room 16 [a] [b] by unfold room roomFor; simp), ap,
      tourref2_Wrap.c3, l2, ile_pos (by omega), bif_true, i2, req_pos (inL_of (by omega) (by omega)), g2, n2, bnd_some, t2, bnd_some, bif_true, bnd_some]
end

/-! The law -/
theorem RHull1_eq (k : Nat) (x : V27) : tourref2_Hull_1 k x = some (!decide (Wn x)) := by
  unfold tourref2_Hull_1 tourref2_coord Wn
  have e : ineg .i64 65536000 = -65536000 := rfl
  rw [e]
  by_cases h1 : x.1 ≥ -65536000 <;> by_cases h2 : x.1 ≤ 65536000 <;> by_cases h3 : x.2.1 ≥ -65536000 <;> by_cases h4 : x.2.1 ≤ 65536000 <;>
    simp [ige, ile, bif', bnd, h1, h2, h3, h4] <;> omega
theorem PHull1_eq (k : Nat) (x : V27) : poly_Hull_1 k x = some (!decide (Wn x)) := by
  unfold poly_Hull_1
  rw [within_eq, bnd_some]
theorem Hull_cases {k : Nat} (hk : 1000 ≤ k) (l : List V27) (hc : len l ≤ 64 → slices_Clone k l = some l) :
    (64 < len l ∧ poly_Hull k l = some ([], 2) ∧ tourref2_Hull k l = some ([], 2)) ∨ (len l ≤ 64 ∧ poly_Hull k l = some ([], 1) ∧ tourref2_Hull k l = some ([], 1)) ∨
    (len l ≤ 64 ∧ (∀ x, x ∈ l → Wn x) ∧ ∃ H, HullOf l H ∧ poly_Hull k l = some (if H.length < 3 then ([], 3) else if 8 < H.length then ([], 6) else (H, 0)) ∧ tourref2_Hull k l = poly_Hull k l) := by
  have ll : len l = (l.length : Int) := rfl
  by_cases c : 64 < len l
  · refine .inl ⟨c, ?_, ?_⟩
    · unfold poly_Hull; rw [igt_pos c, bif_true]
    · unfold tourref2_Hull; rw [igt_pos c, bif_true]
  have C1 := Contains_no (l := l) (k := k) (f := fun x : (V27 × Unit) => poly_Hull_1 k (x.1)) (by omega) (by omega) (g := fun x => !decide (Wn x)) (fun x => PHull1_eq k x)
  have C2 := Contains_no (l := l) (k := k) (f := fun x : (V27 × Unit) => tourref2_Hull_1 k (x.1)) (by omega) (by omega) (g := fun x => !decide (Wn x)) (fun x => RHull1_eq k x)
  rcases C1 with ⟨h1, i, i0, i1, hi⟩ | ⟨h1, ha⟩
  · rcases C2 with ⟨h2, _⟩ | ⟨_, hb⟩
    · refine .inr (.inl ⟨by omega, ?_, ?_⟩)
      · unfold poly_Hull; rw [igt_neg (by omega), bif_false, h1, bnd_some, bif_true]
      · unfold tourref2_Hull; rw [igt_neg (by omega), bif_false, h2, bnd_some, bif_true]
    · exact absurd hi (hb i i0 i1)
  · rcases C2 with ⟨_, i, i0, i1, hi⟩ | ⟨h2, hb⟩
    · exact absurd hi (ha i i0 i1)
    · have hw : ∀ x, x ∈ l → Wn x := by
        intro x hx
        obtain ⟨i, i0, i1, rfl⟩ := mem_q hx
        have := ha i i0 i1
        simpa using this
      obtain ⟨H, e, hH⟩ := Hull_ok (k := k) hk (l := l) (by omega) hw (hc (by omega)) h1
      refine .inr (.inr ⟨by omega, hw, H, hH, e, ?_⟩)
      rw [e]
      have bw : ∀ x, x ∈ l → Bw x := fun x hx => by have := hw x hx; unfold Wn at this; unfold Bw; omega
      have lX : ∀ X : List V27, len X = (X.length : Int) := fun _ => rfl
      unfold tourref2_Hull
      rw [igt_neg (by omega), bif_false, h2, bnd_some, bif_false]
      obtain ⟨hs, ⟨h3, hle, r1, r2, r3⟩ | ⟨h3, hf⟩⟩ := hH
      · have W := Wrap_eq (k := k) (L := l) (H := H) (by omega) r1 (by rw [lX]; omega) r2 (by omega) (by rw [lX, lX]; omega) (fun x x0 x1 => r3 _ (q_mem x0 x1)) (fun x x0 x1 => bw _ (q_mem x0 x1)) (fun t t0 t1 => mem_q (hs _ (q_mem t0 t1)))
        rw [W, bnd_some, lX]
        by_cases c : H.length < 3
        · rw [ilt_pos (by omega), bif_true, if_pos c]
        · rw [ilt_neg (by omega), bif_false, if_neg c]
          by_cases d : 8 < H.length
          · rw [igt_pos (by omega), bif_true, if_pos d]
          · rw [igt_neg (by omega), bif_false, if_neg d]
      · obtain ⟨r, e, hr⟩ := FWrap_eq (k := k) (L := l) (by omega) (by omega) bw hf
        rw [e, bnd_some, lX, ilt_pos (by omega), bif_true, if_pos h3]
theorem VEqual_self {k : Nat} {l : List V27} (hk : l.length < k) (hl : l.length ≤ 1000000000000) : slices_Equal k l l = some true := by
  have ll : len l = (l.length : Int) := rfl
  have H := find_loop (fun n v => slices_Equal.c1 k l l n v) 0 (len l) (fun _ => False) (fun _ => ())
    (fun _ _ _ _ h => h.elim)
    (by
      intro n v a b _
      show slices_Equal.c1 k l l (n + 1) v = slices_Equal.c1 k l l n (v + 1)
      rw [slices_Equal.c1, ilt_pos b, bif_true, req_pos (inL_of a b), req_pos (inL_of a b), iadd_i64 (by omega) (by omega)]
      refine (congrArg (fun b => bif' b _ _) ((eqb24 (el Z27 l v) (el Z27 l v)).trans (decide_eq_true rfl))).trans ?_
      rw [bif_true])
    (by
      intro n v a b
      show slices_Equal.c1 k l l (n + 1) v = _
      rw [slices_Equal.c1, ilt_neg b, bif_false])
    k 0 (by omega) (by omega)
  rcases H with ⟨_, _, _, h, _⟩ | ⟨_, h⟩
  · exact h.elim
  · have h : slices_Equal.c1 k l l k 0 = some (.inr ()) := h (by omega)
    unfold slices_Equal
    rw [ine_neg rfl, bif_false, h, bnd_some, two_inr]
theorem VClone_ok {k : Nat} (l : List V27) (h : len l ≤ 64) : slices_Clone k l = some l := by
  have ll : len l = (l.length : Int) := rfl
  unfold slices_Clone
  rw [req_pos (show room0 16 l by unfold room0 roomFor; omega)]
end Go.Proofs.T1
