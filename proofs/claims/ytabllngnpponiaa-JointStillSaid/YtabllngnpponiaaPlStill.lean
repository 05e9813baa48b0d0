/-
  Plain laws: no program in sight.
-/
import Derived.Test.YtabllngnpponiaaPlScene
import Derived.Test.YtabllngnpponiaaG11
namespace Go.Proofs.T1
open Go Go.Sx

/-! JointSays -/
def Kp (b b' : V49) : Prop := b'.1 = b.1 ∧ b'.2.2.1 = b.2.2.1 ∧ b'.2.2.2.2.1 = b.2.2.2.2.1
theorem mass_bd {k : Nat} (hk : 9 ≤ k) (b : V49) (hc : OKb k b) : 0 ≤ b.2.2.2.2.1 ∧ b.2.2.2.2.1 ≤ 1099511627776 := by
  obtain ⟨p, v, ang, spin, mass, inertia, bounce, rub, l, asleep, calm, _⟩ := b
  exact (valid_parts hk hc).2.2.2.1.1
theorem ang_bd {k : Nat} (hk : 9 ≤ k) (b : V49) (hc : OKb k b) : 0 ≤ b.2.2.1 ∧ b.2.2.1 ≤ 65535 := by
  obtain ⟨p, v, ang, spin, mass, inertia, bounce, rub, l, asleep, calm, _⟩ := b
  exact (valid_parts hk hc).2.2.1.2.2.2
theorem vsub_bd (k : Nat) (a b : V27) : ∃ w, vec_Sub k a b = some w ∧ (-1099511627776 ≤ w.1 ∧ w.1 ≤ 1099511627776 ∧ -1099511627776 ≤ w.2.1 ∧ w.2.1 ≤ 1099511627776) := by
  unfold vec_Sub
  rw [FSub_tot, bnd_some, FSub_tot, bnd_some]
  exact ⟨_, rfl, (CM_bd _).1, (CM_bd _).2, (CM_bd _).1, (CM_bd _).2⟩
def CJ (nb : Int) (x : V76) : Prop := 0 ≤ x.1 ∧ x.1 < x.2.1 ∧ x.2.1 < nb ∧ Bd x.2.2.1 2097152 ∧ Bd x.2.2.2.1 2097152 ∧ 0 ≤ x.2.2.2.2.1 ∧ x.2.2.2.2.1 ≤ 65536000
instance (nb : Int) (x : V76) : Decidable (CJ nb x) := by unfold CJ; infer_instance
def MJ (l : List V49) (x : V76) : Prop := (el Z49 l x.1).2.2.2.2.1 = 0 ∧ (el Z49 l x.2.1).2.2.2.2.1 = 0
instance (l : List V49) (x : V76) : Decidable (MJ l x) := by unfold MJ; infer_instance
theorem jin_gen (k : Nat) (p : V27) : joint_Check_1 k p = some (decide (Bd p 2097152)) := by
  unfold joint_Check_1
  have i1 : imin p.1 p.2.1 ≥ -2097152 ↔ -2097152 ≤ p.1 ∧ -2097152 ≤ p.2.1 := by unfold imin; split <;> omega
  have i2 : imax p.1 p.2.1 ≤ 2097152 ↔ p.1 ≤ 2097152 ∧ p.2.1 ≤ 2097152 := by unfold imax; split <;> omega
  by_cases a : imin p.1 p.2.1 ≥ -2097152
  · rw [ige_pos a, bif_true]
    unfold ile
    congr 1
    rw [decide_eq_decide]
    have := i1.1 a
    exact ⟨fun h => ⟨this.1, (i2.1 h).1, this.2, (i2.1 h).2⟩, fun h => i2.2 ⟨h.2.1, h.2.2.2⟩⟩
  · rw [ige_neg (by omega), bif_false, decide_eq_false (fun h => a (i1.2 ⟨h.1, h.2.2.1⟩))]
theorem J_c2 (k : Nat) (l : List V49) (c : List V76) (v : Int) : joint_Check.c2 k l c v = some (!decide (CJ (len l) (el Z76 c v))) := by
  unfold joint_Check.c2
  generalize el Z76 c v = x
  simp only [jin_gen, bnd_some]
  by_cases a : x.1 < 0
  · rw [ilt_pos a, bif_true, decide_eq_false (fun h => absurd h.1 (by omega))]; rfl
  · rw [ilt_neg (by omega), bif_false]
    by_cases b : x.2.1 ≥ len l
    · rw [ige_pos b, bif_true, decide_eq_false (fun h => absurd h.2.2.1 (by omega))]; rfl
    · rw [ige_neg (by omega), bif_false]
      by_cases d : x.1 ≥ x.2.1
      · rw [ige_pos d, bif_true, decide_eq_false (fun h => absurd h.2.1 (by omega))]; rfl
      · rw [ige_neg (by omega), bif_false]
        by_cases e : Bd x.2.2.1 2097152
        · rw [decide_eq_true e, bif_true]
          by_cases f : Bd x.2.2.2.1 2097152
          · rw [decide_eq_true f, bif_true]
            by_cases g : x.2.2.2.2.1 < 0
            · rw [ilt_pos g, bif_true, decide_eq_false (fun h => absurd h.2.2.2.2.2.1 (by omega))]; rfl
            · rw [ilt_neg (by omega), bif_false]
              by_cases z : 65536000 < x.2.2.2.2.1
              · rw [igt_pos z, decide_eq_false (fun h => absurd h.2.2.2.2.2.2 (by omega))]; rfl
              · rw [igt_neg (by omega), decide_eq_true (show CJ (len l) x from ⟨by omega, by omega, by omega, e, f, by omega, by omega⟩)]; rfl
          · rw [decide_eq_false f, bif_false, decide_eq_false (fun h => f h.2.2.2.2.1)]; rfl
        · rw [decide_eq_false e, bif_false, decide_eq_false (fun h => e h.2.2.2.1)]; rfl
theorem J_step (k : Nat) {l : List V49} {c : List V76} (hc : len c ≤ 32) (n : Nat) {v : Int} (v0 : 0 ≤ v) (v1 : v < len c) :
    joint_Check.c1 k l c (n + 1) v = if CJ (len l) (el Z76 c v) then (if MJ l (el Z76 c v) then some (.inl 3) else joint_Check.c1 k l c n (v + 1)) else some (.inl 1) := by
  rw [joint_Check.c1, ilt_pos v1, bif_true, req_pos (inL_of v0 v1), J_c2, bnd_some, iadd_i64 (by omega) (by omega)]
  by_cases a : CJ (len l) (el Z76 c v)
  · obtain ⟨A0, AB, B1, _⟩ := id a
    rw [decide_eq_true a, Bool.not_true, bif_false, if_pos a]
    unfold joint_Check.c3
    rw [req_pos (inL_of A0 (by omega)), req_pos (inL_of (by omega) B1)]
    by_cases m : (el Z49 l (el Z76 c v).1).2.2.2.2.1 = 0
    · rw [ieq_pos m, bif_true, bnd_some]
      by_cases m2 : (el Z49 l (el Z76 c v).2.1).2.2.2.2.1 = 0
      · rw [ieq_pos m2, bif_true, if_pos (show MJ l (el Z76 c v) from ⟨m, m2⟩)]
      · rw [ieq_neg m2, bif_false, if_neg (fun h => m2 h.2)]
    · rw [ieq_neg m, bif_false, bnd_some, bif_false, if_neg (fun h => m h.1)]
  · rw [decide_eq_false a, Bool.not_false, bif_true, if_neg a]
theorem kcheck_ok {k : Nat} (hk' : 100 < k) {l : List V49} (hA : AllK k l) (hl : len l ≤ 64) : keep_Check k l = some 0 := by
  have H : ∀ (n : Nat) (i : Int), 0 ≤ i → len l - i < (n : Int) → 0 < n → keep_Check.c1 k l n i = some (.inr ()) := by
    intro n
    induction n with
    | zero => intro i _ _ h; omega
    | succ n ih =>
      intro i i0 i1 _
      rw [keep_Check.c1]
      by_cases c : i < len l
      · have hb : body_Check k (el Z49 l i) = some 0 := hA i i0 c
        rw [ilt_pos c, bif_true, req_pos (inL_of i0 c), hb, bnd_some, ine_neg rfl, bif_false, iadd_i64 (by omega) (by omega)]
        exact ih (i + 1) (by omega) (by omega) (by omega)
      · rw [ilt_neg (by omega), bif_false]
  unfold keep_Check
  rw [igt_neg (by omega), bif_false, H k 0 (by omega) (by omega) (by omega), bnd_some, two_inr]
theorem jcheck_one {k : Nat} (hk' : 100 < k) {l : List V49} (hA : AllK k l) (hl : len l ≤ 64) {x : V76} (hx : CJ (len l) x) (hm : ¬ MJ l x) : joint_Check k l [x] = some 0 := by
  have l1 : len [x] = 1 := rfl
  have e0 : el Z76 [x] 0 = x := rfl
  obtain ⟨m, rfl⟩ : ∃ m, k = m + 1 + 1 := ⟨k - 2, by omega⟩
  unfold joint_Check
  rw [kcheck_ok hk' hA hl, bnd_some, ine_neg rfl, bif_false, igt_neg (by omega), bif_false, J_step _ (by omega) (m + 1) (by omega) (by omega), e0, if_pos hx, if_neg hm, joint_Check.c1, ilt_neg (by omega), bif_false, bnd_some, two_inr]
end Go.Proofs.T1
namespace Go.Proofs.T1
open Go Go.Sx
theorem jcopy_all {k : Nat} (hk : 9 ≤ k) (hk' : 100 < k) {l : List V49} (hA : AllK k l) (hl : len l ≤ 64) : joint_Run.c2 k l k 0 [] = some l := by
  have ll : len l = (l.length : Int) := rfl
  obtain ⟨z, a, b⟩ := inv_loop (fun n (z : List V49) i => joint_Run.c2 k l n i z) 0 (len l) (fun z i => z = l.take i.toNat)
    (by
      intro n z i i0 i1 hz
      have hc := cor_bd hk _ (hA i i0 i1)
      refine ⟨z ++ [el Z49 l i], ?_, ?_⟩
      · obtain ⟨i, rfl⟩ := Int.eq_ofNat_of_zero_le i0
        have hi : i < l.length := by omega
        have hq : el Z49 l (i : Int) = l[i] := by
          show l.getD i Z49 = _
          rw [List.getD_eq_getElem?_getD, List.getElem?_eq_getElem hi]
          rfl
        rw [hq, hz, show ((i : Int) + 1).toNat = i + 1 by omega, show ((i : Int)).toNat = i by omega]
        rw [List.take_succ_eq_append_getElem hi]
      · show joint_Run.c2 k l (n + 1) i z = _
        rw [joint_Run.c2, ilt_pos i1, bif_true, req_pos (inL_of i0 i1)]
        unfold slices_Clone
        rw [req_pos (show room0 16 (el Z49 l i).2.2.2.2.2.2.2.2.1 by show (0 + (el Z49 l i).2.2.2.2.2.2.2.2.1.length) * 16 ≤ 140737488355328; omega), bnd_some, iadd_i64 (by omega) (by omega)]
        refine req_pos ?_ _
        have hs : z.length ≤ 64 := by
          rw [hz, List.length_take]
          omega
        show (z.length + 1) * 120 ≤ 140737488355328
        omega)
    (by
      intro n z i i0 i1
      show joint_Run.c2 k l (n + 1) i z = some z
      rw [joint_Run.c2, ilt_neg i1, bif_false])
    k [] 0 (by omega) (by omega) (by omega) rfl
  have b : joint_Run.c2 k l k 0 [] = some z := b
  rw [b, a, ll, show ((l.length : Nat) : Int).toNat = l.length by omega, List.take_length]
end Go.Proofs.T1
namespace Go.Proofs.T1
open Go Go.Sx

/-! JointStill -/
def Kz (b b' : V49) : Prop := Kp b b' ∧ (b.2.2.2.2.1 = 0 → b' = b)
def KzL (l l' : List V49) : Prop := len l' = len l ∧ ∀ j, 0 ≤ j → j < len l → Kz (el Z49 l j) (el Z49 l' j)
theorem Kz_refl (b : V49) : Kz b b := ⟨⟨rfl, rfl, rfl⟩, fun _ => rfl⟩
theorem Kz_trans {a b c : V49} (h : Kz a b) (g : Kz b c) : Kz a c := by
  obtain ⟨⟨h1, h2, h3⟩, h4⟩ := h
  obtain ⟨⟨g1, g2, g3⟩, g4⟩ := g
  exact ⟨⟨g1.trans h1, g2.trans h2, g3.trans h3⟩, fun z => (g4 (h3.trans z)).trans (h4 z)⟩
theorem KzL_refl (l : List V49) : KzL l l := ⟨rfl, fun _ _ _ => Kz_refl _⟩
theorem KzL_trans {a b c : List V49} (h : KzL a b) (g : KzL b c) : KzL a c :=
  ⟨by rw [g.1, h.1], fun j j0 j1 => Kz_trans (h.2 j j0 j1) (g.2 j j0 (by rw [h.1]; exact j1))⟩
section
variable {p v : V27} {ang spin mass inertia bounce rub : Int} {l : List V27} {asleep : Bool} {calm : Int}
theorem Push_bdp {K : Nat} (hk : 2 ≤ K) (hl : l.length ≤ 2000000) (hc : body_Check K (p, v, ang, spin, mass, inertia, bounce, rub, l, asleep, calm, ()) = some 0) (m0 : 0 < mass) (m1 : mass ≤ 1099511627776) (i0 : 0 < inertia) (i1 : inertia ≤ 1099511627776) (ha : asleep = false) (j r : V27) :
    ∃ V W, body_Push K (p, v, ang, spin, mass, inertia, bounce, rub, l, asleep, calm, ()) j r = some (p, V, ang, W, mass, inertia, bounce, rub, l, asleep, calm, ()) ∧ Bd V 268435456 ∧ (-16777216 ≤ W ∧ W ≤ 16777216) := by
  unfold body_Push
  rw [own_room hl, bnd_some, ha]
  have c1 : body_Push.c1 K (p, v, ang, spin, mass, inertia, bounce, rub, l, false, calm, ()) = some false := by
    unfold body_Push.c1
    rw [← ha, hc, bnd_some]
    dsimp only
    rw [ine_neg rfl, bif_false, ieq_neg (by omega), bif_false, ha]
  rw [c1, bnd_some, bif_false]
  unfold vec_Sub vec_Cross
  dsimp only
  simp only [clamp_tot K _ (show (0 : Int) ≤ 268435456 by decide) (show (268435456 : Int) ≤ 1099511627776 by decide), clamp_tot K _ (show (0 : Int) ≤ 16777216 by decide) (show (16777216 : Int) ≤ 1099511627776 by decide),
    FSub_tot, FMul_tot hk, FAdd_tot, FOver_tot hk _ m0 m1, FOver_tot hk _ i0 i1, FOver_tot hk _ (show (0 : Int) < 411775 by decide) (show (411775 : Int) ≤ 1099511627776 by decide), bnd_some]
  exact ⟨_, _, rfl, ⟨(cl_bd _ (by decide)).1, (cl_bd _ (by decide)).2, (cl_bd _ (by decide)).1, (cl_bd _ (by decide)).2⟩, cl_bd _ (by decide)⟩
theorem Ease_nnp {K : Nat} (hk : 2 ≤ K) (hc : body_Check K (p, v, ang, spin, mass, inertia, bounce, rub, l, asleep, calm, ()) = some 0) (m0 : 0 < mass) (m1 : mass ≤ 1099511627776) (i0 : 0 < inertia) (i1 : inertia ≤ 1099511627776) (ha : asleep = false) (j r : V27) :
    ∃ s, body_Ease K (p, v, ang, spin, mass, inertia, bounce, rub, l, asleep, calm, ()) j r = some s ∧ 0 ≤ s ∧ s ≤ 1099511627776 := by
  unfold body_Ease
  rw [ha]
  have c1 : body_Ease.c1 K (p, v, ang, spin, mass, inertia, bounce, rub, l, false, calm, ()) = some false := by
    unfold body_Ease.c1
    rw [← ha, hc, bnd_some]
    dsimp only
    rw [ine_neg rfl, bif_false, ieq_neg (by omega), bif_false, ha]
  rw [c1, bnd_some, bif_false]
  dsimp only
  obtain ⟨w, hw⟩ := vsub_tot K j p
  obtain ⟨c, hcr⟩ := vcross_tot hk w r
  obtain ⟨q1, h1, g1, _⟩ := over_nn hk (show (0 : Int) ≤ 65536 by decide) m0 m1
  obtain ⟨q2, h2, g2, _⟩ := sq_nn hk c
  obtain ⟨q3, h3, g3, _⟩ := over_nn hk g2 i0 i1
  obtain ⟨q4, h4, g4, g5⟩ := add_nn K g1 g3
  refine ⟨q4, ?_, g4, g5⟩
  rw [hw, bnd_some, hcr, bnd_some, h1, bnd_some, h2, bnd_some, h3, bnd_some, h4, bnd_some]
end
theorem push_p {k : Nat} (hk : 9 ≤ k) (b : V49) (hc : OKb k b) (j r : V27) : ∃ b', body_Push k b j r = some b' ∧ OKb k b' ∧ Kz b b' := by
  obtain ⟨p, v, ang, spin, mass, inertia, bounce, rub, l, asleep, calm, _⟩ := b
  obtain ⟨hS, ⟨hv, _, _⟩, hR, h2, h3⟩ := valid_parts hk hc
  have hl : l.length ≤ 2000000 := by have := hv.2.1; unfold len at this; omega
  by_cases fr : mass = 0 ∨ asleep = true
  · exact ⟨_, Push_out hl hc (Or.inr fr) j r, hc, Kz_refl _⟩
  · have m1 : 0 < mass := by
      have := h2.1.1
      have : mass ≠ 0 := fun h => fr (Or.inl h)
      omega
    have i1 : 0 < inertia := by
      have := h2.2.1.1
      have : inertia ≠ 0 := fun h => absurd (h3.1.2 h) (by omega)
      omega
    have ha : asleep = false := by
      cases asleep with
      | false => rfl
      | true => exact absurd (Or.inr rfl) fr
    obtain ⟨V, W, hp, bV, bW⟩ := Push_bdp (K := k) (by omega) hl hc m1 h2.1.2 i1 h2.2.1.2 ha j r
    refine ⟨_, hp, ?_, ⟨rfl, rfl, rfl⟩, fun z => absurd z (by show ¬ mass = 0; omega)⟩
    obtain ⟨e, e1, h1⟩ := bodyCheck_gen hk (p := p) (v := V) (ang := ang) (spin := W) (mass := mass) (inertia := inertia) (bounce := bounce) (rub := rub) (l := l) (asleep := asleep) (calm := calm)
    have hr3 : R3 V W mass inertia asleep calm := ⟨h3.1, fun h => absurd h (by omega), fun h => absurd h (by rw [ha]; decide)⟩
    have := Bc_uniq h1 (Or.inr (Or.inr (Or.inr ⟨hS, ⟨hR.1, bV, bW, hR.2.2.2⟩, h2, hr3, rfl⟩)))
    show body_Check k _ = some 0
    rw [e1, this]
theorem ease_p {k : Nat} (hk : 9 ≤ k) (b : V49) (hc : OKb k b) (r n : V27) : ∃ s, body_Ease k b r n = some s ∧ 0 ≤ s ∧ s ≤ 1099511627776 := by
  obtain ⟨p, v, ang, spin, mass, inertia, bounce, rub, l, asleep, calm, _⟩ := b
  obtain ⟨hS, ⟨hv, _, _⟩, hR, h2, h3⟩ := valid_parts hk hc
  by_cases fr : mass = 0 ∨ asleep = true
  · exact ⟨_, Ease_out hc (Or.inr fr) r n, by decide, by decide⟩
  · have m1 : 0 < mass := by
      have := h2.1.1
      have : mass ≠ 0 := fun h => fr (Or.inl h)
      omega
    have i1 : 0 < inertia := by
      have := h2.2.1.1
      have : inertia ≠ 0 := fun h => absurd (h3.1.2 h) (by omega)
      omega
    have ha : asleep = false := by
      cases asleep with
      | false => rfl
      | true => exact absurd (Or.inr rfl) fr
    exact Ease_nnp (K := k) (by omega) hc m1 h2.1.2 i1 h2.2.1.2 ha r n
theorem at_p {k : Nat} (hk : 9 ≤ k) (b : V49) (hc : OKb k b) (r : V27) : ∃ s, body_At k b r = some s := by
  have hc : body_Check k b = some 0 := hc
  unfold body_At
  rw [hc, bnd_some, ine_neg rfl, bif_false]
  unfold vec_Sub
  simp only [FSub_tot, FMul_tot (show 2 ≤ k by omega), FAdd_tot, bnd_some]
  exact ⟨_, rfl⟩
theorem turn_p {k : Nat} (hk : 9 ≤ k) (b : V49) (hc : OKb k b) (p : V27) : ∃ t, vec_Turn k p b.2.2.1 = some t := by
  obtain ⟨a0, a1⟩ := ang_bd hk b hc
  obtain ⟨c, s, tc, ts, _⟩ := trig_eq k a0 a1
  unfold vec_Turn
  rw [tc, bnd_some, ts, bnd_some]
  simp only [FMul_tot (show 2 ≤ k by omega), FSub_tot, FAdd_tot, bnd_some]
  exact ⟨_, rfl⟩
theorem kcheck_p {k : Nat} (hk : 9 ≤ k) (hk' : 100 < k) (l : List V49) : ∃ e, keep_Check k l = some e ∧ (e = 0 → AllK k l ∧ len l ≤ 64) := by
  unfold keep_Check
  have bc : ∀ b : V49, ∃ e, body_Check k b = some e := by
    intro b
    obtain ⟨p, v, ang, spin, mass, inertia, bounce, rub, l, asleep, calm, _⟩ := b
    obtain ⟨e, e1, _⟩ := bodyCheck_gen hk (p := p) (v := v) (ang := ang) (spin := spin) (mass := mass) (inertia := inertia) (bounce := bounce) (rub := rub) (l := l) (asleep := asleep) (calm := calm)
    exact ⟨e, e1⟩
  by_cases h : 64 < len l
  · rw [igt_pos h, bif_true]
    exact ⟨2, rfl, fun h => absurd h (by decide)⟩
  · rw [igt_neg (by omega), bif_false]
    rcases find_any (fun n v => keep_Check.c1 k l n v) (len l) (fun v => match body_Check k (el Z49 l v) with | some e => if e = 0 then none else some e | none => none)
      (by
        intro n v a b
        show keep_Check.c1 k l (n + 1) v = _
        obtain ⟨e, e1⟩ := bc (el Z49 l v)
        rw [keep_Check.c1, ilt_pos b, bif_true, req_pos (inL_of a b), e1, bnd_some, iadd_i64 (by omega) (by omega)]
        by_cases c : e = 0
        · rw [ine_neg c, bif_false]
          simp [c]
        · rw [ine_pos c, bif_true]
          simp [c])
      (by
        intro n v a b
        show keep_Check.c1 k l (n + 1) v = _
        rw [keep_Check.c1, ilt_neg b, bif_false]) k 0 (by omega) (by unfold len; omega) (by omega) with ⟨j, y, a, b, c, d⟩ | ⟨a, b⟩
    · have d : keep_Check.c1 k l k 0 = some (.inl y) := d
      rw [d, bnd_some, two_inl]
      refine ⟨y, rfl, fun h => ?_⟩
      obtain ⟨e, e1⟩ := bc (el Z49 l j)
      rw [e1] at c
      have c : (if e = 0 then none else some e) = some y := c
      by_cases z : e = 0
      · rw [if_pos z] at c; cases c
      · rw [if_neg z] at c; cases c; exact absurd h z
    · have b : keep_Check.c1 k l k 0 = some (.inr ()) := b
      rw [b, bnd_some, two_inr]
      refine ⟨0, rfl, fun _ => ⟨fun j j0 j1 => ?_, by omega⟩⟩
      obtain ⟨e, e1⟩ := bc (el Z49 l j)
      have c := a j j0 j1
      rw [e1] at c
      have c : (if e = 0 then none else some e) = none := c
      by_cases z : e = 0
      · show body_Check k _ = _
        rw [e1, z]
      · rw [if_neg z] at c; cases c
theorem jcheck_p {k : Nat} (hk' : 100 < k) (l : List V49) (c : List V76) : ∃ e, joint_Check k l c = some e ∧
    (e = 0 → (AllK k l ∧ len l ≤ 64) ∧ len c ≤ 32 ∧ ∀ j, 0 ≤ j → j < len c → CJ (len l) (el Z76 c j) ∧ ¬ MJ l (el Z76 c j)) := by
  obtain ⟨e, e1, e3⟩ := kcheck_p (k := k) (by omega) hk' l
  unfold joint_Check
  rw [e1, bnd_some]
  by_cases h0 : e = 0
  · obtain ⟨hA, hl⟩ := e3 h0
    rw [ine_neg h0, bif_false]
    by_cases hc : 32 < len c
    · rw [igt_pos hc, bif_true]
      exact ⟨2, rfl, fun h => absurd h (by decide)⟩
    · rw [igt_neg (by omega), bif_false]
      rcases find_any (fun n v => joint_Check.c1 k l c n v) (len c) (fun v => if CJ (len l) (el Z76 c v) then (if MJ l (el Z76 c v) then some 3 else none) else some 1)
        (by
          intro n v a b
          show joint_Check.c1 k l c (n + 1) v = _
          rw [J_step k (by omega) n a b]
          by_cases d : CJ (len l) (el Z76 c v)
          · by_cases m : MJ l (el Z76 c v)
            · simp [d, m]
            · simp [d, m]
          · simp [d])
        (by
          intro n v a b
          show joint_Check.c1 k l c (n + 1) v = _
          rw [joint_Check.c1, ilt_neg b, bif_false]) k 0 (by omega) (by unfold len; omega) (by omega) with ⟨j, y, a, b, d, f⟩ | ⟨a, b⟩
      · have f : joint_Check.c1 k l c k 0 = some (.inl y) := f
        rw [f, bnd_some, two_inl]
        refine ⟨y, rfl, fun h => ?_⟩
        by_cases d1 : CJ (len l) (el Z76 c j)
        · by_cases m : MJ l (el Z76 c j)
          · simp [d1, m] at d; omega
          · simp [d1, m] at d
        · simp [d1] at d; omega
      · have b : joint_Check.c1 k l c k 0 = some (.inr ()) := b
        rw [b, bnd_some, two_inr]
        refine ⟨0, rfl, fun _ => ⟨⟨hA, hl⟩, by omega, fun j j0 j1 => ?_⟩⟩
        have d := a j j0 j1
        by_cases d1 : CJ (len l) (el Z76 c j)
        · by_cases m : MJ l (el Z76 c j)
          · simp [d1, m] at d
          · exact ⟨d1, m⟩
        · simp [d1] at d
  · rw [ine_pos h0, bif_true]
    exact ⟨e, rfl, fun h => absurd h h0⟩
theorem ends_p {k : Nat} (hk' : 100 < k) {l : List V49} (hA : AllK k l) (hl : len l ≤ 64) {x : V76} (hx : CJ (len l) x) (hm : ¬ MJ l x) : ∃ p q, joint_Ends k l x = some (p, q, 0) := by
  obtain ⟨A0, AB, B1, _⟩ := id hx
  obtain ⟨t, a1⟩ := turn_p (k := k) (by omega) _ (hA x.1 A0 (by omega)) x.2.2.1
  obtain ⟨u, b1⟩ := turn_p (k := k) (by omega) _ (hA x.2.1 (by omega) B1) x.2.2.2.1
  obtain ⟨p, a2⟩ := vadd_tot k (el Z49 l x.1).1 t
  obtain ⟨q, b2⟩ := vadd_tot k (el Z49 l x.2.1).1 u
  refine ⟨p, q, ?_⟩
  unfold joint_Ends
  rw [jcheck_one hk' hA hl hx hm, bnd_some, ine_neg rfl, bif_false, req_pos (inL_of A0 (by omega)), req_pos (inL_of (by omega) B1), a1, bnd_some, a2, bnd_some, b1, bnd_some, b2, bnd_some]
theorem pull_p {k : Nat} (hk : 9 ≤ k) {bs : List V49} (hb : AllK k bs) {x : V76} (A0 : 0 ≤ x.1) (AB : x.1 < x.2.1) (B1 : x.2.1 < len bs) (p q w : V27) (g : Int) {step : Int} (s0 : 1 ≤ step) (s1 : step ≤ 65536) :
    ∃ bs', joint_pull k x p q w g step bs = some bs' ∧ AllK k bs' ∧ KzL bs bs' := by
  have hA := hb x.1 A0 (by omega)
  have hB := hb x.2.1 (by omega) B1
  have os : ∀ a n, joint_over k a n = body_over k a n := fun _ _ => rfl
  obtain ⟨y3, a1, a3, a4⟩ := ease_p hk _ hA p w
  obtain ⟨y5, b1, b3, b4⟩ := ease_p hk _ hB q w
  obtain ⟨y7, d1, d2, d3⟩ := add_nn k a3 b3
  unfold joint_pull
  rw [req_pos (inL_of A0 (by omega)), req_pos (inL_of (by omega) B1), a1, bnd_some, b1, bnd_some, d1, bnd_some]
  by_cases h : y7 = 0
  · rw [ieq_pos h, bif_true]
    exact ⟨bs, rfl, hb, KzL_refl bs⟩
  · rw [ieq_neg h, bif_false]
    obtain ⟨s, f1⟩ := at_p hk _ hB q
    obtain ⟨t, g1⟩ := at_p hk _ hA p
    obtain ⟨y14, i1⟩ := vsub_tot k s t
    obtain ⟨y16, i2⟩ := vdot_tot (k := k) (by omega) y14 w
    obtain ⟨y18, m1⟩ : ∃ y, fix_Mul k g 16384 = some y := ⟨_, FMul_tot (by omega) _ _⟩
    obtain ⟨y20, m2⟩ : ∃ y, body_over k y18 step = some y := ⟨_, FOver_tot (by omega) _ (by omega) (by omega)⟩
    obtain ⟨y22, m3⟩ : ∃ y, fix_Sub k (ineg .i64 y16) y20 = some y := ⟨_, FSub_tot k _ _⟩
    obtain ⟨y24, m4⟩ : ∃ y, body_over k y22 y7 = some y := ⟨_, FOver_tot (by omega) _ (by omega) d3⟩
    obtain ⟨y26, m5⟩ := vscale_tot (k := k) (by omega) w y24
    obtain ⟨c1, p1, p3, p4⟩ := push_p hk _ hA ((ineg .i64 y26.1), (ineg .i64 y26.2.1), ()) p
    obtain ⟨c2, q1, q3, q4⟩ := push_p hk _ hB y26 q
    have n1 : AllK k (st bs x.1 c1) := AllK_set hb A0 (by omega) p3
    have l1 : len (st bs x.1 c1) = len bs := len_set ..
    refine ⟨st (st bs x.1 c1) x.2.1 c2, ?_, AllK_set n1 (by omega) (by omega) q3, by rw [len_set, l1], fun j j0 j1 => ?_⟩
    · rw [f1, bnd_some, g1, bnd_some, i1, bnd_some, i2, bnd_some, m1, bnd_some, os, m2, bnd_some, m3, bnd_some, os, m4, bnd_some, m5, bnd_some, p1, bnd_some, q1, bnd_some, req_pos (inL_of (by omega) (by omega))]
    · rw [el_set Z49 _ _ (by omega) (by omega) j0, el_set Z49 _ _ A0 (by omega) j0]
      by_cases e : j = x.2.1
      · rw [if_pos e, e]; exact q4
      · rw [if_neg e]
        by_cases e2 : j = x.1
        · rw [if_pos e2, e2]; exact p4
        · rw [if_neg e2]; exact Kz_refl _
theorem unit_p {k : Nat} (hk : 70 ≤ k) {d : V27} (d2 : -1099511627776 ≤ d.1 ∧ d.1 ≤ 1099511627776 ∧ -1099511627776 ≤ d.2.1 ∧ d.2.1 ≤ 1099511627776) : ∃ u, vec_Unit k d = some u := by
  by_cases zz : d.1 = 0 ∧ d.2.1 = 0
  · unfold vec_Unit
    have c0 : CM 0 = 0 := by decide
    rw [zz.1, zz.2, Clamp_eq, c0, bnd_some, bnd_some]
    unfold vec_Unit.c1
    rw [ieq_pos rfl, bif_true, bnd_some, bif_true]
    exact ⟨_, rfl⟩
  · obtain ⟨_, _, _, h, _⟩ := Unit_eq (k := k) hk (v := d) d2 zz
    exact ⟨_, h⟩
theorem MJ_z {l l' : List V49} (h : KzL l l') {x : V76} (A0 : 0 ≤ x.1) (AB : x.1 < x.2.1) (B1 : x.2.1 < len l) (hm : ¬ MJ l x) : ¬ MJ l' x := by
  intro g
  refine hm ⟨?_, ?_⟩
  · rw [← (h.2 x.1 A0 (by omega)).1.2.2]; exact g.1
  · rw [← (h.2 x.2.1 (by omega) B1).1.2.2]; exact g.2
theorem joint_p {k : Nat} (hk' : 100 < k) {bs : List V49} (hb : AllK k bs) (hl : len bs ≤ 64) {js : List V76} {v : Int} (v0 : 0 ≤ v) (v1 : v < len js) (hj : len js ≤ 32) (hx : CJ (len bs) (el Z76 js v)) (hm : ¬ MJ bs (el Z76 js v)) {step : Int} (s0 : 1 ≤ step) (s1 : step ≤ 65536) :
    ∃ bs', (∀ n, joint_Run.c4 k js step (n + 1) v bs = joint_Run.c4 k js step n (v + 1) bs') ∧ AllK k bs' ∧ KzL bs bs' := by
  obtain ⟨p, q, e1⟩ := ends_p hk' hb hl hx hm
  obtain ⟨A0, AB, B1, _, _, L0, L1⟩ := id hx
  obtain ⟨d, d1, d2⟩ := vsub_bd k q p
  by_cases h0 : (el Z76 js v).2.2.2.2.1 = 0
  · obtain ⟨b1, f1, f3, f4⟩ := pull_p (k := k) (by omega) hb A0 AB B1 p q (65536, 0, ()) d.1 s0 s1
    have l1 := f4.1
    obtain ⟨b2, g1, g3, g4⟩ := pull_p (k := k) (by omega) f3 A0 AB (by omega) p q (0, 65536, ()) d.2.1 s0 s1
    refine ⟨b2, fun n => ?_, g3, KzL_trans f4 g4⟩
    rw [joint_Run.c4, ilt_pos v1, bif_true, req_pos (inL_of v0 v1), e1, bnd_some]
    dsimp only
    rw [d1, bnd_some, ieq_pos h0, bif_true, f1, bnd_some, g1, bnd_some, iadd_i64 (by omega) (by omega)]
  · obtain ⟨u, u1⟩ := unit_p (k := k) (by omega) d2
    obtain ⟨r, r1, _⟩ := vLen_eq (k := k) (by omega) (v := d) d2
    have c5 : ∃ w, joint_Run.c5 k d u = some w := by
      unfold joint_Run.c5
      cases Ty.eqb T27 d ((0 : Int), (0 : Int), ()) with
      | true => exact ⟨_, rfl⟩
      | false => exact ⟨_, rfl⟩
    obtain ⟨w, c5⟩ := c5
    obtain ⟨b1, f1, f3, f4⟩ := pull_p (k := k) (by omega) hb A0 AB B1 p q w (isub .i64 (CM r) (el Z76 js v).2.2.2.2.1) s0 s1
    refine ⟨b1, fun n => ?_, f3, f4⟩
    rw [joint_Run.c4, ilt_pos v1, bif_true, req_pos (inL_of v0 v1), e1, bnd_some]
    dsimp only
    rw [d1, bnd_some, ieq_neg h0, bif_false, u1, bnd_some, c5, bnd_some, r1, bnd_some, f1, bnd_some, iadd_i64 (by omega) (by omega)]
theorem Run_p {k : Nat} (hk' : 100 < k) {l : List V49} (hA : AllK k l) (hl : len l ≤ 64) {js : List V76} (hj : len js ≤ 32) (hv : ∀ j, 0 ≤ j → j < len js → CJ (len l) (el Z76 js j) ∧ ¬ MJ l (el Z76 js j)) {step rounds : Int} (s0 : 1 ≤ step) (s1 : step ≤ 65536) (r0 : 0 ≤ rounds) (r1 : rounds ≤ 32) (hc : joint_Check k l js = some 0) :
    ∃ bs, joint_Run k l js step rounds = some (bs, 0) ∧ KzL l bs ∧ (rounds = 0 → bs = l) := by
  have lj : len js = (js.length : Int) := rfl
  have q1 : joint_Run.c1 k step rounds = some false := by
    unfold joint_Run.c1
    rw [ilt_neg (by omega), bif_false, igt_neg (by omega), bif_false, ilt_neg (by omega), bif_false, igt_neg (by omega)]
  obtain ⟨b1, ⟨h1, h2, h3⟩, f⟩ := inv_loop (fun n (b : List V49) v => joint_Run.c3 k js step rounds n v b) 0 rounds (fun b v => AllK k b ∧ KzL l b ∧ (v = 0 → b = l))
    (by
      intro n b v v0 v1 ⟨h1, h2, _⟩
      obtain ⟨b3, ⟨g1, g2⟩, f⟩ := inv_loop (fun n (b : List V49) v => joint_Run.c4 k js step n v b) 0 (len js) (fun b v => AllK k b ∧ KzL l b)
        (by
          intro n b v v0 v1 ⟨h1, h2⟩
          obtain ⟨c1, c2⟩ := hv v v0 v1
          have lb := h2.1
          obtain ⟨b3, f, h3, h4⟩ := joint_p hk' h1 (by omega) v0 v1 hj (by rw [lb]; exact c1) (MJ_z h2 c1.1 c1.2.1 c1.2.2.1 c2) s0 s1
          exact ⟨b3, ⟨h3, KzL_trans h2 h4⟩, f n⟩)
        (by
          intro n b v v0 v1
          show joint_Run.c4 k js step (n + 1) v b = _
          rw [joint_Run.c4, ilt_neg v1, bif_false])
        k b 0 (by omega) (by omega) (by omega) ⟨h1, h2⟩
      have f : joint_Run.c4 k js step k 0 b = some b3 := f
      refine ⟨b3, ⟨g1, g2, fun z => by omega⟩, ?_⟩
      show joint_Run.c3 k js step rounds (n + 1) v b = _
      rw [joint_Run.c3, ilt_pos v1, bif_true, f, bnd_some, iadd_i64 (by omega) (by omega)])
    (by
      intro n b v v0 v1
      show joint_Run.c3 k js step rounds (n + 1) v b = _
      rw [joint_Run.c3, ilt_neg v1, bif_false])
    k l 0 (by omega) (by omega) (by omega) ⟨hA, KzL_refl l, fun _ => rfl⟩
  have f : joint_Run.c3 k js step rounds k 0 l = some b1 := f
  refine ⟨b1, ?_, h2, h3⟩
  unfold joint_Run
  rw [hc, bnd_some, ine_neg rfl, bif_false, q1, bnd_some, bif_false, jcopy_all (by omega) (by omega) hA hl, bnd_some, f, bnd_some]
theorem same_self {k : Nat} (b : V49) (hk : b.2.2.2.2.2.2.2.2.1.length < k) (hl : b.2.2.2.2.2.2.2.2.1.length ≤ 1000000000) : tourkeep2_same k b b = some true := by
  unfold tourkeep2_same
  rw [sEqual_self hk hl, bnd_some, bif_true]
  refine (congrArg (fun x => bif' x _ _) (eqb24_s b.1)).trans ?_
  rw [bif_true]
  refine (congrArg (fun x => bif' x _ _) (eqb24_s b.2.1)).trans ?_
  rw [bif_true, ieq_pos rfl, bif_true, ieq_pos rfl, bif_true, ieq_pos rfl, bif_true, ieq_pos rfl, bif_true, ieq_pos rfl, bif_true, ieq_pos rfl, bif_true]
  refine (congrArg (fun x => bif' x _ _) (eqb4_s b.2.2.2.2.2.2.2.2.2.1)).trans ?_
  rw [bif_true, ieq_pos rfl]
theorem sameL_self {k : Nat} (hk : 100 < k) {l : List V49} (hA : AllK k l) (hl : len l ≤ 64) : slices_EqualFunc k l l (fun x : (V49 × (V49 × Unit)) => tourkeep2_same k (x.1) (x.2.1)) = some true := by
  have H : ∀ (n : Nat) (i : Int), 0 ≤ i → len l - i < (n : Int) → 0 < n → slices_EqualFunc.c1 k l l (fun x : (V49 × (V49 × Unit)) => tourkeep2_same k (x.1) (x.2.1)) n i = some (.inr ()) := by
    intro n
    induction n with
    | zero => intro i _ _ h; omega
    | succ n ih =>
      intro i i0 i1 _
      rw [slices_EqualFunc.c1]
      by_cases c : i < len l
      · have hc := cor_bd (k := k) (by omega) _ (hA i i0 c)
        rw [ilt_pos c, bif_true, req_pos (inL_of i0 c), req_pos (inL_of i0 c)]
        have hs : tourkeep2_same k (el Z49 l i) (el Z49 l i) = some true := same_self _ (by omega) (by omega)
        show bnd (tourkeep2_same k (el Z49 l i) (el Z49 l i)) _ = _
        rw [hs, bnd_some, bif_true, iadd_i64 (by omega) (by omega)]
        exact ih (i + 1) (by omega) (by omega) (by omega)
      · rw [ilt_neg (by omega), bif_false]
  unfold slices_EqualFunc
  rw [ine_neg rfl, bif_false, H k 0 (by omega) (by omega) (by omega), bnd_some, two_inr]
theorem CM_neg (x : Int) : CM (-x) = -CM x := by unfold CM; split <;> split <;> (try split) <;> (try split) <;> omega
theorem len_sym {k : Nat} (hk : 70 ≤ k) (p q : V27) : ∃ d e r, vec_Sub k q p = some d ∧ vec_Sub k p q = some e ∧ vec_Len k d = some r ∧ vec_Len k e = some r := by
  obtain ⟨d, d1, d2⟩ := vsub_bd k q p
  obtain ⟨e, e1, e2⟩ := vsub_bd k p q
  obtain ⟨r, r1, r2⟩ := vLen_eq hk (v := d) d2
  obtain ⟨s, s1, s2⟩ := vLen_eq hk (v := e) e2
  have h1 : d = (CM (CM q.1 - CM p.1), CM (CM q.2.1 - CM p.2.1), ()) := by
    unfold vec_Sub at d1
    rw [FSub_tot, bnd_some, FSub_tot, bnd_some] at d1
    exact (Option.some.inj d1).symm
  have h2 : e = (CM (CM p.1 - CM q.1), CM (CM p.2.1 - CM q.2.1), ()) := by
    unfold vec_Sub at e1
    rw [FSub_tot, bnd_some, FSub_tot, bnd_some] at e1
    exact (Option.some.inj e1).symm
  have n1 : d.1 = -e.1 := by rw [h1, h2]; show CM (CM q.1 - CM p.1) = -CM (CM p.1 - CM q.1); rw [← CM_neg]; congr 1; omega
  have n2 : d.2.1 = -e.2.1 := by rw [h1, h2]; show CM (CM q.2.1 - CM p.2.1) = -CM (CM p.2.1 - CM q.2.1); rw [← CM_neg]; congr 1; omega
  have rs : r = s := by
    refine Rt_uniq r2 ?_
    rw [n1, n2, Int.neg_mul_neg, Int.neg_mul_neg]
    exact s2
  exact ⟨d, e, CM r, d1, e1, r1, by rw [rs]; exact s1⟩
theorem joins_eq : tourkeep2_joins 1000 = some true := by kernel_rfl
theorem JointStill_true {k : Nat} (hk' : 100 < k) (hb : tourkeep2_joins k = some true) (raw : List Int) (rounds : Int) : tourkeep2_JointStill k raw rounds = some true := by
  obtain ⟨B, J, g, st, e1, hA, hB, hJ, t0, t1⟩ := scene_made (k := k) (by omega) raw
  obtain ⟨e, e2, e3⟩ := jcheck_p hk' B J
  unfold tourkeep2_JointStill
  rw [e1, bnd_some, hb, bnd_some, bif_true]
  dsimp only
  rw [e2, bnd_some]
  by_cases h0 : e = 0
  · subst h0
    obtain ⟨⟨_, hl⟩, hj, hv⟩ := e3 rfl
    obtain ⟨y11, b1, b2, b3⟩ := Below_eq k rounds (n := 33) (by decide) (by decide)
    obtain ⟨bs0, f1, _, f2⟩ := Run_p hk' hA hl hj hv t0 t1 (rounds := 0) (by decide) (by decide) e2
    obtain ⟨bs, g1, g2, _⟩ := Run_p hk' hA hl hj hv t0 t1 (rounds := y11) b2 (by omega) e2
    have hz := f2 rfl
    rw [hz] at f1
    have c1 : tourkeep2_JointStill.c1 k (B, J, [], g, st, ()) (B, 0) (bs, 0) = some false := by
      unfold tourkeep2_JointStill.c1
      dsimp only
      rw [ine_neg rfl, bif_false, bif_false, sameL_self hk' hA hl, bnd_some, bif_true, ine_neg g2.1]
    have c2 : ∀ (n : Nat) (i : Int), 0 ≤ i → len B - i < (n : Int) → 0 < n → tourkeep2_JointStill.c2 k (B, J, [], g, st, ()) (bs, 0) n i = some (.inr ()) := by
      intro n
      induction n with
      | zero => intro i _ _ h; omega
      | succ n ih =>
        intro i i0 i1 _
        rw [tourkeep2_JointStill.c2]
        dsimp only
        by_cases c : i < len B
        · have hc := cor_bd (k := k) (by omega) _ (hA i i0 c)
          obtain ⟨⟨z1, z2, z3⟩, z4⟩ := g2.2 i i0 c
          have lb := g2.1
          have tail : (bif' (Ty.eqb T27 (el Z49 bs i).1 (el Z49 B i).1) (some (ine (el Z49 bs i).2.2.1 (el Z49 B i).2.2.1)) (some true)) = some false := by
            rw [z1, z2]
            refine (congrArg (fun x => bif' x _ _) (eqb24_s (el Z49 B i).1)).trans ?_
            rw [bif_true, ine_neg rfl]
          have c3 : tourkeep2_JointStill.c3 k i (B, J, [], g, st, ()) (bs, 0) = some false := by
            unfold tourkeep2_JointStill.c3
            dsimp only
            by_cases m : (el Z49 B i).2.2.2.2.1 = 0
            · have hs : tourkeep2_same k (el Z49 bs i) (el Z49 B i) = some true := by
                rw [z4 m]
                exact same_self _ (by omega) (by omega)
              rw [ieq_pos m, bif_true, req_pos (inL_of i0 (by omega)), hs, bnd_some, bif_true]
              exact tail
            · rw [ieq_neg m, bif_false, req_pos (inL_of i0 (by omega))]
              exact tail
          rw [ilt_pos c, bif_true, req_pos (inL_of i0 c), c3, bnd_some, bif_false, iadd_i64 (by omega) (by omega)]
          exact ih (i + 1) (by omega) (by omega) (by omega)
        · rw [ilt_neg (by omega), bif_false]
    have c4 : ∀ (n : Nat) (i : Int), 0 ≤ i → len J - i < (n : Int) → 0 < n → tourkeep2_JointStill.c4 k (B, J, [], g, st, ()) n i = some (.inr ()) := by
      intro n
      induction n with
      | zero => intro i _ _ h; omega
      | succ n ih =>
        intro i i0 i1 _
        rw [tourkeep2_JointStill.c4]
        dsimp only
        by_cases c : i < len J
        · obtain ⟨hx, hm⟩ := hv i i0 c
          obtain ⟨p, q, w1⟩ := ends_p hk' hA hl hx hm
          obtain ⟨d, d', r, s1, s2, s3, s4⟩ := len_sym (k := k) (by omega) p q
          have G : joint_Gap k B (el Z76 J i) = some ((imax (isub .i64 r (el Z76 J i).2.2.2.2.1) (ineg .i64 (isub .i64 r (el Z76 J i).2.2.2.2.1))), 0) := by
            unfold joint_Gap
            rw [w1, bnd_some]
            dsimp only
            rw [ine_neg rfl, bif_false, s1, bnd_some, s3, bnd_some]
          have c5 : tourkeep2_JointStill.c5 k i (B, J, [], g, st, ()) (p, q, 0) ((imax (isub .i64 r (el Z76 J i).2.2.2.2.1) (ineg .i64 (isub .i64 r (el Z76 J i).2.2.2.2.1))), 0) r = some false := by
            unfold tourkeep2_JointStill.c5
            dsimp only
            rw [ine_neg rfl, bif_false, bif_false, ine_neg rfl]
          rw [ilt_pos c, bif_true, req_pos (inL_of i0 c), w1, bnd_some, G, bnd_some]
          dsimp only
          rw [s2, bnd_some, s4, bnd_some, c5, bnd_some, bif_false, iadd_i64 (by omega) (by omega)]
          exact ih (i + 1) (by omega) (by omega) (by omega)
        · rw [ilt_neg (by omega), bif_false]
    rw [ine_neg rfl, bif_false, f1, bnd_some, b1, bnd_some, g1, bnd_some, c1, bnd_some, bif_false, c2 k 0 (by omega) (by omega) (by omega), bnd_some, two_inr, c4 k 0 (by omega) (by omega) (by omega), bnd_some, two_inr]
  · rw [ine_pos h0, bif_true]
theorem tourkeep2_JointStill_plain (x : ((.pair (.slice T2) (.pair T2 .unit)) : Ty).den) (_ : Ty.wf (.pair (.slice T2) (.pair T2 .unit)) x) : ∃ k, (tourkeep2_JointStill.sp k).f x = some true := by
  obtain ⟨raw, rounds, _⟩ := x
  obtain ⟨K, hK⟩ : ∃ K : Nat, K = 1000 := ⟨_, rfl⟩
  have hb := joins_eq
  rw [← hK] at hb
  exact ⟨K, JointStill_true (by omega) hb raw rounds⟩
end Go.Proofs.T1
