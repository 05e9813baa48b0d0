/-
  Plain laws: no program in sight.
-/
import Derived.Test.YtabllngnpponiaaPlPairs
namespace Go.Proofs.T1
open Go Go.Sx

/-! JointSays -/
def Kp (b b' : V49) : Prop := b'.1 = b.1 ∧ b'.2.2.1 = b.2.2.1 ∧ b'.2.2.2.2.1 = b.2.2.2.2.1
def KpL (l l' : List V49) : Prop := len l' = len l ∧ ∀ j, 0 ≤ j → j < len l → Kp (el Z49 l j) (el Z49 l' j)
theorem KpL_refl (l : List V49) : KpL l l := ⟨rfl, fun _ _ _ => ⟨rfl, rfl, rfl⟩⟩
theorem KpL_trans {a b c : List V49} (h : KpL a b) (g : KpL b c) : KpL a c := by
  refine ⟨by rw [g.1, h.1], fun j j0 j1 => ?_⟩
  obtain ⟨h1, h2, h3⟩ := h.2 j j0 j1
  obtain ⟨g1, g2, g3⟩ := g.2 j j0 (by rw [h.1]; exact j1)
  exact ⟨g1.trans h1, g2.trans h2, g3.trans h3⟩
theorem push_keep {k : Nat} (hk : 9 ≤ k) (b : V49) (hc : OKb k b) (j r : V27) : ∃ b', body_Push k b j r = some b' ∧ tourref2_Pushed k b j r = some b' ∧ OKb k b' ∧ Kp b b' := by
  obtain ⟨p, v, ang, spin, mass, inertia, bounce, rub, l, asleep, calm, _⟩ := b
  obtain ⟨hS, ⟨hv, _, _⟩, hR, h2, h3⟩ := valid_parts hk hc
  have hl : l.length ≤ 2000000 := by have := hv.2.1; unfold len at this; omega
  by_cases fr : mass = 0 ∨ asleep = true
  · refine ⟨_, Push_out hl hc (Or.inr fr) j r, ?_, hc, rfl, rfl, rfl⟩
    unfold tourref2_Pushed
    rw [Free_no fr, bnd_some, bif_false]
  · have m1 : 0 < mass := by
      have := h2.1.1
      have : mass ≠ 0 := fun h => fr (Or.inl h)
      omega
    have i1 : 0 < inertia := by
      have := h2.2.1.1
      have : inertia ≠ 0 := fun h => absurd (h3.1.2 h) (by omega)
      omega
    have ha : asleep = false := by
      cases asleep with
      | false => rfl
      | true => exact absurd (Or.inr rfl) fr
    obtain ⟨V, W, hp, hpd, bV, bW⟩ := Push_bd (K := k) (by omega) hl hc m1 h2.1.2 i1 h2.2.1.2 ha j r
    refine ⟨_, hp, hpd, ?_, rfl, rfl, rfl⟩
    obtain ⟨e, e1, h1⟩ := bodyCheck_gen hk (p := p) (v := V) (ang := ang) (spin := W) (mass := mass) (inertia := inertia) (bounce := bounce) (rub := rub) (l := l) (asleep := asleep) (calm := calm)
    have hr3 : R3 V W mass inertia asleep calm := ⟨h3.1, fun h => absurd h (by omega), fun h => absurd h (by rw [ha]; decide)⟩
    have := Bc_uniq h1 (Or.inr (Or.inr (Or.inr ⟨hS, ⟨hR.1, bV, bW, hR.2.2.2⟩, h2, hr3, rfl⟩)))
    show body_Check k _ = some 0
    rw [e1, this]
theorem mass_bd {k : Nat} (hk : 9 ≤ k) (b : V49) (hc : OKb k b) : 0 ≤ b.2.2.2.2.1 ∧ b.2.2.2.2.1 ≤ 1099511627776 := by
  obtain ⟨p, v, ang, spin, mass, inertia, bounce, rub, l, asleep, calm, _⟩ := b
  exact (valid_parts hk hc).2.2.2.1.1
theorem ang_bd {k : Nat} (hk : 9 ≤ k) (b : V49) (hc : OKb k b) : 0 ≤ b.2.2.1 ∧ b.2.2.1 ≤ 65535 := by
  obtain ⟨p, v, ang, spin, mass, inertia, bounce, rub, l, asleep, calm, _⟩ := b
  exact (valid_parts hk hc).2.2.1.2.2.2
theorem world_tot {k : Nat} (hk : 9 ≤ k) (b : V49) (hc : OKb k b) (p : V27) : ∃ t w, vec_Turn k p b.2.2.1 = some t ∧ vec_Add k b.1 t = some w ∧ tourref2_World k b p = some w := by
  obtain ⟨a0, a1⟩ := ang_bd hk b hc
  obtain ⟨c, s, tc, ts, _⟩ := trig_eq k a0 a1
  have ht : ∃ t, vec_Turn k p b.2.2.1 = some t := by
    unfold vec_Turn
    rw [tc, bnd_some, ts, bnd_some]
    simp only [FMul_tot (show 2 ≤ k by omega), FSub_tot, FAdd_tot, bnd_some]
    exact ⟨_, rfl⟩
  obtain ⟨t, ht⟩ := ht
  refine ⟨t, (CM (CM b.1.1 + CM t.1), CM (CM b.1.2.1 + CM t.2.1), ()), ht, ?_, ?_⟩
  · unfold vec_Add
    rw [FAdd_tot, bnd_some, FAdd_tot, bnd_some]
  · unfold tourref2_World
    rw [ht, bnd_some, FAdd_tot, bnd_some, FAdd_tot, bnd_some, Int.add_comm (CM t.1), Int.add_comm (CM t.2.1)]
theorem world_keep {k : Nat} {b b' : V49} (h : Kp b b') (p : V27) : tourref2_World k b' p = tourref2_World k b p := by
  unfold tourref2_World
  rw [h.1, h.2.1]
theorem vsub_bd (k : Nat) (a b : V27) : ∃ w, vec_Sub k a b = some w ∧ (-1099511627776 ≤ w.1 ∧ w.1 ≤ 1099511627776 ∧ -1099511627776 ≤ w.2.1 ∧ w.2.1 ≤ 1099511627776) := by
  unfold vec_Sub
  rw [FSub_tot, bnd_some, FSub_tot, bnd_some]
  exact ⟨_, rfl, (CM_bd _).1, (CM_bd _).2, (CM_bd _).1, (CM_bd _).2⟩
def CJ (nb : Int) (x : V76) : Prop := 0 ≤ x.1 ∧ x.1 < x.2.1 ∧ x.2.1 < nb ∧ Bd x.2.2.1 2097152 ∧ Bd x.2.2.2.1 2097152 ∧ 0 ≤ x.2.2.2.2.1 ∧ x.2.2.2.2.1 ≤ 65536000
instance (nb : Int) (x : V76) : Decidable (CJ nb x) := by unfold CJ; infer_instance
def MJ (l : List V49) (x : V76) : Prop := (el Z49 l x.1).2.2.2.2.1 = 0 ∧ (el Z49 l x.2.1).2.2.2.2.1 = 0
instance (l : List V49) (x : V76) : Decidable (MJ l x) := by unfold MJ; infer_instance
theorem jin_gen (k : Nat) (p : V27) : joint_Check_1 k p = some (decide (Bd p 2097152)) := by
  unfold joint_Check_1
  have i1 : imin p.1 p.2.1 ≥ -2097152 ↔ -2097152 ≤ p.1 ∧ -2097152 ≤ p.2.1 := by unfold imin; split <;> omega
  have i2 : imax p.1 p.2.1 ≤ 2097152 ↔ p.1 ≤ 2097152 ∧ p.2.1 ≤ 2097152 := by unfold imax; split <;> omega
  by_cases a : imin p.1 p.2.1 ≥ -2097152
  · rw [ige_pos a, bif_true]
    unfold ile
    congr 1
    rw [decide_eq_decide]
    have := i1.1 a
    exact ⟨fun h => ⟨this.1, (i2.1 h).1, this.2, (i2.1 h).2⟩, fun h => i2.2 ⟨h.2.1, h.2.2.2⟩⟩
  · rw [ige_neg (by omega), bif_false, decide_eq_false (fun h => a (i1.2 ⟨h.1, h.2.2.1⟩))]
theorem btwj (k : Nat) (n a b : Int) : tourref2_between k n a b = some (decide (a ≤ n ∧ n ≤ b)) := by
  unfold tourref2_between ile
  by_cases h : a ≤ n
  · rw [decide_eq_true h, bif_true]
    congr 1
    rw [decide_eq_decide]
    exact ⟨fun x => ⟨h, x⟩, fun x => x.2⟩
  · rw [decide_eq_false h, bif_false, decide_eq_false (fun x => h x.1)]
theorem J_c2 (k : Nat) (l : List V49) (c : List V76) (v : Int) : joint_Check.c2 k l c v = some (!decide (CJ (len l) (el Z76 c v))) := by
  unfold joint_Check.c2
  generalize el Z76 c v = x
  simp only [jin_gen, bnd_some]
  by_cases a : x.1 < 0
  · rw [ilt_pos a, bif_true, decide_eq_false (fun h => absurd h.1 (by omega))]; rfl
  · rw [ilt_neg (by omega), bif_false]
    by_cases b : x.2.1 ≥ len l
    · rw [ige_pos b, bif_true, decide_eq_false (fun h => absurd h.2.2.1 (by omega))]; rfl
    · rw [ige_neg (by omega), bif_false]
      by_cases d : x.1 ≥ x.2.1
      · rw [ige_pos d, bif_true, decide_eq_false (fun h => absurd h.2.1 (by omega))]; rfl
      · rw [ige_neg (by omega), bif_false]
        by_cases e : Bd x.2.2.1 2097152
        · rw [decide_eq_true e, bif_true]
          by_cases f : Bd x.2.2.2.1 2097152
          · rw [decide_eq_true f, bif_true]
            by_cases g : x.2.2.2.2.1 < 0
            · rw [ilt_pos g, bif_true, decide_eq_false (fun h => absurd h.2.2.2.2.2.1 (by omega))]; rfl
            · rw [ilt_neg (by omega), bif_false]
              by_cases z : 65536000 < x.2.2.2.2.1
              · rw [igt_pos z, decide_eq_false (fun h => absurd h.2.2.2.2.2.2 (by omega))]; rfl
              · rw [igt_neg (by omega), decide_eq_true (show CJ (len l) x from ⟨by omega, by omega, by omega, e, f, by omega, by omega⟩)]; rfl
          · rw [decide_eq_false f, bif_false, decide_eq_false (fun h => f h.2.2.2.2.1)]; rfl
        · rw [decide_eq_false e, bif_false, decide_eq_false (fun h => e h.2.2.2.1)]; rfl
theorem RJ_c2 (k : Nat) (l : List V49) (c : List V76) (v : Int) : tourref2_Joints.c2 k l c v = some (!decide (CJ (len l) (el Z76 c v))) := by
  unfold tourref2_Joints.c2
  have co : ∀ p : V27, tourref2_coord k p 2097152 = some (decide (Bd p 2097152)) := fun p => coord_eq k p _ (by decide) (by decide)
  generalize el Z76 c v = x
  simp only [co, btwj, bnd_some]
  by_cases a : x.1 < 0
  · rw [ilt_pos a, bif_true, decide_eq_false (fun h => absurd h.1 (by omega))]; rfl
  · rw [ilt_neg (by omega), bif_false]
    by_cases d : x.1 ≥ x.2.1
    · rw [ige_pos d, bif_true, decide_eq_false (fun h => absurd h.2.1 (by omega))]; rfl
    · rw [ige_neg (by omega), bif_false]
      by_cases b : x.2.1 ≥ len l
      · rw [ige_pos b, bif_true, decide_eq_false (fun h => absurd h.2.2.1 (by omega))]; rfl
      · rw [ige_neg (by omega), bif_false]
        by_cases e : Bd x.2.2.1 2097152
        · rw [decide_eq_true e, bif_true]
          by_cases f : Bd x.2.2.2.1 2097152
          · rw [decide_eq_true f, bif_true]
            by_cases g : 0 ≤ x.2.2.2.2.1 ∧ x.2.2.2.2.1 ≤ 65536000
            · rw [decide_eq_true g, decide_eq_true (show CJ (len l) x from ⟨by omega, by omega, by omega, e, f, by omega, by omega⟩)]
            · rw [decide_eq_false g, decide_eq_false (fun h => g ⟨h.2.2.2.2.2.1, h.2.2.2.2.2.2⟩)]
          · rw [decide_eq_false f, bif_false, decide_eq_false (fun h => f h.2.2.2.2.1)]; rfl
        · rw [decide_eq_false e, bif_false, decide_eq_false (fun h => e h.2.2.2.1)]; rfl
theorem J_step (k : Nat) {l : List V49} {c : List V76} (hc : len c ≤ 32) (n : Nat) {v : Int} (v0 : 0 ≤ v) (v1 : v < len c) :
    joint_Check.c1 k l c (n + 1) v = if CJ (len l) (el Z76 c v) then (if MJ l (el Z76 c v) then some (.inl 3) else joint_Check.c1 k l c n (v + 1)) else some (.inl 1) := by
  rw [joint_Check.c1, ilt_pos v1, bif_true, req_pos (inL_of v0 v1), J_c2, bnd_some, iadd_i64 (by omega) (by omega)]
  by_cases a : CJ (len l) (el Z76 c v)
  · obtain ⟨A0, AB, B1, _⟩ := id a
    rw [decide_eq_true a, Bool.not_true, bif_false, if_pos a]
    unfold joint_Check.c3
    rw [req_pos (inL_of A0 (by omega)), req_pos (inL_of (by omega) B1)]
    by_cases m : (el Z49 l (el Z76 c v).1).2.2.2.2.1 = 0
    · rw [ieq_pos m, bif_true, bnd_some]
      by_cases m2 : (el Z49 l (el Z76 c v).2.1).2.2.2.2.1 = 0
      · rw [ieq_pos m2, bif_true, if_pos (show MJ l (el Z76 c v) from ⟨m, m2⟩)]
      · rw [ieq_neg m2, bif_false, if_neg (fun h => m2 h.2)]
    · rw [ieq_neg m, bif_false, bnd_some, bif_false, if_neg (fun h => m h.1)]
  · rw [decide_eq_false a, Bool.not_false, bif_true, if_neg a]
theorem RJ_step {k : Nat} (hk : 9 ≤ k) {l : List V49} (hA : AllK k l) {c : List V76} (hc : len c ≤ 32) (n : Nat) {v : Int} (v0 : 0 ≤ v) (v1 : v < len c) :
    tourref2_Joints.c1 k l c (n + 1) v = if CJ (len l) (el Z76 c v) then (if MJ l (el Z76 c v) then some (.inl 3) else tourref2_Joints.c1 k l c n (v + 1)) else some (.inl 1) := by
  rw [tourref2_Joints.c1, ilt_pos v1, bif_true, req_pos (inL_of v0 v1), RJ_c2, bnd_some, iadd_i64 (x := v) (by omega) (by omega)]
  by_cases a : CJ (len l) (el Z76 c v)
  · obtain ⟨A0, AB, B1, _⟩ := id a
    have m1 := mass_bd hk _ (hA _ A0 (by omega))
    have m2 := mass_bd hk _ (hA _ (show 0 ≤ (el Z76 c v).2.1 by omega) B1)
    rw [decide_eq_true a, Bool.not_true, bif_false, if_pos a, req_pos (inL_of A0 (by omega)), req_pos (inL_of (by omega) B1), iadd_i64 (by omega) (by omega)]
    by_cases m : MJ l (el Z76 c v)
    · have := m.1
      have := m.2
      rw [ieq_pos (by omega), bif_true, if_pos m]
    · rw [ieq_neg (fun h => m ⟨by omega, by omega⟩), bif_false, if_neg m]
  · rw [decide_eq_false a, Bool.not_false, bif_true, if_neg a]
theorem kcheck_ok {k : Nat} (hk' : 100 < k) {l : List V49} (hA : AllK k l) (hl : len l ≤ 64) : keep_Check k l = some 0 := by
  have H : ∀ (n : Nat) (i : Int), 0 ≤ i → len l - i < (n : Int) → 0 < n → keep_Check.c1 k l n i = some (.inr ()) := by
    intro n
    induction n with
    | zero => intro i _ _ h; omega
    | succ n ih =>
      intro i i0 i1 _
      rw [keep_Check.c1]
      by_cases c : i < len l
      · have hb : body_Check k (el Z49 l i) = some 0 := hA i i0 c
        rw [ilt_pos c, bif_true, req_pos (inL_of i0 c), hb, bnd_some, ine_neg rfl, bif_false, iadd_i64 (by omega) (by omega)]
        exact ih (i + 1) (by omega) (by omega) (by omega)
      · rw [ilt_neg (by omega), bif_false]
  unfold keep_Check
  rw [igt_neg (by omega), bif_false, H k 0 (by omega) (by omega) (by omega), bnd_some, two_inr]
theorem jcheck {k : Nat} (hk' : 100 < k) (l : List V49) (c : List V76) : ∃ e, joint_Check k l c = some e ∧ tourref2_Joints k l c = some e ∧
    (e = 0 → (AllK k l ∧ len l ≤ 64) ∧ len c ≤ 32 ∧ ∀ j, 0 ≤ j → j < len c → CJ (len l) (el Z76 c j) ∧ ¬ MJ l (el Z76 c j)) := by
  obtain ⟨e, e1, e2, e3⟩ := kcheck (k := k) (by omega) hk' l
  unfold joint_Check tourref2_Joints
  rw [e1, e2, bnd_some, bnd_some]
  by_cases h0 : e = 0
  · obtain ⟨hA, hl⟩ := e3 h0
    rw [ine_neg h0, bif_false, bif_false]
    by_cases hc : 32 < len c
    · rw [igt_pos hc, bif_true, bif_true]
      exact ⟨2, rfl, rfl, fun h => absurd h (by decide)⟩
    · rw [igt_neg (by omega), bif_false, bif_false]
      have same : ∀ n v, 0 ≤ v → joint_Check.c1 k l c n v = tourref2_Joints.c1 k l c n v := by
        intro n
        induction n with
        | zero => intro v _; rfl
        | succ n ih =>
          intro v v0
          by_cases d : v < len c
          · rw [J_step k (by omega) n v0 d, RJ_step (k := k) (by omega) hA (by omega) n v0 d, ih (v + 1) (by omega)]
          · rw [joint_Check.c1, tourref2_Joints.c1, ilt_neg (by omega), bif_false, bif_false]
      rw [← same k 0 (by omega)]
      rcases find_any (fun n v => joint_Check.c1 k l c n v) (len c) (fun v => if CJ (len l) (el Z76 c v) then (if MJ l (el Z76 c v) then some 3 else none) else some 1)
        (by
          intro n v a b
          show joint_Check.c1 k l c (n + 1) v = _
          rw [J_step k (by omega) n a b]
          by_cases d : CJ (len l) (el Z76 c v)
          · by_cases m : MJ l (el Z76 c v)
            · simp [d, m]
            · simp [d, m]
          · simp [d])
        (by
          intro n v a b
          show joint_Check.c1 k l c (n + 1) v = _
          rw [joint_Check.c1, ilt_neg b, bif_false]) k 0 (by omega) (by unfold len; omega) (by omega) with ⟨j, y, a, b, d, f⟩ | ⟨a, b⟩
      · have f : joint_Check.c1 k l c k 0 = some (.inl y) := f
        rw [f, bnd_some, two_inl]
        refine ⟨y, rfl, rfl, fun h => ?_⟩
        by_cases d1 : CJ (len l) (el Z76 c j)
        · by_cases m : MJ l (el Z76 c j)
          · simp [d1, m] at d; omega
          · simp [d1, m] at d
        · simp [d1] at d; omega
      · have b : joint_Check.c1 k l c k 0 = some (.inr ()) := b
        rw [b, bnd_some, two_inr]
        refine ⟨0, rfl, rfl, fun _ => ⟨⟨hA, hl⟩, by omega, fun j j0 j1 => ?_⟩⟩
        have d := a j j0 j1
        by_cases d1 : CJ (len l) (el Z76 c j)
        · by_cases m : MJ l (el Z76 c j)
          · simp [d1, m] at d
          · exact ⟨d1, m⟩
        · simp [d1] at d
  · rw [ine_pos h0, bif_true, bif_true]
    exact ⟨e, rfl, rfl, fun h => absurd h h0⟩
theorem jcheck_one {k : Nat} (hk' : 100 < k) {l : List V49} (hA : AllK k l) (hl : len l ≤ 64) {x : V76} (hx : CJ (len l) x) (hm : ¬ MJ l x) : joint_Check k l [x] = some 0 := by
  have l1 : len [x] = 1 := rfl
  have e0 : el Z76 [x] 0 = x := rfl
  obtain ⟨m, rfl⟩ : ∃ m, k = m + 1 + 1 := ⟨k - 2, by omega⟩
  unfold joint_Check
  rw [kcheck_ok hk' hA hl, bnd_some, ine_neg rfl, bif_false, igt_neg (by omega), bif_false, J_step _ (by omega) (m + 1) (by omega) (by omega), e0, if_pos hx, if_neg hm, joint_Check.c1, ilt_neg (by omega), bif_false, bnd_some, two_inr]
theorem ends_ok {k : Nat} (hk' : 100 < k) {l : List V49} (hA : AllK k l) (hl : len l ≤ 64) {x : V76} (hx : CJ (len l) x) (hm : ¬ MJ l x) : ∃ p q, joint_Ends k l x = some (p, q, 0) ∧ tourref2_World k (el Z49 l x.1) x.2.2.1 = some p ∧ tourref2_World k (el Z49 l x.2.1) x.2.2.2.1 = some q := by
  obtain ⟨A0, AB, B1, _⟩ := id hx
  obtain ⟨t, p, a1, a2, a3⟩ := world_tot (k := k) (by omega) _ (hA x.1 A0 (by omega)) x.2.2.1
  obtain ⟨u, q, b1, b2, b3⟩ := world_tot (k := k) (by omega) _ (hA x.2.1 (by omega) B1) x.2.2.2.1
  refine ⟨p, q, ?_, a3, b3⟩
  unfold joint_Ends
  rw [jcheck_one hk' hA hl hx hm, bnd_some, ine_neg rfl, bif_false, req_pos (inL_of A0 (by omega)), req_pos (inL_of (by omega) B1), a1, bnd_some, a2, bnd_some, b1, bnd_some, b2, bnd_some]
theorem pull_both {k : Nat} (hk : 9 ≤ k) {bs : List V49} (hb : AllK k bs) {x : V76} (A0 : 0 ≤ x.1) (AB : x.1 < x.2.1) (B1 : x.2.1 < len bs) {p q : V27} (hp : tourref2_World k (el Z49 bs x.1) x.2.2.1 = some p) (hq : tourref2_World k (el Z49 bs x.2.1) x.2.2.2.1 = some q) (w : V27) (g : Int) {step : Int} (s0 : 1 ≤ step) (s1 : step ≤ 65536) :
    ∃ bs', joint_pull k x p q w g step bs = some bs' ∧ tourref2_pull k x w g step bs = some bs' ∧ AllK k bs' ∧ KpL bs bs' := by
  have hA := hb x.1 A0 (by omega)
  have hB := hb x.2.1 (by omega) B1
  have oq : ∀ a n, tourref2_quotient k a n = body_over k a n := fun _ _ => rfl
  have os : ∀ a n, joint_over k a n = body_over k a n := fun _ _ => rfl
  obtain ⟨y3, a1, a2, a3, a4⟩ := ease_both hk _ hA p w
  obtain ⟨y5, b1, b2, b3, b4⟩ := ease_both hk _ hB q w
  obtain ⟨y7, d1, d2, d3⟩ := add_nn k a3 b3
  unfold joint_pull tourref2_pull
  rw [req_pos (inL_of A0 (by omega)), req_pos (inL_of (by omega) B1), a1, bnd_some, b1, bnd_some, d1, bnd_some, req_pos (inL_of A0 (by omega)), hp, bnd_some, req_pos (inL_of (by omega) B1), hq, bnd_some, a2, bnd_some, b2, bnd_some, d1, bnd_some]
  by_cases h : y7 = 0
  · rw [ieq_pos h, bif_true, bif_true]
    exact ⟨bs, rfl, rfl, hb, KpL_refl bs⟩
  · rw [ieq_neg h, bif_false, bif_false]
    obtain ⟨s, f1, f2⟩ := at_both hk _ hB q
    obtain ⟨t, g1, g2⟩ := at_both hk _ hA p
    obtain ⟨y14, i1⟩ := vsub_tot k s t
    obtain ⟨y16, i2⟩ := vdot_tot (k := k) (by omega) y14 w
    have al : tourref2_along k bs x.1 x.2.1 p q w = some y16 := by
      unfold tourref2_along
      rw [req_pos (inL_of (by omega) B1), f2, bnd_some, req_pos (inL_of A0 (by omega)), g2, bnd_some, i1, bnd_some, i2, bnd_some]
    obtain ⟨y18, m1⟩ : ∃ y, fix_Mul k g 16384 = some y := ⟨_, FMul_tot (by omega) _ _⟩
    obtain ⟨y20, m2⟩ : ∃ y, body_over k y18 step = some y := ⟨_, FOver_tot (by omega) _ (by omega) (by omega)⟩
    obtain ⟨y22, m3⟩ : ∃ y, fix_Sub k (ineg .i64 y16) y20 = some y := ⟨_, FSub_tot k _ _⟩
    obtain ⟨y24, m4⟩ : ∃ y, body_over k y22 y7 = some y := ⟨_, FOver_tot (by omega) _ (by omega) d3⟩
    obtain ⟨y26, m5⟩ := vscale_tot (k := k) (by omega) w y24
    obtain ⟨c1, p1, p2, p3, p4⟩ := push_keep hk _ hA ((ineg .i64 y26.1), (ineg .i64 y26.2.1), ()) p
    obtain ⟨c2, q1, q2, q3, q4⟩ := push_keep hk _ hB y26 q
    have n1 : AllK k (st bs x.1 c1) := AllK_set hb A0 (by omega) p3
    have l1 : len (st bs x.1 c1) = len bs := len_set ..
    have eB : el Z49 (st bs x.1 c1) x.2.1 = el Z49 bs x.2.1 := by rw [el_set Z49 bs _ A0 (by omega) (by omega), if_neg (by omega)]
    refine ⟨st (st bs x.1 c1) x.2.1 c2, ?_, ?_, AllK_set n1 (by omega) (by omega) q3, by rw [len_set, l1], fun j j0 j1 => ?_⟩
    · rw [f1, bnd_some, g1, bnd_some, i1, bnd_some, i2, bnd_some, m1, bnd_some, os, m2, bnd_some, m3, bnd_some, os, m4, bnd_some, m5, bnd_some, p1, bnd_some, q1, bnd_some, req_pos (inL_of (by omega) (by omega))]
    · rw [al, bnd_some, m1, bnd_some, oq, m2, bnd_some, m3, bnd_some, oq, m4, bnd_some, m5, bnd_some]
      unfold tourref2_pushed
      rw [req_pos (inL_of A0 (by omega)), p2, bnd_some, req_pos (inL_of (by omega) (by omega)), eB, q2, bnd_some, bnd_some]
    · rw [el_set Z49 _ _ (by omega) (by omega) j0, el_set Z49 _ _ A0 (by omega) j0]
      by_cases e : j = x.2.1
      · rw [if_pos e, e]; exact q4
      · rw [if_neg e]
        by_cases e2 : j = x.1
        · rw [if_pos e2, e2]; exact p4
        · rw [if_neg e2]; exact ⟨rfl, rfl, rfl⟩
theorem len0 {k : Nat} (hk : 70 ≤ k) : vec_Len k (0, 0, ()) = some 0 := by
  obtain ⟨r, h, g⟩ := vLen_eq hk (v := ((0, 0, ()) : V27)) ⟨by decide, by decide, by decide, by decide⟩
  have : r = 0 := Rt_uniq g (show Rt _ 0 by unfold Rt; decide)
  rw [h, this]
  rfl
theorem unit0 (k : Nat) : vec_Unit k (0, 0, ()) = some (0, 0, ()) := by
  unfold vec_Unit
  have c0 : CM 0 = 0 := by decide
  dsimp only
  rw [Clamp_eq, c0, bnd_some, bnd_some]
  unfold vec_Unit.c1
  rw [ieq_pos rfl, bif_true, bnd_some, bif_true]
theorem MJ_keep {l l' : List V49} (h : KpL l l') {x : V76} (A0 : 0 ≤ x.1) (AB : x.1 < x.2.1) (B1 : x.2.1 < len l) (hm : ¬ MJ l x) : ¬ MJ l' x := by
  intro g
  refine hm ⟨?_, ?_⟩
  · rw [← (h.2 x.1 A0 (by omega)).2.2]; exact g.1
  · rw [← (h.2 x.2.1 (by omega) B1).2.2]; exact g.2
/-- One joint of a round. -/
theorem joint_both {k : Nat} (hk' : 100 < k) {bs : List V49} (hb : AllK k bs) (hl : len bs ≤ 64) {js : List V76} {v : Int} (v0 : 0 ≤ v) (v1 : v < len js) (hj : len js ≤ 32) (hx : CJ (len bs) (el Z76 js v)) (hm : ¬ MJ bs (el Z76 js v)) {step : Int} (s0 : 1 ≤ step) (s1 : step ≤ 65536) :
    ∃ bs', (∀ n, joint_Run.c4 k js step (n + 1) v bs = joint_Run.c4 k js step n (v + 1) bs') ∧ (∀ n, tourref2_Pull.c2 k js step (n + 1) v bs = tourref2_Pull.c2 k js step n (v + 1) bs') ∧ AllK k bs' ∧ KpL bs bs' := by
  obtain ⟨p, q, e1, e2, e3⟩ := ends_ok hk' hb hl hx hm
  obtain ⟨A0, AB, B1, _, _, L0, L1⟩ := id hx
  obtain ⟨d, d1, d2⟩ := vsub_bd k q p
  by_cases h0 : (el Z76 js v).2.2.2.2.1 = 0
  · obtain ⟨b1, f1, f2, f3, f4⟩ := pull_both (k := k) (by omega) hb A0 AB B1 e2 e3 (65536, 0, ()) d.1 s0 s1
    have l1 := f4.1
    obtain ⟨b2, g1, g2, g3, g4⟩ := pull_both (k := k) (by omega) f3 A0 AB (by omega) (by rw [world_keep (f4.2 _ A0 (by omega))]; exact e2) (by rw [world_keep (f4.2 _ (by omega) B1)]; exact e3) (0, 65536, ()) d.2.1 s0 s1
    refine ⟨b2, fun n => ?_, fun n => ?_, g3, KpL_trans f4 g4⟩
    · rw [joint_Run.c4, ilt_pos v1, bif_true, req_pos (inL_of v0 v1), e1, bnd_some]
      dsimp only
      rw [d1, bnd_some, ieq_pos h0, bif_true, f1, bnd_some, g1, bnd_some, iadd_i64 (by omega) (by omega)]
    · rw [tourref2_Pull.c2, ilt_pos v1, bif_true, req_pos (inL_of v0 v1), req_pos (inL_of (by omega) B1), e3, bnd_some, req_pos (inL_of A0 (by omega)), e2, bnd_some, d1, bnd_some, ieq_pos h0, bif_true, f2, bnd_some, g2, bnd_some, iadd_i64 (by omega) (by omega)]
  · by_cases z : d = (0, 0, ())
    · subst z
      obtain ⟨b1, f1, f2, f3, f4⟩ := pull_both (k := k) (by omega) hb A0 AB B1 e2 e3 (65536, 0, ()) (ineg .i64 (el Z76 js v).2.2.2.2.1) s0 s1
      have eqt : Ty.eqb T27 ((0 : Int), (0 : Int), ()) ((0 : Int), (0 : Int), ()) = true := eqb24_self ((0, 0, ()) : V27)
      have c5 : ∀ y, joint_Run.c5 k (0, 0, ()) y = some (65536, 0, ()) := by
        intro y
        unfold joint_Run.c5
        refine (congrArg (fun b => bif' b _ _) eqt).trans ?_
        rw [bif_true]
      have ng : isub .i64 0 (el Z76 js v).2.2.2.2.1 = ineg .i64 (el Z76 js v).2.2.2.2.1 := by
        rw [isub_i64 (by omega) (by omega)]
        unfold ineg
        rw [wrap_i64 (by omega) (by omega)]
        try omega
      refine ⟨b1, fun n => ?_, fun n => ?_, f3, f4⟩
      · rw [joint_Run.c4, ilt_pos v1, bif_true, req_pos (inL_of v0 v1), e1, bnd_some]
        dsimp only
        rw [d1, bnd_some, ieq_neg h0, bif_false, unit0, bnd_some, c5, bnd_some, len0 (by omega), bnd_some, ng, f1, bnd_some, iadd_i64 (by omega) (by omega)]
      · rw [tourref2_Pull.c2, ilt_pos v1, bif_true, req_pos (inL_of v0 v1), req_pos (inL_of (by omega) B1), e3, bnd_some, req_pos (inL_of A0 (by omega)), e2, bnd_some, d1, bnd_some, ieq_neg h0, bif_false]
        refine (congrArg (fun b => bif' b _ _) eqt).trans ?_
        rw [bif_true, f2, bnd_some, iadd_i64 (by omega) (by omega)]
    · have zz : ¬ (d.1 = 0 ∧ d.2.1 = 0) := fun h => z (by obtain ⟨d1, d2, _⟩ := d; obtain ⟨h1, h2⟩ := h; simp only at h1 h2; rw [h1, h2])
      have eqf : Ty.eqb T27 d ((0 : Int), (0 : Int), ()) = false := by
        have h := eqb24 d ((0, 0, ()) : V27)
        exact h.trans (by exact decide_eq_false z)
      obtain ⟨u, u1⟩ : ∃ u, vec_Unit k d = some u := by
        obtain ⟨_, _, _, h, _⟩ := Unit_eq (k := k) (by omega) (v := d) d2 zz
        exact ⟨_, h⟩
      obtain ⟨r, r1, _⟩ := vLen_eq (k := k) (by omega) (v := d) d2
      obtain ⟨b1, f1, f2, f3, f4⟩ := pull_both (k := k) (by omega) hb A0 AB B1 e2 e3 u (isub .i64 (CM r) (el Z76 js v).2.2.2.2.1) s0 s1
      have c5 : joint_Run.c5 k d u = some u := by
        unfold joint_Run.c5
        refine (congrArg (fun b => bif' b _ _) eqf).trans ?_
        rw [bif_false]
      refine ⟨b1, fun n => ?_, fun n => ?_, f3, f4⟩
      · rw [joint_Run.c4, ilt_pos v1, bif_true, req_pos (inL_of v0 v1), e1, bnd_some]
        dsimp only
        rw [d1, bnd_some, ieq_neg h0, bif_false, u1, bnd_some, c5, bnd_some, r1, bnd_some, f1, bnd_some, iadd_i64 (by omega) (by omega)]
      · rw [tourref2_Pull.c2, ilt_pos v1, bif_true, req_pos (inL_of v0 v1), req_pos (inL_of (by omega) B1), e3, bnd_some, req_pos (inL_of A0 (by omega)), e2, bnd_some, d1, bnd_some, ieq_neg h0, bif_false]
        refine (congrArg (fun b => bif' b _ _) eqf).trans ?_
        rw [bif_false, u1, bnd_some, r1, bnd_some, f2, bnd_some, iadd_i64 (by omega) (by omega)]
end Go.Proofs.T1
