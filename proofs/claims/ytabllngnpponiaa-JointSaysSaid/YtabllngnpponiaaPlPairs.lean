/-
  Plain laws: no program in sight.
-/
import Derived.Test.YtabllngnpponiaaPlPush
import Derived.Test.YtabllngnpponiaaG9
namespace Go.Proofs.T1
open Go Go.Sx

/-! Bodies that move, by the program and by the reference -/
section
variable {p v : V27} {ang spin mass inertia bounce rub : Int} {l : List V27} {asleep : Bool} {calm : Int}
theorem valid_parts {k : Nat} (hk : 9 ≤ k) (hc : body_Check k (p, v, ang, spin, mass, inertia, bounce, rub, l, asleep, calm, ()) = some 0) :
    Shp l 0 ∧ (Val l ∧ AllR l ∧ FatP l) ∧ R1 p v ang spin ∧ R2 mass inertia bounce rub calm ∧ R3 v spin mass inertia asleep calm := by
  obtain ⟨e, e1, h1⟩ := bodyCheck_gen hk (p := p) (v := v) (ang := ang) (spin := spin) (mass := mass) (inertia := inertia) (bounce := bounce) (rub := rub) (l := l) (asleep := asleep) (calm := calm)
  rw [hc] at e1
  cases e1
  rcases h1 with ⟨_, h⟩ | ⟨_, _, h⟩ | ⟨_, _, _, _, h⟩ | ⟨h, g, g2, g3, _⟩
  · exact absurd rfl h
  · cases h
  · cases h
  · refine ⟨h, ?_, g, g2, g3⟩
    rcases h with ⟨_, h⟩ | ⟨_, _, h⟩ | ⟨_, _, _, h⟩ | ⟨a, b, c, _, _⟩
    · exact absurd rfl h
    · cases h
    · cases h
    · exact ⟨a, b, c⟩
end
end Go.Proofs.T1
namespace Go.Proofs.T1
open Go Go.Sx

/-! Lists of valid bodies: what the program computes with them, and what the reference computes -/
abbrev OKb (k : Nat) (b : V49) : Prop := body_Check k b = some 0
def AllK (k : Nat) (l : List V49) : Prop := ∀ i, 0 ≤ i → i < len l → OKb k (el Z49 l i)
theorem el_set {α : Type} (z : α) (l : List α) {i j : Int} (y : α) (i0 : 0 ≤ i) (i1 : i < len l) (j0 : 0 ≤ j) : el z (st l i y) j = if j = i then y else el z l j := by
  obtain ⟨i, rfl⟩ := Int.eq_ofNat_of_zero_le i0
  obtain ⟨j, rfl⟩ := Int.eq_ofNat_of_zero_le j0
  have hi : i < l.length := by unfold len at i1; omega
  show (l.set i y).getD j z = if (j : Int) = (i : Int) then y else l.getD j z
  rw [List.getD_eq_getElem?_getD, List.getD_eq_getElem?_getD, List.getElem?_set]
  by_cases c : j = i
  · subst c
    rw [if_pos rfl, if_pos hi, if_pos rfl]
    rfl
  · rw [if_neg (fun h => c h.symm), if_neg (by omega)]
theorem len_set {α : Type} (l : List α) (i : Int) (y : α) : len (st l i y) = len l := by
  unfold len st
  rw [List.length_set]
theorem AllK_set {k : Nat} {l : List V49} (h : AllK k l) {i : Int} (i0 : 0 ≤ i) (i1 : i < len l) {b : V49} (hb : OKb k b) : AllK k (st l i b) := by
  intro j j0 j1
  rw [len_set] at j1
  rw [el_set Z49 l b i0 i1 j0]
  by_cases c : j = i
  · rw [if_pos c]; exact hb
  · rw [if_neg c]; exact h j j0 j1
theorem bcheck_same {k : Nat} (hk : 9 ≤ k) (b : V49) : ∃ e, body_Check k b = some e ∧ tourref2_Body k b = some e := by
  obtain ⟨p, v, ang, spin, mass, inertia, bounce, rub, l, asleep, calm, _⟩ := b
  obtain ⟨e, e1, h1⟩ := bodyCheck_gen hk (p := p) (v := v) (ang := ang) (spin := spin) (mass := mass) (inertia := inertia) (bounce := bounce) (rub := rub) (l := l) (asleep := asleep) (calm := calm)
  obtain ⟨e', e2, h2⟩ := RBody_gen hk (p := p) (v := v) (ang := ang) (spin := spin) (mass := mass) (inertia := inertia) (bounce := bounce) (rub := rub) (l := l) (asleep := asleep) (calm := calm)
  have ee := Bc_uniq h1 h2
  subst ee
  exact ⟨e, e1, e2⟩
theorem CMnn {x : Int} (h : 0 ≤ x) : 0 ≤ CM x ∧ CM x ≤ 1099511627776 := by unfold CM; split <;> (try split) <;> omega
theorem rndnn {x n : Int} (hn : 0 < n) (h : 0 ≤ x) : 0 ≤ rnd x n := Int.ediv_nonneg (by omega) (by omega)
theorem nn_sq (x : Int) : 0 ≤ x * x := by
  rcases Int.le_total 0 x with h | h
  · exact Int.mul_nonneg h h
  · have := Int.mul_nonneg (show 0 ≤ -x by omega) (show 0 ≤ -x by omega)
    rw [Int.neg_mul_neg] at this
    exact this
theorem over_nn {k : Nat} (hk : 2 ≤ k) {a n : Int} (ha : 0 ≤ a) (hn : 0 < n) (hn' : n ≤ 1099511627776) : ∃ q, body_over k a n = some q ∧ 0 ≤ q ∧ q ≤ 1099511627776 := by
  have h := CMnn (rndnn hn (Int.mul_nonneg (CMnn ha).1 (CMnn (show (0 : Int) ≤ 65536 by decide)).1))
  exact ⟨_, FOver_tot hk a hn hn', h.1, h.2⟩
theorem add_nn (k : Nat) {a b : Int} (ha : 0 ≤ a) (hb : 0 ≤ b) : ∃ q, fix_Add k a b = some q ∧ 0 ≤ q ∧ q ≤ 1099511627776 := by
  have h := CMnn (Int.add_nonneg (CMnn ha).1 (CMnn hb).1)
  exact ⟨_, FAdd_tot k a b, h.1, h.2⟩
theorem sq_nn {k : Nat} (hk : 2 ≤ k) (c : Int) : ∃ q, fix_Mul k c c = some q ∧ 0 ≤ q ∧ q ≤ 1099511627776 := by
  have h := CMnn (rndnn (show (0 : Int) < 65536 by decide) (nn_sq (CM c)))
  exact ⟨_, FMul_tot hk c c, h.1, h.2⟩
theorem mul_nn {k : Nat} (hk : 2 ≤ k) {a b : Int} (ha : 0 ≤ a) (hb : 0 ≤ b) : ∃ r, fix_Mul k a b = some r ∧ 0 ≤ r ∧ r ≤ 1099511627776 := by
  have h := CMnn (rndnn (show (0 : Int) < 65536 by decide) (Int.mul_nonneg (CMnn ha).1 (CMnn hb).1))
  exact ⟨_, FMul_tot hk a b, h.1, h.2⟩
theorem vsub_tot (k : Nat) (a b : V27) : ∃ w, vec_Sub k a b = some w := by
  unfold vec_Sub
  simp only [FSub_tot, bnd_some]
  exact ⟨_, rfl⟩
theorem vadd_tot (k : Nat) (a b : V27) : ∃ w, vec_Add k a b = some w := by
  unfold vec_Add
  simp only [FAdd_tot, bnd_some]
  exact ⟨_, rfl⟩
theorem vscale_tot {k : Nat} (hk : 2 ≤ k) (a : V27) (n : Int) : ∃ w, vec_Scale k a n = some w := by
  unfold vec_Scale
  simp only [FMul_tot hk, bnd_some]
  exact ⟨_, rfl⟩
theorem vdot_tot {k : Nat} (hk : 2 ≤ k) (a b : V27) : ∃ w, vec_Dot k a b = some w := by
  unfold vec_Dot
  simp only [FMul_tot hk, FAdd_tot, bnd_some]
  exact ⟨_, rfl⟩
theorem vcross_tot {k : Nat} (hk : 2 ≤ k) (a b : V27) : ∃ w, vec_Cross k a b = some w := by
  unfold vec_Cross
  simp only [FMul_tot hk, FSub_tot, bnd_some]
  exact ⟨_, rfl⟩
theorem cl_bd (x : Int) {m : Int} (h : 0 ≤ m) : -m ≤ (if x < -m then -m else if m < x then m else x) ∧ (if x < -m then -m else if m < x then m else x) ≤ m := by
  split
  · omega
  · split <;> omega
section
variable {p v : V27} {ang spin mass inertia bounce rub : Int} {l : List V27} {asleep : Bool} {calm : Int}
theorem Push_bd {K : Nat} (hk : 2 ≤ K) (hl : l.length ≤ 2000000) (hc : body_Check K (p, v, ang, spin, mass, inertia, bounce, rub, l, asleep, calm, ()) = some 0) (m0 : 0 < mass) (m1 : mass ≤ 1099511627776) (i0 : 0 < inertia) (i1 : inertia ≤ 1099511627776) (ha : asleep = false) (j r : V27) :
    ∃ V W, body_Push K (p, v, ang, spin, mass, inertia, bounce, rub, l, asleep, calm, ()) j r = some (p, V, ang, W, mass, inertia, bounce, rub, l, asleep, calm, ()) ∧
      tourref2_Pushed K (p, v, ang, spin, mass, inertia, bounce, rub, l, asleep, calm, ()) j r = some (p, V, ang, W, mass, inertia, bounce, rub, l, asleep, calm, ()) ∧ Bd V 268435456 ∧ (-16777216 ≤ W ∧ W ≤ 16777216) := by
  have oq : ∀ a n, tourref2_quotient K a n = body_over K a n := fun _ _ => rfl
  unfold body_Push tourref2_Pushed
  rw [own_room hl, bnd_some, Free_eq, bnd_some, decide_eq_true (show mass ≠ 0 by omega), ha]
  have c1 : body_Push.c1 K (p, v, ang, spin, mass, inertia, bounce, rub, l, false, calm, ()) = some false := by
    unfold body_Push.c1
    rw [← ha, hc, bnd_some]
    dsimp only
    rw [ine_neg rfl, bif_false, ieq_neg (by omega), bif_false, ha]
  rw [c1, bnd_some, bif_false]
  show ∃ V W, _ ∧ bif' true _ _ = _ ∧ _
  rw [bif_true]
  unfold vec_Sub vec_Cross
  dsimp only
  simp only [oq, near_clamp K _ (show (0 : Int) ≤ 268435456 by decide) (show (268435456 : Int) ≤ 1099511627776 by decide), near_clamp K _ (show (0 : Int) ≤ 16777216 by decide) (show (16777216 : Int) ≤ 1099511627776 by decide),
    clamp_tot K _ (show (0 : Int) ≤ 268435456 by decide) (show (268435456 : Int) ≤ 1099511627776 by decide), clamp_tot K _ (show (0 : Int) ≤ 16777216 by decide) (show (16777216 : Int) ≤ 1099511627776 by decide),
    FSub_tot, FMul_tot hk, FAdd_tot, FOver_tot hk _ m0 m1, FOver_tot hk _ i0 i1, FOver_tot hk _ (show (0 : Int) < 411775 by decide) (show (411775 : Int) ≤ 1099511627776 by decide), bnd_some]
  exact ⟨_, _, rfl, rfl, ⟨(cl_bd _ (by decide)).1, (cl_bd _ (by decide)).2, (cl_bd _ (by decide)).1, (cl_bd _ (by decide)).2⟩, cl_bd _ (by decide)⟩
theorem Ease_nn {K : Nat} (hk : 2 ≤ K) (hc : body_Check K (p, v, ang, spin, mass, inertia, bounce, rub, l, asleep, calm, ()) = some 0) (m0 : 0 < mass) (m1 : mass ≤ 1099511627776) (i0 : 0 < inertia) (i1 : inertia ≤ 1099511627776) (ha : asleep = false) (j r : V27) :
    ∃ s, body_Ease K (p, v, ang, spin, mass, inertia, bounce, rub, l, asleep, calm, ()) j r = some s ∧ tourref2_Ease K (p, v, ang, spin, mass, inertia, bounce, rub, l, asleep, calm, ()) j r = some s ∧ 0 ≤ s ∧ s ≤ 1099511627776 := by
  have oq : ∀ a n, tourref2_quotient K a n = body_over K a n := fun _ _ => rfl
  unfold body_Ease tourref2_Ease
  rw [Free_eq, bnd_some, decide_eq_true (show mass ≠ 0 by omega), ha]
  have c1 : body_Ease.c1 K (p, v, ang, spin, mass, inertia, bounce, rub, l, false, calm, ()) = some false := by
    unfold body_Ease.c1
    rw [← ha, hc, bnd_some]
    dsimp only
    rw [ine_neg rfl, bif_false, ieq_neg (by omega), bif_false, ha]
  rw [c1, bnd_some, bif_false]
  show ∃ s, _ ∧ bif' true _ _ = _ ∧ _
  rw [bif_true]
  dsimp only
  obtain ⟨w, hw⟩ := vsub_tot K j p
  obtain ⟨c, hcr⟩ := vcross_tot hk w r
  obtain ⟨q1, h1, g1, _⟩ := over_nn hk (show (0 : Int) ≤ 65536 by decide) m0 m1
  obtain ⟨q2, h2, g2, _⟩ := sq_nn hk c
  obtain ⟨q3, h3, g3, _⟩ := over_nn hk g2 i0 i1
  obtain ⟨q4, h4, g4, g5⟩ := add_nn K g1 g3
  refine ⟨q4, ?_, ?_, g4, g5⟩
  · rw [hw, bnd_some, hcr, bnd_some, h1, bnd_some, h2, bnd_some, h3, bnd_some, h4, bnd_some]
  · rw [hw, bnd_some, hcr, bnd_some, oq, h1, bnd_some, h2, bnd_some, oq, h3, bnd_some, h4, bnd_some]
theorem Free_no (h : mass = 0 ∨ asleep = true) (k : Nat) : tourref2_Free k (p, v, ang, spin, mass, inertia, bounce, rub, l, asleep, calm, ()) = some false := by
  rw [Free_eq]
  rcases h with h | h
  · rw [decide_eq_false (fun g => g h)]; rfl
  · rw [h]; simp
end
theorem push_both {k : Nat} (hk : 9 ≤ k) (b : V49) (hc : OKb k b) (j r : V27) : ∃ b', body_Push k b j r = some b' ∧ tourref2_Pushed k b j r = some b' ∧ OKb k b' := by
  obtain ⟨p, v, ang, spin, mass, inertia, bounce, rub, l, asleep, calm, _⟩ := b
  obtain ⟨hS, ⟨hv, _, _⟩, hR, h2, h3⟩ := valid_parts hk hc
  have hl : l.length ≤ 2000000 := by have := hv.2.1; unfold len at this; omega
  by_cases fr : mass = 0 ∨ asleep = true
  · refine ⟨_, Push_out hl hc (Or.inr fr) j r, ?_, hc⟩
    unfold tourref2_Pushed
    rw [Free_no fr, bnd_some, bif_false]
  · have m1 : 0 < mass := by
      have := h2.1.1
      have : mass ≠ 0 := fun h => fr (Or.inl h)
      omega
    have i1 : 0 < inertia := by
      have := h2.2.1.1
      have : inertia ≠ 0 := fun h => absurd (h3.1.2 h) (by omega)
      omega
    have ha : asleep = false := by
      cases asleep with
      | false => rfl
      | true => exact absurd (Or.inr rfl) fr
    obtain ⟨V, W, hp, hpd, bV, bW⟩ := Push_bd (K := k) (by omega) hl hc m1 h2.1.2 i1 h2.2.1.2 ha j r
    refine ⟨_, hp, hpd, ?_⟩
    obtain ⟨e, e1, h1⟩ := bodyCheck_gen hk (p := p) (v := V) (ang := ang) (spin := W) (mass := mass) (inertia := inertia) (bounce := bounce) (rub := rub) (l := l) (asleep := asleep) (calm := calm)
    have hr3 : R3 V W mass inertia asleep calm := ⟨h3.1, fun h => absurd h (by omega), fun h => absurd h (by rw [ha]; decide)⟩
    have := Bc_uniq h1 (Or.inr (Or.inr (Or.inr ⟨hS, ⟨hR.1, bV, bW, hR.2.2.2⟩, h2, hr3, rfl⟩)))
    show body_Check k _ = some 0
    rw [e1, this]
theorem ease_both {k : Nat} (hk : 9 ≤ k) (b : V49) (hc : OKb k b) (r n : V27) : ∃ s, body_Ease k b r n = some s ∧ tourref2_Ease k b r n = some s ∧ 0 ≤ s ∧ s ≤ 1099511627776 := by
  obtain ⟨p, v, ang, spin, mass, inertia, bounce, rub, l, asleep, calm, _⟩ := b
  obtain ⟨hS, ⟨hv, _, _⟩, hR, h2, h3⟩ := valid_parts hk hc
  by_cases fr : mass = 0 ∨ asleep = true
  · refine ⟨_, Ease_out hc (Or.inr fr) r n, ?_, by decide, by decide⟩
    unfold tourref2_Ease
    rw [Free_no fr, bnd_some, bif_false]
  · have m1 : 0 < mass := by
      have := h2.1.1
      have : mass ≠ 0 := fun h => fr (Or.inl h)
      omega
    have i1 : 0 < inertia := by
      have := h2.2.1.1
      have : inertia ≠ 0 := fun h => absurd (h3.1.2 h) (by omega)
      omega
    have ha : asleep = false := by
      cases asleep with
      | false => rfl
      | true => exact absurd (Or.inr rfl) fr
    exact Ease_nn (K := k) (by omega) hc m1 h2.1.2 i1 h2.2.1.2 ha r n
theorem at_both {k : Nat} (hk : 9 ≤ k) (b : V49) (hc : OKb k b) (r : V27) : ∃ s, body_At k b r = some s ∧ tourref2_Speed k b r = some s := by
  obtain ⟨p, v, ang, spin, mass, inertia, bounce, rub, l, asleep, calm, _⟩ := b
  exact At_eq (by omega) hc r
theorem rub_bd {k : Nat} (hk : 9 ≤ k) (b : V49) (hc : OKb k b) : 0 ≤ b.2.2.2.2.2.2.2.1 ∧ b.2.2.2.2.2.2.2.1 ≤ 65536 := by
  obtain ⟨p, v, ang, spin, mass, inertia, bounce, rub, l, asleep, calm, _⟩ := b
  exact (valid_parts hk hc).2.2.2.1.2.2.2.1
theorem cor_bd {k : Nat} (hk : 9 ≤ k) (b : V49) (hc : OKb k b) : b.2.2.2.2.2.2.2.2.1.length ≤ 8 := by
  obtain ⟨p, v, ang, spin, mass, inertia, bounce, rub, l, asleep, calm, _⟩ := b
  have := (valid_parts hk hc).2.1.1.2.1
  unfold len at this
  show l.length ≤ 8
  omega
theorem two_loop {σ τ : Type} (F : Nat → σ → Int → Option σ) (G : Nat → τ → Int → Option τ) (lo N : Int) (I : σ → τ → Int → Prop)
    (hstep : ∀ n s t v, lo ≤ v → v < N → I s t v → ∃ s' t', I s' t' (v + 1) ∧ F (n + 1) s v = F n s' (v + 1) ∧ G (n + 1) t v = G n t' (v + 1))
    (hend : ∀ n s t v, lo ≤ v → N ≤ v → F (n + 1) s v = some s ∧ G (n + 1) t v = some t) :
    ∀ (n : Nat) (s : σ) (t : τ) (v : Int), lo ≤ v → v ≤ N → N - v < (n : Int) → I s t v → ∃ s' t', I s' t' N ∧ F n s v = some s' ∧ G n t v = some t' := by
  intro n
  induction n with
  | zero => intro s t v h1 h2 h3; omega
  | succ n ih =>
    intro s t v h1 h2 h3 h4
    by_cases hv : v < N
    · obtain ⟨s', t', a, b, c⟩ := hstep n s t v h1 hv h4
      rw [b, c]
      exact ih s' t' (v + 1) (by omega) (by omega) (by omega) a
    · have : v = N := by omega
      subst this
      obtain ⟨b, c⟩ := hend n s t v h1 (by omega)
      exact ⟨s, t, h4, b, c⟩
theorem find_any {α : Type} (F : Nat → Int → Option (α ⊕ Unit)) (N : Int) (g : Int → Option α)
    (hstep : ∀ n v, 0 ≤ v → v < N → F (n + 1) v = match g v with | some y => some (.inl y) | none => F n (v + 1))
    (hend : ∀ n v, 0 ≤ v → N ≤ v → F (n + 1) v = some (.inr ())) :
    ∀ (n : Nat) (v : Int), 0 ≤ v → v ≤ N → N - v < (n : Int) → (∃ j y, v ≤ j ∧ j < N ∧ g j = some y ∧ F n v = some (.inl y)) ∨ ((∀ j, v ≤ j → j < N → g j = none) ∧ F n v = some (.inr ())) := by
  intro n
  induction n with
  | zero => intro v h1 h2 h3; omega
  | succ n ih =>
    intro v h1 h2 h3
    by_cases hv : v < N
    · have hs := hstep n v h1 hv
      cases hg : g v with
      | some y =>
        rw [hg] at hs
        exact Or.inl ⟨v, y, by omega, hv, hg, hs⟩
      | none =>
        rw [hg] at hs
        have hs : F (n + 1) v = F n (v + 1) := hs
        rw [hs]
        rcases ih (v + 1) (by omega) (by omega) (by omega) with ⟨j, y, a, b, c, d⟩ | ⟨a, b⟩
        · exact Or.inl ⟨j, y, by omega, b, c, d⟩
        · refine Or.inr ⟨fun j j0 j1 => ?_, b⟩
          by_cases e : j = v
          · rw [e]; exact hg
          · exact a j (by omega) j1
    · exact Or.inr ⟨fun j a b => by omega, hend n v h1 (by omega)⟩
theorem kcheck {k : Nat} (hk : 9 ≤ k) (hk' : 100 < k) (l : List V49) : ∃ e, keep_Check k l = some e ∧ tourref2_Bodies k l = some e ∧ (e = 0 → AllK k l ∧ len l ≤ 64) := by
  unfold keep_Check tourref2_Bodies
  by_cases h : 64 < len l
  · rw [igt_pos h, bif_true, bif_true]
    exact ⟨2, rfl, rfl, fun h => absurd h (by decide)⟩
  · rw [igt_neg (by omega), bif_false, bif_false]
    have same : ∀ n v, 0 ≤ v → keep_Check.c1 k l n v = tourref2_Bodies.c1 k l n v := by
      intro n
      induction n with
      | zero => intro v _; rfl
      | succ n ih =>
        intro v v0
        rw [keep_Check.c1, tourref2_Bodies.c1]
        by_cases c : v < len l
        · obtain ⟨e, e1, e2⟩ := bcheck_same hk (el Z49 l v)
          rw [ilt_pos c, bif_true, bif_true, e1, e2, iadd_i64 (by omega) (by omega), ih (v + 1) (by omega)]
        · rw [ilt_neg (by omega), bif_false, bif_false]
    rw [← same k 0 (by omega)]
    rcases find_any (fun n v => keep_Check.c1 k l n v) (len l) (fun v => match body_Check k (el Z49 l v) with | some e => if e = 0 then none else some e | none => none)
      (by
        intro n v a b
        show keep_Check.c1 k l (n + 1) v = _
        obtain ⟨e, e1, e2⟩ := bcheck_same hk (el Z49 l v)
        rw [keep_Check.c1, ilt_pos b, bif_true, req_pos (inL_of a b), e1, bnd_some, iadd_i64 (by omega) (by omega)]
        by_cases c : e = 0
        · rw [ine_neg c, bif_false]
          simp [c]
        · rw [ine_pos c, bif_true]
          simp [c])
      (by
        intro n v a b
        show keep_Check.c1 k l (n + 1) v = _
        rw [keep_Check.c1, ilt_neg b, bif_false]) k 0 (by omega) (by unfold len; omega) (by omega) with ⟨j, y, a, b, c, d⟩ | ⟨a, b⟩
    · have d : keep_Check.c1 k l k 0 = some (.inl y) := d
      rw [d, bnd_some, two_inl]
      refine ⟨y, rfl, rfl, fun h => ?_⟩
      obtain ⟨e, e1, e2⟩ := bcheck_same hk (el Z49 l j)
      rw [e1] at c
      have c : (if e = 0 then none else some e) = some y := c
      by_cases z : e = 0
      · rw [if_pos z] at c; cases c
      · rw [if_neg z] at c; cases c; exact absurd h z
    · have b : keep_Check.c1 k l k 0 = some (.inr ()) := b
      rw [b, bnd_some, two_inr]
      refine ⟨0, rfl, rfl, fun _ => ⟨fun j j0 j1 => ?_, by omega⟩⟩
      obtain ⟨e, e1, e2⟩ := bcheck_same hk (el Z49 l j)
      have c := a j j0 j1
      rw [e1] at c
      have c : (if e = 0 then none else some e) = none := c
      by_cases z : e = 0
      · show body_Check k _ = _
        rw [e1, z]
      · rw [if_neg z] at c; cases c
end Go.Proofs.T1
