/-
  How a fitting state is carried on: a slot written, a block made, written, given up.
-/
import Derived.Test.YtolkdkhdkfndfaaSxState
namespace Go.Sx

def putS (n : Nat) (sl : Nat → AV) (dst : Option Nat) (v : AV) : Nat → AV :=
  match dst with
  | none => sl
  | some d => fun x => match Nat.beq x d with
    | true => match Nat.blt d n with
      | true => v
      | false => .undef
    | false => sl x

def upd {α : Type} (f : Nat → α) (b : Nat) (k : α) : Nat → α := fun x => match Nat.beq x b with
  | true => k
  | false => f x

theorem upd_same {α : Type} (f : Nat → α) (b : Nat) (k : α) : upd f b k b = k := by simp [upd]
theorem upd_ne {α : Type} (f : Nat → α) {b c : Nat} (k : α) (h : c ≠ b) : upd f b k c = f c := by
  unfold upd
  split
  · rename_i hb; exact absurd (Nat.eq_of_beq_eq_true hb) h
  · rfl

section
variable {cx : Cx} {ρ : Nat → Value} {F : Nat → Prop} {s : St} {a : Act} {w : World}

theorem I_of_hp {s s' : St} (h : s'.hp = s.hp) : cx.I ρ s' = cx.I ρ s := by unfold Cx.I; rw [h]

theorem M.put (h : M cx ρ F s a w) (dst : Option Nat) {av : AV} {v : Value} (hv : RV cx.P ρ w (cx.I ρ s) av v) (hr : ∀ b ∈ av.refs, F b) (ok : Prop) :
    M cx ρ F ⟨putS cx.n s.sl dst av, s.hp, ok⟩ (a.put dst v) w := by
  have hI : cx.I ρ ⟨putS cx.n s.sl dst av, s.hp, ok⟩ = cx.I ρ s := rfl
  refine ⟨h.os, h.tape, h.output, h.size, h.keeps, ?_, ?_, h.sep, h.fresh, ?_, h.brefs, h.rho, ?_, ?_, h.pin⟩
  · intro d
    rw [hI]
    cases dst with
    | none => exact h.slots d
    | some e =>
      show RV cx.P ρ w _ (putS cx.n s.sl (some e) av d) ((a.tmps.setIfInBounds e v).getD d undef)
      unfold putS
      simp only
      split
      · rename_i hde
        have := Nat.eq_of_beq_eq_true hde
        subst this
        split
        · rename_i hlt
          have hlt := blt_true hlt
          have : (a.tmps.setIfInBounds d v).getD d undef = v := by
            simp [Array.getD_eq_getD_getElem?, h.tsize, hlt]
          rw [this]; exact hv
        · trivial
      · rename_i hde
        have hne : e ≠ d := by
          intro he
          subst he
          simp at hde
        have : (a.tmps.setIfInBounds e v).getD d undef = a.tmps.getD d undef := by
          simp only [Array.getD_eq_getD_getElem?]
          rw [Array.getElem?_setIfInBounds_ne hne]
        rw [this]
        exact h.slots d
  · intro b k hk
    rw [hI]
    exact h.blks b k hk
  · intro d b hb
    cases dst with
    | none => exact h.srefs d b hb
    | some e =>
      change b ∈ (putS cx.n s.sl (some e) av d).refs at hb
      unfold putS at hb
      simp only at hb
      split at hb
      · split at hb
        · exact hr b hb
        · cases hb
      · exact h.srefs d b hb
  · cases dst with
    | none => exact h.defers
    | some e => exact h.defers
  · cases dst with
    | none => exact h.tsize
    | some e => show (a.tmps.setIfInBounds e v).size = _; rw [Array.size_setIfInBounds]; exact h.tsize

/-- The world turned, and the blocks of the call's own with it. -/
theorem M.turn (h : M cx ρ F s a w) {ρ' : Nat → Value} {F' : Nat → Prop} {hp' : Nat → Option Blk} {w' : World} (ok : Prop)
    (hρ : ∀ b, F b → ρ' b = ρ b) (hF : ∀ b, F b → F' b)
    (hos : w'.os = w.os) (htape : Tp w w') (hout : w'.output = w.output) (hsize : w.heap.size ≤ w'.heap.size)
    (hkeep : ∀ r, r < w.heap.size → (cx.I ρ s r ∨ (r < cx.w0.heap.size ∧ ¬ cx.E r)) → w'.heap[r]? = w.heap[r]?)
    (hI : ∀ r, r < w.heap.size → cx.I ρ s r → cx.I ρ' ⟨s.sl, hp', ok⟩ r)
    (hblks : ∀ b k, hp' b = some k → RB cx.P ρ' w' (cx.I ρ' ⟨s.sl, hp', ok⟩) (ρ' b) k)
    (hsep : ∀ b b' k k' r, hp' b = some k → hp' b' = some k' → real (ρ' b) = some r → real (ρ' b') = some r → b = b')
    (hfresh : ∀ b k r, hp' b = some k → real (ρ' b) = some r → (cx.J r ∨ (cx.E r ∧ b < cx.np)) ∧ r < w'.heap.size)
    (hbrefs : ∀ b k, hp' b = some k → F' b ∧ ∀ c ∈ k.refs, F' c)
    (hrho : ∀ b, (ρ' b).oneCell' = true) :
    M cx ρ' F' ⟨s.sl, hp', ok⟩ a w' := by
  refine ⟨hos.trans h.os, htape.trans h.tape, hout.trans h.output, Nat.le_trans h.size hsize, ?_, ?_, hblks, hsep, hfresh, ?_, hbrefs, hrho, h.defers, h.tsize, fun j hj => ⟨(hρ j (h.pin j hj).2).trans (h.pin j hj).1, hF j (h.pin j hj).2⟩⟩
  · intro r hr hE
    exact (hkeep r (Nat.lt_of_lt_of_le hr h.size) (.inr ⟨hr, hE⟩)).trans (h.keeps r hr hE)
  · intro d
    exact (h.slots d).mono (fun b hb => hρ b (h.srefs d b hb)) ⟨hsize, fun r hr hi => hkeep r hr (.inl hi)⟩ hI
  · intro d b hb
    exact hF b (h.srefs d b hb)

theorem M.owned_lt (h : M cx ρ F s a w) {b : Nat} {k : Blk} {r : Nat} (hb : s.hp b = some k) (hr : real (ρ b) = some r) : r < w.heap.size := (h.fresh b k r hb hr).2

/-- A world in which all blocks stand as they did. -/
theorem M.world (h : M cx ρ F s a w) {w' : World} (hb : Below w.heap.size w w') : M cx ρ F s a w' := by
  have hI : ∀ r, r < w.heap.size → cx.I ρ s r → cx.I ρ s r := fun _ _ h => h
  refine M.turn (ρ' := ρ) (F' := F) (hp' := s.hp) h s.ok (fun _ _ => rfl) (fun _ h => h) hb.os hb.tape hb.output hb.size (fun r hr _ => hb.block r hr) hI ?_ h.sep ?_ h.brefs h.rho
  · intro b k hk
    exact (h.blks b k hk).mono (fun _ _ => rfl) ⟨hb.size, fun r hr _ => hb.block r hr⟩ hI (fun r hr => hb.block r (h.owned_lt hk hr))
  · intro b k r hk hr
    exact ⟨(h.fresh b k r hk hr).1, Nat.lt_of_lt_of_le (h.fresh b k r hk hr).2 hb.size⟩

/-- A new block of the call's own. -/
theorem M.new (h : M cx ρ F s a w) {nid : Nat} (hn : ¬ F nid) {k : Blk} {v : Value} {w' : World} (ok : Prop) (hb : Below w.heap.size w w')
    (hv : ∀ r, real v = some r → w.heap.size ≤ r ∧ r < w'.heap.size) (hvc : v.oneCell' = true)
    (hk : RB cx.P ρ w' (fun r => (cx.I ρ s r ∧ r < w.heap.size) ∨ (w.heap.size ≤ r ∧ real v ≠ some r)) v k) (hkr : ∀ c ∈ k.refs, F c) :
    M cx (upd ρ nid v) (fun b => F b ∨ b = nid) ⟨s.sl, upd s.hp nid (some k), ok⟩ a w' := by
  have hne : ∀ b k, s.hp b = some k → b ≠ nid := fun b k hk e => hn (e ▸ (h.brefs b k hk).1)
  have hρ : ∀ b, F b → upd ρ nid v b = ρ b := fun b hb => upd_ne _ _ (fun e => hn (e ▸ hb))
  have hI : ∀ r, r < w.heap.size → cx.I ρ s r → cx.I (upd ρ nid v) ⟨s.sl, upd s.hp nid (some k), ok⟩ r := by
    intro r hr hi
    refine ⟨hi.1, fun b k' hk' hrr => ?_⟩
    by_cases e : b = nid
    · subst e
      rw [upd_same] at hrr
      have := (hv r hrr).1
      omega
    · change upd s.hp nid (some k) b = some k' at hk'
      rw [upd_ne _ _ e] at hk'
      rw [upd_ne _ _ e] at hrr
      exact hi.2 b k' hk' hrr
  refine M.turn h ok hρ (fun b hb => .inl hb) hb.os hb.tape hb.output hb.size (fun r hr _ => hb.block r hr) hI ?_ ?_ ?_ ?_ ?_
  · intro b k' hk'
    by_cases e : b = nid
    · subst e
      rw [upd_same] at hk'
      obtain rfl := Option.some.inj hk'
      rw [upd_same]
      refine hk.mono (fun c hc => hρ c (hkr c hc)) (Pres.refl _ _) (fun r _ hi => ?_) (fun _ _ => rfl)
      rcases hi with hi | ⟨hi, hi'⟩
      · exact hI r hi.2 hi.1
      · refine ⟨.inr (.inl (Nat.le_trans h.size hi)), fun b' k' hk' hrr => ?_⟩
        by_cases e : b' = b
        · subst e
          rw [upd_same] at hrr
          exact hi' hrr
        · change upd s.hp b (some k) b' = some k' at hk'
          rw [upd_ne _ _ e] at hk' hrr
          have := h.owned_lt hk' hrr
          omega
    · rw [upd_ne _ _ e] at hk'
      rw [upd_ne _ _ e]
      exact (h.blks b k' hk').mono (fun c hc => hρ c ((h.brefs b k' hk').2 c hc)) ⟨hb.size, fun r hr _ => hb.block r hr⟩ hI (fun r hr => hb.block r (h.owned_lt hk' hr))
  · intro b b' k1 k2 r h1 h2 h3 h4
    by_cases e : b = nid <;> by_cases e' : b' = nid
    · rw [e, e']
    · subst e
      rw [upd_same] at h3
      rw [upd_ne _ _ e'] at h2 h4
      have := h.owned_lt h2 h4
      have := (hv r h3).1
      omega
    · subst e'
      rw [upd_same] at h4
      rw [upd_ne _ _ e] at h1 h3
      have := h.owned_lt h1 h3
      have := (hv r h4).1
      omega
    · rw [upd_ne _ _ e] at h1 h3
      rw [upd_ne _ _ e'] at h2 h4
      exact h.sep b b' k1 k2 r h1 h2 h3 h4
  · intro b k' r h1 h2
    by_cases e : b = nid
    · subst e
      rw [upd_same] at h2
      have := hv r h2
      exact ⟨.inl (.inl (Nat.le_trans h.size this.1)), this.2⟩
    · rw [upd_ne _ _ e] at h1 h2
      exact ⟨(h.fresh b k' r h1 h2).1, Nat.lt_of_lt_of_le (h.fresh b k' r h1 h2).2 hb.size⟩
  · intro b k' h1
    by_cases e : b = nid
    · subst e
      rw [upd_same] at h1
      obtain rfl := Option.some.inj h1
      exact ⟨.inr rfl, fun c hc => .inl (hkr c hc)⟩
    · rw [upd_ne _ _ e] at h1
      exact ⟨.inl (h.brefs b k' h1).1, fun c hc => .inl ((h.brefs b k' h1).2 c hc)⟩
  · intro b
    by_cases e : b = nid
    · subst e; rw [upd_same]; exact hvc
    · rw [upd_ne _ _ e]; exact h.rho b

/-- A block of the call's own is written. -/
theorem M.set (h : M cx ρ F s a w) {b : Nat} {k0 k : Blk} {w' : World} (ok : Prop) (hb : s.hp b = some k0)
    (hos : w'.os = w.os) (htape : Tp w w') (hout : w'.output = w.output) (hsize : w'.heap.size = w.heap.size)
    (hother : ∀ r, real (ρ b) ≠ some r → w'.heap[r]? = w.heap[r]?)
    (hk : RB cx.P ρ w' (cx.I ρ s) (ρ b) k) (hkr : ∀ c ∈ k.refs, F c) (_hkc : k.isC = k0.isC) :
    M cx ρ F ⟨s.sl, upd s.hp b (some k), ok⟩ a w' := by
  have hdom : ∀ c k', upd s.hp b (some k) c = some k' → ∃ k'', s.hp c = some k'' := by
    intro c k' hc
    by_cases e : c = b
    · subst e; exact ⟨_, hb⟩
    · rw [upd_ne _ _ e] at hc; exact ⟨_, hc⟩
  have hI : ∀ r, r < w.heap.size → cx.I ρ s r → cx.I ρ ⟨s.sl, upd s.hp b (some k), ok⟩ r := by
    intro r hr hi
    refine ⟨hi.1, fun c k' hc hrr => ?_⟩
    obtain ⟨k'', hk''⟩ := hdom c k' hc
    exact hi.2 c k'' hk'' hrr
  have hpres : Pres (cx.I ρ s) w w' := ⟨Nat.le_of_eq hsize.symm, fun r _ hi => hother r (fun e => hi.2 b k0 hb e)⟩
  refine M.turn h ok (fun _ _ => rfl) (fun _ h => h) hos htape hout (Nat.le_of_eq hsize.symm) ?_ hI ?_ ?_ ?_ ?_ h.rho
  · intro r hr hh
    refine hother r fun e => ?_
    rcases hh with hh | ⟨h1, h2⟩
    · exact hh.2 b k0 hb e
    · rcases (h.fresh b k0 r hb e).1 with h3 | h3
      · exact h3.elim (fun h => by omega) (fun h => h2 (.inr h))
      · exact h2 h3.1
  · intro c k' hc
    by_cases e : c = b
    · subst e
      rw [upd_same] at hc
      obtain rfl := Option.some.inj hc
      refine hk.mono (fun _ _ => rfl) (Pres.refl _ _) (fun r hr hi => hI r (by omega) hi) (fun _ _ => rfl)
    · rw [upd_ne _ _ e] at hc
      exact (h.blks c k' hc).mono (fun _ _ => rfl) hpres hI (fun r hr => hother r (fun e' => e (h.sep c b k' k0 r hc hb hr e')))
  · intro c c' k1 k2 r h1 h2 h3 h4
    obtain ⟨q1, hq1⟩ := hdom c k1 h1
    obtain ⟨q2, hq2⟩ := hdom c' k2 h2
    exact h.sep c c' q1 q2 r hq1 hq2 h3 h4
  · intro c k' r h1 h2
    rw [hsize]
    by_cases e : c = b
    · subst e
      rw [upd_same] at h1
      obtain rfl := Option.some.inj h1
      exact h.fresh c k0 r hb h2
    · rw [upd_ne _ _ e] at h1
      exact h.fresh c k' r h1 h2
  · intro c k' hc
    by_cases e : c = b
    · subst e
      rw [upd_same] at hc
      obtain rfl := Option.some.inj hc
      exact ⟨(h.brefs c k0 hb).1, hkr⟩
    · rw [upd_ne _ _ e] at hc
      exact h.brefs c k' hc

/-- A block is given up: from now on nobody writes it. -/
theorem M.drop (h : M cx ρ F s a w) (b : Nat) (ok : Prop) : M cx ρ F ⟨s.sl, upd s.hp b none, ok⟩ a w := by
  have hdom : ∀ c k', upd s.hp b none c = some k' → s.hp c = some k' ∧ c ≠ b := by
    intro c k' hc
    by_cases e : c = b
    · subst e; rw [upd_same] at hc; cases hc
    · rw [upd_ne _ _ e] at hc; exact ⟨hc, e⟩
  have hI : ∀ r, r < w.heap.size → cx.I ρ s r → cx.I ρ ⟨s.sl, upd s.hp b none, ok⟩ r :=
    fun r _ hi => ⟨hi.1, fun c k' hc hrr => hi.2 c k' (hdom c k' hc).1 hrr⟩
  refine M.turn h ok (fun _ _ => rfl) (fun _ h => h) rfl (Tp.refl _) rfl (Nat.le_refl _) (fun _ _ _ => rfl) hI ?_ ?_ ?_ ?_ h.rho
  · intro c k' hc
    exact (h.blks c k' (hdom c k' hc).1).mono (fun _ _ => rfl) (Pres.refl _ _) hI (fun _ _ => rfl)
  · intro c c' k1 k2 r h1 h2 h3 h4
    exact h.sep c c' k1 k2 r (hdom c k1 h1).1 (hdom c' k2 h2).1 h3 h4
  · intro c k' r h1 h2
    exact h.fresh c k' r (hdom c k' h1).1 h2
  · intro c k' hc
    exact h.brefs c k' (hdom c k' hc).1

theorem M.okay (h : M cx ρ F s a w) (ok : Prop) : M cx ρ F ⟨s.sl, s.hp, ok⟩ a w := ⟨h.os, h.tape, h.output, h.size, h.keeps, h.slots, h.blks, h.sep, h.fresh, h.srefs, h.brefs, h.rho, h.defers, h.tsize, h.pin⟩

theorem M.widen (h : M cx ρ F s a w) {F' : Nat → Prop} (hF : ∀ b, F b → F' b) : M cx ρ F' s a w :=
  ⟨h.os, h.tape, h.output, h.size, h.keeps, h.slots, h.blks, h.sep, h.fresh, fun d b hb => hF b (h.srefs d b hb), fun b k hk => ⟨hF b (h.brefs b k hk).1, fun c hc => hF c ((h.brefs b k hk).2 c hc)⟩, h.rho, h.defers, h.tsize, fun j hj => ⟨(h.pin j hj).1, hF j (h.pin j hj).2⟩⟩
end
end Go.Sx
