/-
  A region of operations: every order that the edges allow comes to what the order of the text comes to.
-/
import Derived.Test.YtolkdkhdkfndfaaSxRegion
namespace Go.Sx

section
variable {P : Program} {c : Ctx} {hide : Nat → Bool} {nid : Nat} {ops : Array Oper} {o : Oper} {anss : List Ans}

theorem step_eq (s : St) : step P c hide nid ops o anss s = ⟨putS c.n s.sl o.dst (delta P c hide nid ops o anss s).v, app s.hp (delta P c hide nid ops o anss s).ed, andP s.ok (delta P c hide nid ops o anss s).ob⟩ := rfl

theorem ev_congr {s s' : St} (h : ∀ t ∈ o.looksAt ops, s.sl t = s'.sl t) : ∀ x ∈ o.op.operands, s.ev x = s'.ev x := by
  intro x hx
  cases x with
  | tmp t =>
    refine h t ?_
    unfold Oper.looksAt
    refine List.mem_append.2 (.inl (List.mem_filterMap.2 ⟨.tmp t, by simpa using hx, rfl⟩))
  | _ => rfl

theorem gslot_looks {d : Nat} {want : Bool} (h : gslot ops o = some (some d, want)) : d ∈ o.looksAt ops := by
  unfold gslot at h
  obtain ⟨g, hg, he⟩ := Option.map_eq_some_iff.1 h
  simp only [Prod.mk.injEq] at he
  unfold Oper.looksAt
  refine List.mem_append.2 (.inr ?_)
  rw [hg]
  simp [he.1]

theorem delta_congr {s s' : St} (h : ∀ t ∈ o.looksAt ops, s.sl t = s'.sl t) (hv : touches o.op = true → view hide s.hp = view hide s'.hp) : delta P c hide nid ops o anss s = delta P c hide nid ops o anss s' := by
  have hp : ∀ ans, perf P c (view hide s.hp) nid s.ev ans o.op = perf P c (view hide s'.hp) nid s'.ev ans o.op := by
    intro ans
    rw [perf_ev (ev_congr h)]
    cases ht : touches o.op with
    | false => exact perf_hp ht _ _ _ _ _
    | true => rw [hv ht]
  unfold delta
  split
  · rw [hp]
  · rename_i d want hg
    rw [h d (gslot_looks hg)]
    split
    · split
      · rw [hp]
      · rfl
    · rfl
    · rfl
  · rfl

theorem delta_ed {s : St} {e : Nat × Option Blk} (he : e ∈ (delta P c hide nid ops o anss s).ed) : e.1 = nid ∨ (turns c o.op = true ∧ view hide s.hp e.1 ≠ none) := by
  unfold delta at he
  split at he
  · exact perf_ed he
  · split at he
    · split at he
      · exact perf_ed he
      · cases he
    · cases he
    · cases he
  · cases he

theorem view_app {hp : Nat → Option Blk} {ed : List (Nat × Option Blk)} (h : ∀ e ∈ ed, hide e.1 = true) : view hide (app hp ed) = view hide hp := by
  funext b
  unfold view
  split
  · rfl
  · rename_i hb
    refine app_other fun e he hh => ?_
    rw [← hh, h e he] at hb
    cases hb
end

theorem putS_look {n : Nat} {sl : Nat → AV} {d : Option Nat} {v : AV} {t : Nat} (h : d ≠ some t) : putS n sl d v t = sl t := by
  cases d with
  | none => rfl
  | some d =>
    have : Nat.beq t d = false := beq_false (fun e => h (by rw [e]))
    simp [putS, this]

theorem step_comm {P : Program} {c : Ctx} {ops : Array Oper} {o1 o2 : Oper} {hide1 hide2 : Nat → Bool} {nid1 nid2 : Nat} {a1 a2 : List Ans} (hap : o1.apart ops o2 = true) (ht1 : turns c o1.op = true → touches o2.op = true → ∀ b, hide1 b = false → hide2 b = true) (ht2 : turns c o2.op = true → touches o1.op = true → ∀ b, hide2 b = false → hide1 b = true) (h12 : hide1 nid2 = true) (h21 : hide2 nid1 = true) (hne : nid1 ≠ nid2) (s : St) :
    step P c hide2 nid2 ops o2 a2 (step P c hide1 nid1 ops o1 a1 s) = step P c hide1 nid1 ops o1 a1 (step P c hide2 nid2 ops o2 a2 s) := by
  have hvis : ∀ (hide : Nat → Bool) (b : Nat), view hide s.hp b ≠ none → hide b = false := by
    intro hide b hb
    cases hq : hide b with
    | false => rfl
    | true => exact absurd (by simp [view, hq]) hb
  obtain ⟨s1, s2, s3⟩ := Oper.apart_spec hap
  have key : ∀ {o o' : Oper} {hide hide' : Nat → Bool} {nid nid' : Nat} {a a' : List Ans}, (∀ d, o'.dst = some d → d ∉ o.looksAt ops) → (turns c o'.op = true → touches o.op = true → ∀ b, hide' b = false → hide b = true) → hide nid' = true →
      delta P c hide nid ops o a (step P c hide' nid' ops o' a' s) = delta P c hide nid ops o a s := by
    intro o o' hide hide' nid nid' a a' hl ht hh
    refine delta_congr (fun t htl => ?_) (fun htou => ?_)
    · rw [step_eq]
      exact putS_look (fun e => hl t e htl)
    · rw [step_eq]
      refine view_app fun e he => ?_
      rcases delta_ed he with he | ⟨he, hv⟩
      · rw [he]; exact hh
      · exact ht he htou _ (hvis _ _ hv)
  have k1 := key (o := o1) (o' := o2) (hide := hide1) (hide' := hide2) (nid := nid1) (nid' := nid2) (a := a1) (a' := a2) s3 ht2 h12
  have k2 := key (o := o2) (o' := o1) (hide := hide2) (hide' := hide1) (nid := nid2) (nid' := nid1) (a := a2) (a' := a1) s1 ht1 h21
  have hed : ∀ e ∈ (delta P c hide1 nid1 ops o1 a1 s).ed, ∀ e' ∈ (delta P c hide2 nid2 ops o2 a2 s).ed, e.1 ≠ e'.1 := by
    intro e he e' he' hh
    have touches_of : ∀ op : Op, turns c op = true → touches op = true := by intro op h; cases op <;> simp [turns] at h <;> rfl
    rcases delta_ed he with h1 | ⟨h1, h1'⟩
    · rcases delta_ed he' with h2 | ⟨h2, h2'⟩
      · exact hne (by rw [← h1, ← h2, hh])
      · have := hvis _ _ h2'
        rw [← hh, h1, h21] at this
        cases this
    · rcases delta_ed he' with h2 | ⟨h2, h2'⟩
      · have := hvis _ _ h1'
        rw [hh, h2, h12] at this
        cases this
      · have q1 := hvis _ _ h1'
        have q2 := hvis _ _ h2'
        have := ht1 h1 (touches_of _ h2) _ q1
        rw [hh, q2] at this
        cases this
  rw [step_eq (s := step P c hide1 nid1 ops o1 a1 s), step_eq (s := step P c hide2 nid2 ops o2 a2 s), k1, k2, step_eq (o := o1) (s := s), step_eq (o := o2) (s := s)]
  have e1 := putS_comm c.n s.sl (delta P c hide1 nid1 ops o1 a1 s).v (delta P c hide2 nid2 ops o2 a2 s).v s2
  have e2 := app_comm s.hp hed
  have e3 : andP (andP s.ok (delta P c hide1 nid1 ops o1 a1 s).ob) (delta P c hide2 nid2 ops o2 a2 s).ob = andP (andP s.ok (delta P c hide2 nid2 ops o2 a2 s).ob) (delta P c hide1 nid1 ops o1 a1 s).ob :=
    propext (by rw [andP_iff, andP_iff, andP_iff, andP_iff]; exact ⟨fun h => ⟨⟨h.1.1, h.2⟩, h.1.2⟩, fun h => ⟨⟨h.1.1, h.2⟩, h.1.2⟩⟩)
  simp only
  rw [e1, e2, e3]

namespace Reg
variable {R : Reg}

def ins (D : Nat → Bool) (i : Nat) : Nat → Bool := fun j => match Nat.beq j i with
  | true => true
  | false => D j

theorem ins_same (D : Nat → Bool) (i : Nat) : ins D i i = true := by simp [ins]
theorem ins_ne (D : Nat → Bool) {i j : Nat} (h : j ≠ i) : ins D i j = D j := by simp [ins, beq_false h]

theorem run_congr {D D' : Nat → Bool} (s : St) : ∀ {n : Nat}, (∀ j, j < n → D j = D' j) → R.run D n s = R.run D' n s := by
  intro n
  induction n with
  | zero => intro _; rfl
  | succ n ih =>
    intro h
    simp only [run]
    rw [ih (fun j hj => h j (by omega)), h n (by omega)]

theorem run_ins {D : Nat → Bool} {i : Nat} (s : St) (hi : D i = false) : ∀ {n : Nat}, i < n → (∀ j, i < j → j < n → D j = true → ∀ s, R.T j (R.T i s) = R.T i (R.T j s)) → R.run (ins D i) n s = R.T i (R.run D n s) := by
  intro n
  induction n with
  | zero => intro h; omega
  | succ n ih =>
    intro hlt hc
    by_cases e : i = n
    · subst e
      simp only [run, ins_same, hi]
      rw [run_congr s (fun j hj => ins_ne D (by omega))]
    · simp only [run]
      rw [ins_ne D (fun h => e h.symm), ih (by omega) (fun j h1 h2 => hc j h1 (by omega))]
      cases hD : D n with
      | true => exact hc n (by omega) (by omega) hD _
      | false => rfl

def Down (R : Reg) (D : Nat → Bool) : Prop := ∀ j oj, R.ops[j]? = some oj → D j = true → ∀ e ∈ oj.after, Region.binds .any e = true → D e.on = true

theorem chk_edge (h : R.chk = true) {j : Nat} {oj : Oper} (hj : R.ops[j]? = some oj) : ∀ e ∈ oj.after, Region.binds .any e = true → e.on < j := by
  have hlt : j < R.ops.size := (Array.getElem?_eq_some_iff.1 hj).1
  have h1 := List.all_eq_true.1 h j (List.mem_range.2 hlt)
  rw [hj] at h1
  simp only [Bool.and_eq_true] at h1
  intro e he hb
  have h2 := List.all_eq_true.1 h1.1 e (by simpa using he)
  rw [hb] at h2
  simp only [Bool.not_true, Bool.false_or] at h2
  exact blt_true h2

theorem chk_pair (h : R.chk = true) {i j : Nat} {oi oj : Oper} (hij : i < j) (hi : R.ops[i]? = some oi) (hj : R.ops[j]? = some oj) :
    Nat.testBit (R.tbl.getD i 0) j = false ∧ ((Nat.testBit (R.tbl.getD j 0) i = true ∧ ∃ e ∈ oj.after, Region.binds .any e = true ∧ (e.on = i ∨ Nat.testBit (R.tbl.getD e.on 0) i = true)) ∨
    (Nat.testBit (R.tbl.getD j 0) i = false ∧ comm R.c R.ops oi oj (R.src.getD i .unk) (R.src.getD j .unk) = true)) := by
  have hlt : j < R.ops.size := (Array.getElem?_eq_some_iff.1 hj).1
  have h1 := List.all_eq_true.1 h j (List.mem_range.2 hlt)
  rw [hj] at h1
  simp only [Bool.and_eq_true] at h1
  have h2 := List.all_eq_true.1 h1.2 i (List.mem_range.2 hij)
  rw [hi] at h2
  simp only at h2
  split at h2
  · rename_i ht
    simp only [Bool.and_eq_true, Bool.not_eq_true'] at h2
    obtain ⟨e, he, hh⟩ := List.any_eq_true.1 h2.1
    simp only [Bool.and_eq_true, Bool.or_eq_true] at hh
    refine ⟨h2.2, .inl ⟨ht, e, by simpa using he, hh.1, ?_⟩⟩
    rcases hh.2 with h | h
    · exact .inl (Nat.eq_of_beq_eq_true h)
    · exact .inr h
  · rename_i ht
    simp only [Bool.and_eq_true, Bool.not_eq_true'] at h2
    exact ⟨h2.2, .inr ⟨ht, h2.1⟩⟩

theorem down_mask (h : R.chk = true) {D : Nat → Bool} (hD : R.Down D) : ∀ (j : Nat) {i : Nat} {oi oj : Oper}, i < j → R.ops[i]? = some oi → R.ops[j]? = some oj → D j = true → Nat.testBit (R.tbl.getD j 0) i = true → D i = true := by
  intro j
  induction j using Nat.strongRecOn with
  | _ j ih =>
    intro i oi oj hij hi hj hDj ht
    rcases (chk_pair h hij hi hj).2 with ⟨_, e, he, hb, h1⟩ | ⟨h1, _⟩
    · have hlt := chk_edge h hj e he hb
      have hDe := hD j oj hj hDj e he hb
      rcases h1 with rfl | h1
      · exact hDe
      · have hje : e.on < R.ops.size := Nat.lt_trans hlt (Array.getElem?_eq_some_iff.1 hj).1
        by_cases hie : i < e.on
        · exact ih e.on hlt hie hi (Array.getElem?_eq_getElem hje) hDe h1
        · by_cases hie2 : i = e.on
          · rw [hie2]; exact hDe
          · have := (chk_pair h (show e.on < i by omega) (Array.getElem?_eq_getElem hje) hi).1
            rw [this] at h1; cases h1
    · rw [h1] at ht; cases ht
end Reg
end Go.Sx
