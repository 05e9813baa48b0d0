/-
  A region of operations is what its abstract run says, in every order.
-/
import Derived.Test.YtolkdkhdkfndfaaSxRegion2
namespace Go.Sx

namespace Reg
variable {R : Reg}

def hide (R : Reg) (i : Nat) : Nat → Bool := fun b => hideOf R.n0 R.ops.size (R.tbl.getD i 0) b || srcHide (R.src.getD i .unk) b

theorem T_some {i : Nat} {o : Oper} (h : R.ops[i]? = some o) (s : St) : R.T i s = step R.P R.c (R.hide i) (R.n0 + i) R.ops o (R.anss.getD i []) s := by
  unfold T
  rw [h]
  rfl

theorem T_mono {i : Nat} {s : St} (h : (R.T i s).ok) : s.ok := by
  unfold T at h
  split at h
  · exact step_mono h
  · exact h

theorem run_mono {D : Nat → Bool} {s : St} : ∀ {n : Nat}, (R.run D n s).ok → s.ok := by
  intro n
  induction n with
  | zero => exact id
  | succ n ih =>
    intro h
    simp only [run] at h
    split at h
    · exact ih (T_mono h)
    · exact ih h

theorem hide_of {i j : Nat} (hj : j < R.ops.size) (h : Nat.testBit (R.tbl.getD i 0) j = false) : R.hide i (R.n0 + j) = true := by
  have h1 : Nat.ble R.n0 (R.n0 + j) = true := by rw [Nat.ble_eq]; omega
  have h2 : Nat.blt (R.n0 + j) (R.n0 + R.ops.size) = true := by
    show Nat.ble (R.n0 + j + 1) (R.n0 + R.ops.size) = true
    rw [Nat.ble_eq]; omega
  have h3 : R.n0 + j - R.n0 = j := by omega
  simp only [hide, hideOf, h1, h2, h3, h, Bool.not_false, Bool.and_self, Bool.true_or]

theorem T_comm (h : R.chk = true) {D : Nat → Bool} (hD : R.Down D) {i j : Nat} (hij : i < j) (hj : j < R.ops.size) (hDj : D j = true) (hDi : D i = false) (s : St) : R.T j (R.T i s) = R.T i (R.T j s) := by
  have hi' : i < R.ops.size := by omega
  have ei := Array.getElem?_eq_getElem hi'
  have ej := Array.getElem?_eq_getElem hj
  obtain ⟨h1, h2⟩ := chk_pair h hij ei ej
  rcases h2 with ⟨h2, _⟩ | ⟨h2, h3⟩
  · have := down_mask h hD j hij ei ej hDj h2
    rw [this] at hDi; cases hDi
  · rw [T_some ei, T_some ej, T_some ej, T_some ei]
    simp only [comm, Bool.and_eq_true, Bool.or_eq_true, Bool.not_eq_true', Bool.and_eq_false_iff] at h3
    obtain ⟨h3, h4, h5⟩ := h3
    have sep : ∀ {i j : Nat} {t u : Bool}, (t = false ∨ u = false) ∨ apartS (R.src.getD i .unk) (R.src.getD j .unk) = true → t = true → u = true → ∀ b, R.hide i b = false → R.hide j b = true := by
      intro i j t u hh ht hu b hb
      rcases hh with (hh | hh) | hh
      · rw [hh] at ht; cases ht
      · rw [hh] at hu; cases hu
      · simp only [hide, Bool.or_eq_false_iff] at hb
        simp only [hide, apartS_hide hh hb.2, Bool.or_true]
    exact step_comm h3 (sep h4) (sep h5) (hide_of hj h1) (hide_of hi' h2) (by omega) s

theorem run_add (h : R.chk = true) {D : Nat → Bool} (hD : R.Down D) {i : Nat} (hi : i < R.ops.size) (hDi : D i = false) (s : St) : R.run (ins D i) R.ops.size s = R.T i (R.run D R.ops.size s) :=
  run_ins s hDi hi fun _ h1 h2 h3 s' => T_comm h hD h1 h2 h3 hDi s'

theorem down_ins {D : Nat → Bool} (hD : R.Down D) {i : Nat} {oi : Oper} (hi : R.ops[i]? = some oi) (he : ∀ e ∈ oi.after, Region.binds .any e = true → D e.on = true) : R.Down (ins D i) := by
  intro j oj hj hDj e hee hb
  by_cases hji : j = i
  · subst hji
    rw [hj] at hi
    obtain rfl := Option.some.inj hi
    by_cases h : e.on = j
    · rw [h]; exact ins_same D j
    · rw [ins_ne D h]; exact he e hee hb
  · rw [ins_ne D hji] at hDj
    by_cases h : e.on = i
    · rw [h]; exact ins_same D i
    · rw [ins_ne D h]; exact hD j oj hj hDj e hee hb

/-- How many operations are still to come. -/
def left (D : Nat → Bool) : Nat → Nat
  | 0 => 0
  | n + 1 => left D n + (match D n with | true => 0 | false => 1)

theorem left_ins {D : Nat → Bool} {i : Nat} (hi : D i = false) : ∀ {n : Nat}, i < n → left (ins D i) n + 1 = left D n := by
  have same : ∀ {n : Nat}, n ≤ i → left (ins D i) n = left D n := by
    intro n
    induction n with
    | zero => intro _; rfl
    | succ n ih => intro h; simp only [left]; rw [ih (by omega), ins_ne D (by omega)]
  intro n
  induction n with
  | zero => intro h; omega
  | succ n ih =>
    intro h
    by_cases e : i = n
    · subst e
      simp only [left, ins_same, hi, same (Nat.le_refl _)]
    · simp only [left]
      rw [ins_ne D (fun h => e h.symm)]
      have := ih (by omega)
      omega

theorem left_zero {D : Nat → Bool} : ∀ {n : Nat}, left D n = 0 → ∀ j, j < n → D j = true := by
  intro n
  induction n with
  | zero => intro _ j hj; omega
  | succ n ih =>
    intro h j hj
    simp only [left] at h
    cases hD : D n with
    | false => rw [hD] at h; simp only at h; omega
    | true =>
      rw [hD] at h
      simp only at h
      by_cases e : j = n
      · rw [e]; exact hD
      · exact ih (by omega) j (by omega)

/-- While something is to come, something can be taken. -/
theorem next_of (h : R.chk = true) {D : Nat → Bool} : ∀ (n : Nat), n ≤ R.ops.size → left D n ≠ 0 → ∃ i oi, i < n ∧ R.ops[i]? = some oi ∧ D i = false ∧ ∀ e ∈ oi.after, Region.binds .any e = true → D e.on = true := by
  intro n
  induction n with
  | zero => intro _ h; exact absurd rfl h
  | succ n ih =>
    intro hn hl
    by_cases h0 : left D n = 0
    · have hall := left_zero h0
      simp only [left, h0] at hl
      cases hD : D n with
      | true => rw [hD] at hl; exact absurd rfl hl
      | false =>
        have ej := Array.getElem?_eq_getElem (xs := R.ops) (show n < R.ops.size by omega)
        exact ⟨n, _, by omega, ej, hD, fun e he hb => hall _ (chk_edge h ej e he hb)⟩
    · obtain ⟨i, oi, h1, h2⟩ := ih (by omega) h0
      exact ⟨i, oi, by omega, h2⟩

theorem run_ok (h : R.chk = true) (s : St) (hok : (R.run (fun _ => true) R.ops.size s).ok) : ∀ (k : Nat) (D : Nat → Bool), R.Down D → left D R.ops.size = k → (R.run D R.ops.size s).ok := by
  intro k
  induction k with
  | zero =>
    intro D _ hl
    have := left_zero hl
    rw [run_congr s (fun j hj => this j hj)]
    exact hok
  | succ k ih =>
    intro D hD hl
    obtain ⟨i, oi, h1, h2, h3, h4⟩ := next_of (D := D) h R.ops.size (Nat.le_refl _) (by omega)
    have hr := ih (ins D i) (down_ins hD h2 h4) (by have := left_ins h3 h1; omega)
    rw [run_add h hD h1 h3] at hr
    exact T_mono hr

/-- The blocks that may be spoken of, once D is done. -/
def names (R : Reg) (D : Nat → Bool) (b : Nat) : Prop := b < R.n0 ∨ ∃ i, i < R.ops.size ∧ D i = true ∧ b = R.n0 + i

variable {cx : Cx}

theorem wp_any (hP : R.P = cx.P) (hc : CtxOk cx.P R.c) (hn : R.c.n = cx.n) (hE : R.c.pin = cx.np) (h : R.chk = true) {s : St} (hok : (R.run (fun _ => true) R.ops.size s).ok) {Q : Exit → Act → World → Prop}
    (hQ : ∀ ρ a w, M cx ρ (fun b => b < R.n0 + R.ops.size) (R.run (fun _ => true) R.ops.size s) a w → Q .normal a w) :
    ∀ (fuel : Nat) (listed : Array Bool) (ρ : Nat → Value) (a : Act) (w : World), listed.size = R.ops.size → R.Down (fun i => listed.getD i false) → left (fun i => listed.getD i false) R.ops.size ≤ fuel →
      M cx ρ (R.names fun i => listed.getD i false) (R.run (fun i => listed.getD i false) R.ops.size s) a w → wpAny cx.P .any R.ops Q fuel listed a w := by
  have fin : ∀ (listed : Array Bool) (ρ : Nat → Value) (a : Act) (w : World), left (fun i => listed.getD i false) R.ops.size = 0 →
      M cx ρ (R.names fun i => listed.getD i false) (R.run (fun i => listed.getD i false) R.ops.size s) a w → Q .normal a w := by
    intro listed ρ a w hl hM
    have hall := left_zero hl
    rw [run_congr s (D' := fun _ => true) (fun j hj => hall j hj)] at hM
    refine hQ ρ a w (hM.widen fun b hb => ?_)
    rcases hb with hb | ⟨i, hi, _, rfl⟩ <;> omega
  have ready0 : ∀ (listed : Array Bool), listed.size = R.ops.size → Region.ready .any R.ops listed = [] → left (fun i => listed.getD i false) R.ops.size = 0 := by
    intro listed hsz hr
    cases hl : left (fun i => listed.getD i false) R.ops.size with
    | zero => rfl
    | succ k =>
      obtain ⟨i, oi, h1, h2, h3, h4⟩ := next_of (D := fun i => listed.getD i false) h R.ops.size (Nat.le_refl _) (by omega)
      have : i ∈ Region.ready .any R.ops listed := by
        refine mem_ready.2 ⟨?_, oi, h2, h4⟩
        have hlt : i < listed.size := by omega
        simp only [Array.getD_eq_getD_getElem?, Array.getElem?_eq_getElem hlt, Option.getD_some] at h3 ⊢
        exact h3
      rw [hr] at this
      cases this
  intro fuel
  induction fuel with
  | zero =>
    intro listed ρ a w hsz hD hl hM
    have hl0 : left (fun i => listed.getD i false) R.ops.size = 0 := by omega
    refine ⟨?_, fin listed ρ a w hl0 hM⟩
    cases hr : Region.ready .any R.ops listed with
    | nil => rfl
    | cons i l =>
      have hi : i ∈ Region.ready .any R.ops listed := by rw [hr]; exact List.mem_cons_self
      obtain ⟨h1, o, ho, _⟩ := mem_ready.1 hi
      have hlt : i < R.ops.size := (Array.getElem?_eq_some_iff.1 ho).1
      have h2 := left_zero hl0 i hlt
      have hlt' : i < listed.size := by omega
      simp only [Array.getD_eq_getD_getElem?, Array.getElem?_eq_getElem hlt', Option.getD_some] at h1 h2
      rw [h1] at h2; cases h2
  | succ fuel ih =>
    intro listed ρ a w hsz hD hl hM
    refine ⟨fun hr => fin listed ρ a w (ready0 listed hsz hr) hM, fun i hi => ?_⟩
    obtain ⟨h1, o, ho, h2⟩ := mem_ready.1 hi
    have hlt : i < R.ops.size := (Array.getElem?_eq_some_iff.1 ho).1
    have hlt' : i < listed.size := by omega
    have hDi : listed.getD i false = false := by
      simp only [Array.getD_eq_getD_getElem?, Array.getElem?_eq_getElem hlt', Option.getD_some] at h1 ⊢
      exact h1
    have hins : (fun j => (listed.setIfInBounds i true).getD j false) = ins (fun i => listed.getD i false) i := by
      funext j
      by_cases e : j = i
      · subst e
        rw [ins_same]
        simp [Array.getD_eq_getD_getElem?, hlt']
      · rw [ins_ne _ e]
        simp only [Array.getD_eq_getD_getElem?]
        rw [Array.getElem?_setIfInBounds_ne (fun h => e h.symm)]
    have hD' := down_ins hD ho h2
    have hrun := run_add h hD hlt hDi s
    have hleft := left_ins (D := fun i => listed.getD i false) hDi hlt
    have hokT : (R.T i (R.run (fun i => listed.getD i false) R.ops.size s)).ok := by
      rw [← hrun]
      exact run_ok h s hok _ _ hD' rfl
    rw [T_some ho] at hokT hrun
    rw [hP] at hokT hrun
    refine step_sound hc hn hE hM (nid := R.n0 + i) (fun hF => ?_) ho hokT fun ρ' a' w' hM' => ?_
    · rcases hF with hF | ⟨j, _, hj, hjj⟩
      · omega
      · have : j = i := by omega
        subst this
        have hj : listed.getD j false = true := hj
        rw [hDi] at hj; cases hj
    · refine ih (listed.setIfInBounds i true) ρ' a' w' (by rw [Array.size_setIfInBounds]; exact hsz) ?_ ?_ ?_
      · rw [hins]; exact hD'
      · rw [hins]; omega
      · rw [hins, hrun]
        refine hM'.widen fun b hb => ?_
        rcases hb with (hb | ⟨j, hj, hDj, rfl⟩) | rfl
        · exact .inl hb
        · refine .inr ⟨j, hj, ?_, rfl⟩
          by_cases e : j = i
          · rw [e]; exact ins_same _ i
          · rw [ins_ne _ e]; exact hDj
        · exact .inr ⟨i, hlt, ins_same _ i, rfl⟩

theorem wp_seq (hP : R.P = cx.P) (hc : CtxOk cx.P R.c) (hn : R.c.n = cx.n) (hE : R.c.pin = cx.np) {s : St} (hok : (R.run (fun _ => true) R.ops.size s).ok) {Q : Exit → Act → World → Prop}
    (hQ : ∀ ρ a w, M cx ρ (fun b => b < R.n0 + R.ops.size) (R.run (fun _ => true) R.ops.size s) a w → Q .normal a w) :
    ∀ (k j : Nat) (ρ : Nat → Value) (a : Act) (w : World), j + k = R.ops.size → M cx ρ (fun b => b < R.n0 + j) (R.run (fun _ => true) j s) a w → wpOps cx.P R.ops Q (List.range' j k) a w := by
  have okj : ∀ (k j : Nat), j + k = R.ops.size → (R.run (fun _ => true) j s).ok := by
    intro k
    induction k with
    | zero => intro j hj; have : j = R.ops.size := by omega
              rw [this]; exact hok
    | succ k ih => intro j hj; exact T_mono (i := j) (ih (j + 1) (by omega))
  intro k
  induction k with
  | zero =>
    intro j ρ a w hj hM
    have : j = R.ops.size := by omega
    subst this
    exact hQ ρ a w hM
  | succ k ih =>
    intro j ρ a w hj hM
    have hlt : j < R.ops.size := by omega
    have ho := Array.getElem?_eq_getElem hlt
    rw [List.range'_succ, wpOps_cons]
    have hok' := okj k (j + 1) (by omega)
    have hrun : R.run (fun _ => true) (j + 1) s = R.T j (R.run (fun _ => true) j s) := rfl
    rw [hrun, T_some ho, hP] at hok'
    refine step_sound hc hn hE hM (nid := R.n0 + j) (fun hF => by omega) ho hok' fun ρ' a' w' hM' => ?_
    refine ih (j + 1) ρ' a' w' (by omega) ?_
    rw [hrun, T_some ho, hP]
    refine hM'.widen fun b hb => ?_
    rcases hb with hb | rfl <;> omega

/-- A region, drawn or not. -/
theorem wp (hP : R.P = cx.P) (hc : CtxOk cx.P R.c) (hn : R.c.n = cx.n) (hE : R.c.pin = cx.np) (hmix : cx.P.follows .mixedOrders = true) {draw : Bool} (h : draw = true → R.chk = true) {s : St} (hok : (R.run (fun _ => true) R.ops.size s).ok)
    {ρ : Nat → Value} {a : Act} {w : World} (hM : M cx ρ (fun b => b < R.n0) s a w) {Q : Exit → Act → World → Prop}
    (hQ : ∀ ρ a w, M cx ρ (fun b => b < R.n0 + R.ops.size) (R.run (fun _ => true) R.ops.size s) a w → Q .normal a w) (id : Nat) : (Code.region id R.ops draw).wp cx.P Q a w := by
  cases draw with
  | false =>
    refine wp_region ?_
    rw [List.range_eq_range']
    exact wp_seq hP hc hn hE hok hQ R.ops.size 0 ρ a w (by omega) hM
  | true =>
    refine wp_region_any hmix ?_
    have hM' : M cx ρ (fun b => b < R.n0) s a w.drew := hM.world (Below.refl _ _).drew
    have hz : ∀ i, (Array.replicate R.ops.size false).getD i false = false := by
      intro i
      simp only [Array.getD_eq_getD_getElem?, Array.getElem?_replicate]
      split <;> rfl
    have hr0 : ∀ n, R.run (fun i => (Array.replicate R.ops.size false).getD i false) n s = s := by
      intro n
      induction n with
      | zero => rfl
      | succ n ih => simp only [run]; rw [hz, ih]
    have hl0 : ∀ n, left (fun i => (Array.replicate R.ops.size false).getD i false) n ≤ n := by
      intro n
      induction n with
      | zero => exact Nat.le_refl _
      | succ n ih => simp only [left]; rw [hz]; simp only; omega
    refine wp_any hP hc hn hE (h rfl) hok hQ R.ops.size _ ρ a w.drew (by simp) (fun j oj _ hj => by have hj : (Array.replicate R.ops.size false).getD j false = true := hj; rw [hz] at hj; cases hj) (hl0 _) ?_
    rw [hr0]
    exact hM'.widen fun b hb => .inl hb
end Reg
end Go.Sx
