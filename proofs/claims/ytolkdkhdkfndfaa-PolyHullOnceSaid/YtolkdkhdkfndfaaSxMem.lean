/-
  That what SxPerf tells of an operation is what the machine does: memory.
-/
import Derived.Test.YtolkdkhdkfndfaaSxRun
namespace Go.Sx

theorem zrest_sound {P : Program} {ρ : Nat → Value} {w : World} {I : Nat → Prop} : ∀ {ty : Ty} {cs r : List Value}, zrest ty cs = some r → ∃ c, cs = c ++ r ∧ Rd P ty false ρ w I ty.zero c := by
  intro ty
  induction ty with
  | int k =>
    intro cs r h
    simp only [zrest] at h
    unfold zInt at h
    split at h
    · split at h
      · rename_i hd
        simp only [Bool.and_eq_true, decide_eq_true_eq] at hd
        obtain ⟨rfl, rfl⟩ := hd
        obtain rfl := Option.some.inj h
        exact ⟨[_], rfl, rfl⟩
      · cases h
    · cases h
  | bool =>
    intro cs r h
    simp only [zrest] at h
    unfold zBool at h
    split at h
    · obtain rfl := Option.some.inj h
      exact ⟨[_], rfl, rfl⟩
    · cases h
  | unit => intro cs r h; simp only [zrest] at h; obtain rfl := Option.some.inj h; exact ⟨[], rfl, rfl⟩
  | pair a b iha ihb =>
    intro cs r h
    simp only [zrest] at h
    obtain ⟨r1, h1, h2⟩ := Option.bind_eq_some_iff.1 h
    obtain ⟨c1, rfl, hc1⟩ := iha h1
    obtain ⟨c2, rfl, hc2⟩ := ihb h2
    exact ⟨c1 ++ c2, by simp, c1, c2, rfl, hc1, hc2⟩
  | nil =>
    intro cs r h
    simp only [zrest] at h
    unfold zSlice at h
    split at h
    · obtain rfl := Option.some.inj h
      exact ⟨[_], rfl, rfl⟩
    · cases h
  | slice e _ =>
    intro cs r h
    simp only [zrest] at h
    unfold zSlice at h
    split at h
    · obtain rfl := Option.some.inj h
      exact ⟨[_], rfl, none, 0, rfl, Nat.le_refl _, .inl rfl⟩
    · cases h
  | arr n e ih =>
    intro cs r h
    simp only [zrest] at h
    have key : ∀ (n : Nat) (r : List Value), (Nat.rec (some cs) (fun _ q => q.bind (zrest e)) n : Option (List Value)) = some r →
        ∃ css : List (List Value), cs = css.flatten ++ r ∧ css.length = n ∧ ∀ c ∈ css, Rd P e false ρ w I e.zero c := by
      intro n
      induction n with
      | zero => intro r h; obtain rfl := Option.some.inj h; exact ⟨[], by simp, rfl, fun _ h => by cases h⟩
      | succ n ihn =>
        intro r h
        obtain ⟨r1, h1, h2⟩ := Option.bind_eq_some_iff.1 h
        obtain ⟨css, rfl, hl, hall⟩ := ihn r1 h1
        obtain ⟨c, rfl, hc⟩ := ih h2
        refine ⟨css ++ [c], by simp, by simp [hl], fun c' hc' => ?_⟩
        rcases List.mem_append.1 hc' with h | h
        · exact hall c' h
        · obtain rfl := List.mem_singleton.1 h; exact hc
    obtain ⟨css, rfl, hl, hall⟩ := key n r h
    refine ⟨css.flatten, rfl, by simp [Ty.zero], css, rfl, hl, fun i x c hx hc => ?_⟩
    have : x = e.zero := by
      have := List.mem_of_getElem? hx
      exact List.eq_of_mem_replicate this
    subst this
    exact hall c (List.mem_of_getElem? hc)
  | _ => intro cs r h; simp [zrest] at h

theorem zeroOk_sound {P : Program} {ρ : Nat → Value} {w : World} {I : Nat → Prop} {t : TypeId} {ty : Ty} (h : zeroOk P t ty = true) :
    ∃ i z, P.info? t = some i ∧ i.zero = some z ∧ Rd P ty false ρ w I ty.zero z.cells.toList := by
  unfold zeroOk at h
  split at h
  · rename_i z hz
    obtain ⟨i, hi, hz⟩ := Option.bind_eq_some_iff.1 hz
    split at h
    · rename_i hr
      obtain ⟨c, hc, hR⟩ := zrest_sound (P := P) (ρ := ρ) (w := w) (I := I) hr
      refine ⟨i, z, hi, hz, ?_⟩
      rw [hc, List.append_nil]
      exact hR
    · cases h
  · cases h

theorem refs_zero : ∀ (ty : Ty) {cs r : List Value}, zrest ty cs = some r → ty.refs ty.zero = [] := by
  intro ty
  induction ty with
  | pair a b iha ihb =>
    intro cs r h
    simp only [zrest] at h
    obtain ⟨r1, h1, h2⟩ := Option.bind_eq_some_iff.1 h
    simp [Ty.refs, Ty.zero, iha h1, ihb h2]
  | arr n e ih =>
    intro cs r h
    simp only [Ty.refs, Ty.zero]
    split
    · rfl
    · cases n with
      | zero => rfl
      | succ n =>
        simp only [zrest] at h
        obtain ⟨r1, h1, h2⟩ := Option.bind_eq_some_iff.1 h
        refine List.flatMap_eq_nil_iff.2 fun x hx => ?_
        rw [List.eq_of_mem_replicate hx]
        exact ih h2
  | own => intro cs r h; simp [zrest] at h
  | ptr => intro cs r h; simp [zrest] at h
  | clo => intro cs r h; simp [zrest] at h
  | _ => intros; rfl

theorem refs_zeroOk {P : Program} {t : TypeId} {ty : Ty} (h : zeroOk P t ty = true) : ty.refs ty.zero = [] := by
  unfold zeroOk at h
  split at h
  · split at h
    · rename_i hr
      exact refs_zero ty hr
    · cases h
  · cases h

theorem below_alloc (w : World) (o : Obj) : Below w.heap.size w (w.alloc o) := (Below.refl _ _).alloc (Nat.le_refl _) _

theorem heap_alloc_self (w : World) (o : Obj) : (w.alloc o).heap[w.heap.size]? = some o := by
  show (w.heap.push o)[w.heap.size]? = _
  simp

section
variable {cx : Cx} {s : St} {o : Oper} {nid : Nat} {c : Ctx}

theorem ptr_val_self (ρ : Nat → Value) (nid r : Nat) : (Ptr.mk nid 0 0 0 0).val (upd ρ nid (.pointer (some ⟨r, 0, none⟩))) = .pointer (some ⟨r, 0, none⟩) := by
  unfold Ptr.val
  rw [upd_same]
  simp [Ptr.co, Addr.add]

/-- A new block of cells, and its address. -/
theorem ok_newCells {ty : Ty} {x : ty.den} {p : Perf} (hp : p = ⟨.val .ptr ⟨nid, 0, 0, 0, 0⟩, [(nid, some (.cells ty x))], none⟩)
    (h : ∀ (ρ : Nat → Value) (F : Nat → Prop) (a : Act) (w : World), M cx ρ F s a w → ∃ cs tid, (execOp a.eval o).run cx.P w = .ok (.value (.pointer (some ⟨w.heap.size, 0, none⟩))) (w.alloc (.cells cs tid)) ∧
      Rd cx.P ty false ρ w (cx.I ρ s) x cs.toList ∧ ∀ b ∈ ty.refs x, F b) : OpOk cx o s nid p := by
  subst hp
  intro ρ F a w next Q hM hnF _ hn
  obtain ⟨cs, tid, hr, hx, hf⟩ := h ρ F a w hM
  unfold Oper.wp
  rw [hr]
  have hb := below_alloc w (.cells cs tid)
  have hpres : Pres (cx.I ρ s) w (w.alloc (.cells cs tid)) := ⟨hb.size, fun r hr _ => hb.block r hr⟩
  have hnew := M.new (k := .cells ty x) (v := .pointer (some ⟨w.heap.size, 0, none⟩)) hM hnF s.ok hb (fun r hr => by
      have : w.heap.size = r := Option.some.inj hr
      subst this
      exact ⟨Nat.le_refl _, by show w.heap.size < (w.heap.push _).size; simp⟩) rfl
    ⟨w.heap.size, tid, cs, rfl, heap_alloc_self _ _, hx.mono hpres (fun r hr hi => .inl ⟨hi, hr⟩)⟩ hf
  refine hn _ _ _ (M.put hnew o.dst ?_ (fun b hb => ?_) s.ok)
  · have := @RV_of_ptr (upd ρ nid (.pointer (some ⟨w.heap.size, 0, none⟩))) (w.alloc (.cells cs tid)) cx.P (cx.I (upd ρ nid (.pointer (some ⟨w.heap.size, 0, none⟩))) ⟨s.sl, upd s.hp nid (some (.cells ty x)), s.ok⟩) ⟨nid, 0, 0, 0, 0⟩ ⟨⟨w.heap.size, 0, none⟩, rfl, fun q hq => by unfold Ptr.val; rw [show q.b = nid from hq, upd_same]⟩
    rw [ptr_val_self] at this
    exact this
  · exact .inr (List.mem_singleton.1 hb)

theorem ok_alloc {t : TypeId} (ho : o.op = .alloc t) : OpOk cx o s nid (pAlloc cx.P c nid t) := by
  unfold pAlloc
  split
  · exact bad_ok
  · rename_i ty _
    split
    · rename_i hz
      refine ok_newCells rfl fun ρ F a w hM => ?_
      obtain ⟨i, z, hi, hzz, hR⟩ := zeroOk_sound (P := cx.P) (ρ := ρ) (w := w) (I := cx.I ρ s) hz
      refine ⟨z.cells, t, ?_, hR, fun b hb => by rw [refs_zeroOk hz] at hb; cases hb⟩
      simp [execOp, ho, Instr.alloc, zeroValue, typeInfo, hi, hzz, newVar, newRow]
    · exact bad_ok

theorem RdV.cells {P : Program} {t : Ty} {ρ : Nat → Value} {w : World} {I : Nat → Prop} {x : t.den} {v : Value} (h : RdV P t ρ w I x v) (hρ : ∀ b, (ρ b).oneCell' = true) :
    Rd P t false ρ w I x v.cells.toList := by
  obtain ⟨c, rfl, hc⟩ := h
  rw [hc.cellsV hρ]
  exact hc

theorem ok_box {t : TypeId} {x : Operand} (ho : o.op = .box t x) : OpOk cx o s nid (pBox c nid t (s.ev x)) := by
  unfold pBox
  split
  · rename_i ty y hx
    refine ok_newCells rfl fun ρ F a w hM => ?_
    have h1 := hM.ev x
    rw [hx] at h1
    refine ⟨(a.eval x).cells, t, ?_, RdV.cells h1.1 hM.rho, h1.2⟩
    simp [execOp, ho, Instr.box, newVar, newRow]
  · rename_i hx
    split
    · refine ok_newCells rfl fun ρ F a w hM => ?_
      have h1 := hM.ev x
      rw [hx] at h1
      have h2 : a.eval x = .slice none 0 0 := h1.1
      refine ⟨#[.slice none 0 0], t, ?_, ⟨none, 0, rfl, Nat.le_refl _, .inl rfl⟩, fun b hb => by cases hb⟩
      simp [execOp, ho, Instr.box, newVar, newRow, h2, Value.cells]
    · exact bad_ok
  · exact bad_ok
end
end Go.Sx
