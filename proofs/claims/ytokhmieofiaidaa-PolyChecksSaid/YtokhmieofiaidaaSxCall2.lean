/-
  A call by contract, as an operation.
-/
import Derived.Test.YtokhmieofiaidaaSxCall
namespace Go.Sx
open Go.RowKit (Below)

section
variable {cx : Cx} {s : St} {o : Oper} {nid : Nat} {c : Ctx}

theorem run_call {P : Program} {a : Act} {w : World} {x : Operand} {args : List Operand} {ts : Array TypeId} (ho : o.op = .call { callee := .value x, args := args.toArray, argTypes := ts }) {f : FuncId} {caps : Array Value}
    (hx : a.eval x = .func (.func f) #[] caps) : (execOp a.eval o).run P w = (callFunc f ((args.map a.eval).toArray ++ caps)).run P w := by
  simp [execOp, ho, resolve, hx, Deferred.ofValue, invoke]

theorem ptrs_ok {ρ : Nat → Value} {F : Nat → Prop} {a : Act} {w : World} (_ : M cx ρ F s a w) : ∀ (ps : List Ptr), (∀ p ∈ ps, p.good ρ) → ∀ (i : Nat) (x : AV) (y : Value), (ps.map AV.ofPtr)[i]? = some x → (ps.map (·.val ρ))[i]? = some y → RV cx.P ρ w (cx.I ρ s) x y := by
  intro ps hg i x y hx hy
  rw [List.getElem?_map] at hx hy
  obtain ⟨z, hz, rfl⟩ := Option.map_eq_some_iff.1 hx
  rw [hz] at hy
  obtain rfl := Option.some.inj hy
  exact RV_of_ptr (hg z (List.mem_of_getElem? hz))

theorem any_lent_append {l m : List AV} : (l ++ m).any AV.lent = (l.any AV.lent || m.any AV.lent) := List.any_append

/-- The captured pointers of a closure: those that a contract takes are good, for their blocks are there. -/
theorem decCaps_ptr {hp : Nat → Option Blk} {p : Ptr} {t : Ty} {x : t.den} (h : decPtr hp p t = some x) : ∃ t' ty y, t = .ref t' ∧ hp p.b = some (.cells ty y) := by
  cases t with
  | ref t' =>
    have h : derefP hp p t' = some x := h
    unfold derefP at h
    split at h
    · rename_i ty y hk
      exact ⟨t', ty, y, rfl, hk⟩
    · cases h
  | _ => cases h

theorem good_of_blk {ρ : Nat → Value} {F : Nat → Prop} {a : Act} {w : World} (hM : M cx ρ F s a w) {p : Ptr} {ty : Ty} {y : ty.den} (hk : s.hp p.b = some (.cells ty y)) : p.good ρ := by
  obtain ⟨r, tid, cur, hv, _⟩ := hM.blks p.b _ hk
  exact ⟨⟨r, 0, none⟩, rfl, fun q hq => by unfold Ptr.val; rw [hq, hv]⟩

theorem decArgs_good {ρ : Nat → Value} {F : Nat → Prop} {a : Act} {w : World} (hM : M cx ρ F s a w) {hp : Nat → Option Blk} (hhp : ∀ b k, hp b = some k → s.hp b = some k) : ∀ {ps : Ty} {avs : List AV} {x : ps.den}, decArgs c hp ps avs = some x →
    ∀ p, .val .ptr p ∈ avs → p.good ρ := by
  intro ps
  induction ps with
  | pair q r _ ihr =>
    intro avs x h p hp'
    cases avs with
    | nil => cases hp'
    | cons av avs =>
      simp only [decArgs] at h
      split at h
      · rename_i y z hy hz
        rcases List.mem_cons.1 hp' with rfl | hp'
        · obtain ⟨t', ty, y', _, hk⟩ := decCaps_ptr (show decPtr hp p q = some y from hy)
          exact good_of_blk hM (hhp _ _ hk)
        · exact ihr hz p hp'
      · cases h
  | unit =>
    intro avs x h p hp'
    cases avs with
    | nil => cases hp'
    | cons _ _ => cases h
  | _ => intro avs x h p hp'; cases avs <;> cases h

theorem ok_pCallBy {hp : Nat → Option Blk} (hhp : ∀ b k, hp b = some k → s.hp b = some k) {x : Operand} {args : List Operand} {ts : Array TypeId} {g : FuncId × List Ptr} {sp : Spec} {y : sp.rs.den}
    (ho : o.op = .call { callee := .value x, args := args.toArray, argTypes := ts }) (hx : s.ev x = .val .clo g) (hc : FnsOk cx.P c) (hfn : FnOk cx.P g.1 sp) : OpOk cx o s nid (pCallBy c hp nid sp (args.map s.ev ++ g.2.map AV.ofPtr) y) := by
  unfold pCallBy
  split
  · rename_i z hz
    split
    · rename_i hb
      simp only [Bool.and_eq_true, Bool.or_eq_true, Bool.not_eq_true'] at hb
      refine ok_called (rs := sp.rs) (y := y) rfl rfl (Nat.le_of_ble_eq_true hb.1.2) hb.1.1 fun ρ F a w hM hob => ?_
      refine ⟨(args.map s.ev ++ g.2.map AV.ofPtr).any AV.lent, fun hl => ?_, g.1, (args.map a.eval).toArray ++ (g.2.map (·.val ρ)).toArray, run_call ho (RV_clo (by have := (hM.ev x).1; rw [hx] at this; exact this)), ?_⟩
      · rcases hb.2 with h | h
        · rw [h] at hl; cases hl
        · exact h
      · have hgood : ∀ p ∈ g.2, p.good ρ := fun p hp' => decArgs_good hM hhp hz p (List.mem_append.2 (.inr (List.mem_map_of_mem (f := AV.ofPtr) hp')))
        have hargs := args_sound (vs := args.map a.eval ++ g.2.map (·.val ρ)) hc hM hhp ((args.map s.ev ++ g.2.map AV.ofPtr).any AV.lent) (by simp) (fun i u v hu hv => by
            by_cases hi : i < args.length
            · rw [List.getElem?_append_left (by simpa using hi)] at hu hv
              exact evs_ok hM args i u v hu hv
            · rw [List.getElem?_append_right (by simpa using hi)] at hu hv
              simp only [List.length_map] at hu hv
              exact ptrs_ok hM g.2 hgood _ u v hu hv) hz (fun h => h)
        have e : (args.map a.eval).toArray ++ (g.2.map (·.val ρ)).toArray = (args.map a.eval ++ g.2.map (·.val ρ)).toArray := by simp
        rw [e]
        exact hfn w (okSet cx ρ s w ((args.map s.ev ++ g.2.map AV.ofPtr).any AV.lent)) z _ _ (fun b hb => hb.1) hargs hob
    · exact bad_ok
  · exact bad_ok

theorem flat_deep : ∀ {t : Ty}, t.flat = true → t.deep = true := by
  intro t
  induction t with
  | pair a b iha ihb => intro h; simp only [Ty.flat, Bool.and_eq_true] at h; simp [Ty.deep, iha h.1, ihb h.2]
  | arr n e ih => intro h; exact ih h
  | _ => intro h; first | rfl | cases h

theorem ok_pCallFn {hp : Nat → Option Blk} (hhp : ∀ b k, hp b = some k → s.hp b = some k) {x : Operand} {args : List Operand} {ts : Array TypeId} {ps r : Ty} {g : ps.den → Option r.den} {y : r.den}
    (ho : o.op = .call { callee := .value x, args := args.toArray, argTypes := ts }) (hx : s.ev x = .val (.fn ps r) g) (hc : FnsOk cx.P c) : OpOk cx o s nid (pCallFn c hp g (args.map s.ev) y) := by
  unfold pCallFn
  split
  · rename_i z hz
    split
    · rename_i hfl
      refine ok_called (rs := .one (.dp r)) (y := y) rfl rfl (Nat.zero_le _) (flat_deep hfl) fun ρ F a w hM hob => ?_
      have h1 := (hM.ev x).1
      rw [hx] at h1
      obtain ⟨cs, hxv, f, caps, rfl, hfn⟩ := h1
      refine ⟨(args.map s.ev).any AV.lent, fun _ => hfl, f, (args.map a.eval).toArray ++ caps, run_call ho hxv, ?_⟩
      have hargs := args_sound (vs := args.map a.eval) hc hM hhp ((args.map s.ev).any AV.lent) (by simp) (evs_ok hM args) hz (fun h => h)
      have hres := hfn w (Pres.refl _ _) (okSet cx ρ s w ((args.map s.ev).any AV.lent)) (fun b hb => hb.1) z y _ hargs hob
      exact hres.mono fun v w' ⟨⟨cc, hv, hcc⟩, hb⟩ => ⟨⟨fun _ => False, fun _ h => h.elim, cc, hv, hcc.flat hfl⟩, hb⟩
    · exact bad_ok
  · exact bad_ok

theorem ok_pCall {hp : Nat → Option Blk} (hhp : ∀ b k, hp b = some k → s.hp b = some k) {x : Operand} {args : List Operand} {ts : Array TypeId} {ans : Ans}
    (ho : o.op = .call { callee := .value x, args := args.toArray, argTypes := ts }) (hc : FnsOk cx.P c) : OpOk cx o s nid (pCall c hp nid (s.ev x) (args.map s.ev) ans) := by
  unfold pCall
  split
  · split
    · rename_i g hx
      split
      · rename_i sp hsp
        split
        · exact ok_pCallBy hhp ho hx hc (hc _ _ (find_mem hsp))
        · exact bad_ok
      · exact bad_ok
    · rename_i ps r g hx
      split
      · exact ok_pCallFn hhp ho hx hc
      · exact bad_ok
    · exact bad_ok
  · exact bad_ok
end
end Go.Sx
