/-
  A call by contract, as an operation.
-/
import Derived.Test.YtolkdkhdkfndfaaSxCallG
namespace Go.Sx

section
variable {cx : Cx} {s : St} {o : Oper} {nid : Nat} {c : Ctx}

theorem run_call {P : Program} {a : Act} {w : World} {x : Operand} {args : List Operand} {ts : Array TypeId} (ho : o.op = .call { callee := .value x, args := args.toArray, argTypes := ts }) {f : FuncId} {caps : Array Value}
    (hx : a.eval x = .func (.func f) #[] caps) : (execOp a.eval o).run P w = (callFunc f ((args.map a.eval).toArray ++ caps)).run P w := by
  simp [execOp, ho, resolve, hx, Deferred.ofValue, invoke]

theorem ptrs_ok {ρ : Nat → Value} {F : Nat → Prop} {a : Act} {w : World} (_ : M cx ρ F s a w) : ∀ (ps : List Ptr), (∀ p ∈ ps, p.good ρ) → ∀ (i : Nat) (x : AV) (y : Value), (ps.map AV.ofPtr)[i]? = some x → (ps.map (·.val ρ))[i]? = some y → RV cx.P ρ w (cx.I ρ s) x y := by
  intro ps hg i x y hx hy
  rw [List.getElem?_map] at hx hy
  obtain ⟨z, hz, rfl⟩ := Option.map_eq_some_iff.1 hx
  rw [hz] at hy
  obtain rfl := Option.some.inj hy
  exact RV_of_ptr (hg z (List.mem_of_getElem? hz))

theorem any_lent_append {l m : List AV} : (l ++ m).any AV.lent = (l.any AV.lent || m.any AV.lent) := List.any_append

/-- The captured pointers of a closure: those that a contract takes are good, for their blocks are there. -/
theorem decCaps_ptr {hp : Nat → Option Blk} {p : Ptr} {t : Ty} {x : t.den} (h : decPtr hp p t = some x) : ∃ t' ty y, t = .ref t' ∧ hp p.b = some (.cells ty y) := by
  cases t with
  | ref t' =>
    have h : derefP hp p t' = some x := h
    unfold derefP at h
    split at h
    · rename_i ty y hk
      exact ⟨t', ty, y, rfl, hk⟩
    · cases h
  | _ => cases h

theorem good_of_blk {ρ : Nat → Value} {F : Nat → Prop} {a : Act} {w : World} (hM : M cx ρ F s a w) {p : Ptr} {ty : Ty} {y : ty.den} (hk : s.hp p.b = some (.cells ty y)) : p.good ρ := by
  obtain ⟨r, tid, cur, hv, _⟩ := hM.blks p.b _ hk
  exact ⟨⟨r, 0, none⟩, rfl, fun q hq => by unfold Ptr.val; rw [hq, hv]⟩

theorem decArgs_good {ρ : Nat → Value} {F : Nat → Prop} {a : Act} {w : World} (hM : M cx ρ F s a w) {hp : Nat → Option Blk} (hhp : ∀ b k, hp b = some k → s.hp b = some k) : ∀ {ps : Ty} {avs : List AV} {x : ps.den}, decArgs c hp ps avs = some x →
    ∀ p, .val .ptr p ∈ avs → p.good ρ := by
  intro ps
  induction ps with
  | pair q r _ ihr =>
    intro avs x h p hp'
    cases avs with
    | nil => cases hp'
    | cons av avs =>
      simp only [decArgs] at h
      split at h
      · rename_i y z hy hz
        rcases List.mem_cons.1 hp' with rfl | hp'
        · obtain ⟨t', ty, y', _, hk⟩ := decCaps_ptr (show decPtr hp p q = some y from hy)
          exact good_of_blk hM (hhp _ _ hk)
        · exact ihr hz p hp'
      · cases h
  | unit =>
    intro avs x h p hp'
    cases avs with
    | nil => cases hp'
    | cons _ _ => cases h
  | _ => intro avs x h p hp'; cases avs <;> cases h

theorem ok_pCallBy {hp : Nat → Option Blk} (hhp : ∀ b k, hp b = some k → s.hp b = some k) {x : Operand} {args : List Operand} {ts : Array TypeId} {g : FuncId × List Ptr} {sp : Spec} {y : sp.rs.den}
    (ho : o.op = .call { callee := .value x, args := args.toArray, argTypes := ts }) (hx : s.ev x = .val .clo g) (hc : FnsOk cx.P c) (hfn : FnOkD cx.P g.1 sp.ps sp.rs sp.f) : OpOk cx o s nid (pCallBy c hp nid sp (args.map s.ev ++ g.2.map AV.ofPtr) y) := by
  unfold pCallBy
  split
  · rename_i z hz
    split
    · rename_i hb
      simp only [Bool.and_eq_true, Bool.or_eq_true, Bool.not_eq_true'] at hb
      refine ok_called (rs := sp.rs) (y := y) rfl rfl (Nat.le_of_ble_eq_true hb.1.2) hb.1.1 fun ρ F a w hM hob => ?_
      refine ⟨(args.map s.ev ++ g.2.map AV.ofPtr).any AV.lent, fun hl => ?_, g.1, (args.map a.eval).toArray ++ (g.2.map (·.val ρ)).toArray, run_call ho (RV_clo (by have := (hM.ev x).1; rw [hx] at this; exact this)), ?_⟩
      · rcases hb.2 with h | h
        · rw [h] at hl; cases hl
        · exact h
      · have hgood : ∀ p ∈ g.2, p.good ρ := fun p hp' => decArgs_good hM hhp hz p (List.mem_append.2 (.inr (List.mem_map_of_mem (f := AV.ofPtr) hp')))
        have hargs := args_sound (vs := args.map a.eval ++ g.2.map (·.val ρ)) hc hM hhp ((args.map s.ev ++ g.2.map AV.ofPtr).any AV.lent) (by simp) (fun i u v hu hv => by
            by_cases hi : i < args.length
            · rw [List.getElem?_append_left (by simpa using hi)] at hu hv
              exact evs_ok hM args i u v hu hv
            · rw [List.getElem?_append_right (by simpa using hi)] at hu hv
              simp only [List.length_map] at hu hv
              exact ptrs_ok hM g.2 hgood _ u v hu hv) hz (fun h => h)
        have e : (args.map a.eval).toArray ++ (g.2.map (·.val ρ)).toArray = (args.map a.eval ++ g.2.map (·.val ρ)).toArray := by simp
        rw [e]
        exact hfn w (okSet cx ρ s w ((args.map s.ev ++ g.2.map AV.ofPtr).any AV.lent)) z _ _ (fun b hb => hb.1) hargs hob
    · exact bad_ok
  · exact bad_ok

/-- A block of the call's own is written by a call. -/
theorem M.setW {ρ : Nat → Value} {F : Nat → Prop} {a : Act} {w : World} (h : M cx ρ F s a w) {b r : Nat} {k0 k : Blk} {w' : World} (ok : Prop) (hb : s.hp b = some k0) (hr : real (ρ b) = some r) (hx : BelowX r w w')
    (hk : RB cx.P ρ w' (fun q => (cx.I ρ s q ∧ q < w.heap.size) ∨ w.heap.size ≤ q) (ρ b) k) (hkr : ∀ c ∈ k.refs, F c) (_hkc : k.isC = k0.isC) :
    M cx ρ F ⟨s.sl, upd s.hp b (some k), ok⟩ a w' := by
  have hdom : ∀ c k', upd s.hp b (some k) c = some k' → ∃ k'', s.hp c = some k'' := by
    intro c k' hc
    by_cases e : c = b
    · subst e; exact ⟨_, hb⟩
    · rw [upd_ne _ _ e] at hc; exact ⟨_, hc⟩
  have hI : ∀ q, q < w.heap.size → cx.I ρ s q → cx.I ρ ⟨s.sl, upd s.hp b (some k), ok⟩ q := by
    intro q _ hi
    refine ⟨hi.1, fun c k' hc hrr => ?_⟩
    obtain ⟨k'', hk''⟩ := hdom c k' hc
    exact hi.2 c k'' hk'' hrr
  have hpres : Pres (cx.I ρ s) w w' := ⟨hx.size, fun q hq hi => hx.block q hq (fun e => hi.2 b k0 hb (by rw [hr, e]))⟩
  refine M.turn h ok (fun _ _ => rfl) (fun _ h => h) hx.os hx.tape hx.output hx.size ?_ hI ?_ ?_ ?_ ?_ h.rho
  · intro q hq hh
    refine hx.block q hq fun e => ?_
    rcases hh with hh | ⟨h1, h2⟩
    · exact hh.2 b k0 hb (by rw [hr, e])
    · rcases (h.fresh b k0 q hb (by rw [hr, e])).1 with h3 | h3
      · exact h3.elim (fun h => by omega) (fun h => h2 (.inr h))
      · exact h2 h3.1
  · intro c k' hc
    by_cases e : c = b
    · subst e
      rw [upd_same] at hc
      obtain rfl := Option.some.inj hc
      refine hk.mono (fun _ _ => rfl) (Pres.refl _ _) (fun q hq hi => ?_) (fun _ _ => rfl)
      rcases hi with ⟨hi, hlt⟩ | hi
      · exact hI q hlt hi
      · refine ⟨.inr (.inl (Nat.le_trans h.size hi)), fun c' k' hc' hrr => ?_⟩
        obtain ⟨k'', hk''⟩ := hdom c' k' hc'
        have := h.owned_lt hk'' hrr
        omega
    · rw [upd_ne _ _ e] at hc
      exact (h.blks c k' hc).mono (fun _ _ => rfl) hpres hI (fun q hq => hx.block q (h.owned_lt hc hq) (fun e' => e (h.sep c b k' k0 r hc hb (by rw [hq, e']) hr)))
  · intro c c' k1 k2 q h1 h2 h3 h4
    obtain ⟨q1, hq1⟩ := hdom c k1 h1
    obtain ⟨q2, hq2⟩ := hdom c' k2 h2
    exact h.sep c c' q1 q2 q hq1 hq2 h3 h4
  · intro c k' q h1 h2
    by_cases e : c = b
    · subst e
      rw [upd_same] at h1
      obtain rfl := Option.some.inj h1
      have := h.fresh c k0 q hb h2
      exact ⟨this.1, Nat.lt_of_lt_of_le this.2 hx.size⟩
    · rw [upd_ne _ _ e] at h1
      have := h.fresh c k' q h1 h2
      exact ⟨this.1, Nat.lt_of_lt_of_le this.2 hx.size⟩
  · intro c k' hc
    by_cases e : c = b
    · subst e
      rw [upd_same] at hc
      obtain rfl := Option.some.inj hc
      exact ⟨(h.brefs c k0 hb).1, hkr⟩
    · rw [upd_ne _ _ e] at hc
      exact h.brefs c k' hc

theorem Rs.vals_of_ok {P : Program} {w w' : World} {ok X : Nat → Prop} {nid : Nat} {rs : Rs} {y : rs.den} {v : Value} (hok : rs.ok P w w' ok X y v) :
    ∃ vs : List Value, rs.vals P w w' ok X y vs ∧ ∀ (ρ' : Nat → Value) (I' : Nat → Prop), Fits P w' ρ' I' (rs.avs nid y) vs → RV P ρ' w' I' (rs.av nid y) v := by
  cases rs with
  | none =>
    obtain ⟨vs, rfl, hvs⟩ := hok
    exact ⟨vs, hvs, fun ρ' I' hfit => ⟨vs, rfl, hfit.1, hfit.2⟩⟩
  | one r =>
    refine ⟨[v], ⟨v, rfl, hok⟩, fun ρ' I' hfit => ?_⟩
    cases r with
    | dp t => exact hfit.2 0 _ _ rfl rfl
    | ow e tid => exact hfit.2 0 _ _ rfl rfl
    | dn e =>
      have hok : RdV _ (.slice e) ρ0 _ _ y v ∧ (y = ([] : List e.den) → v = .slice Option.none 0 0) := hok
      match y, hok, hfit with
      | [], hok, _ => exact hok.2 rfl
      | a :: l, _, hfit => exact hfit.2 0 _ _ rfl rfl
  | more r rs =>
    obtain ⟨vs, rfl, hvs⟩ := hok
    exact ⟨vs, hvs, fun ρ' I' hfit => ⟨vs, rfl, hfit.1, hfit.2⟩⟩

theorem ok_pCallW {hp : Nat → Option Blk} (hhp : ∀ b k, hp b = some k → s.hp b = some k) {x : Operand} {args : List Operand} {ts : Array TypeId} {f : FuncId}
    (ho : o.op = .call { callee := .value x, args := args.toArray, argTypes := ts }) (hx : s.ev x = .val .clo (f, [])) (hc : FnsOk cx.P c) {ps : Ty} {rs : Rs} {g : ps.den → Option rs.den} {y : rs.den} (hfn : FnOkW cx.P f ps rs g) :
    OpOk cx o s nid (pCallW c hp nid ps rs g (args.map s.ev) y) := by
  unfold pCallW
  split
  · rename_i t ps t' rs g p avs y hav
    split
    · rename_i ty x0 hk
      split
      · rename_i x1 z hx1 hz
        split
        · rename_i hb
          simp only [Bool.and_eq_true, Bool.not_eq_true'] at hb
          obtain ⟨hco, htd, htd', hrd', how, hnl⟩ := hb
          have hco := Nat.eq_of_beq_eq_true hco
          have how := Nat.eq_of_beq_eq_true how
          obtain ⟨rfl, rfl⟩ := Ty.as?_some hx1
          intro ρ F a w next Q hM hnF hob hn
          have hk' := hhp _ _ hk
          obtain ⟨r, tid, cur, hv, hcur, hrd⟩ := hM.blks p.b _ hk'
          have hreal : real (ρ p.b) = some r := by rw [hv]; rfl
          cases args with
          | nil => cases hav
          | cons a0 as =>
            simp only [List.map_cons, List.cons.injEq] at hav
            obtain ⟨ha0, has⟩ := hav
            have hpv : a.eval a0 = .pointer (some ⟨r, 0, none⟩) := by
              have h1 := (hM.ev a0).1
              rw [ha0] at h1
              rw [RV_ptr h1]
              unfold Ptr.val
              rw [hv, hco]
              rfl
            have hhp' : ∀ b k, upd hp p.b none b = some k → s.hp b = some k := by
              intro b k h
              by_cases e : b = p.b
              · subst e; rw [upd_same] at h; cases h
              · rw [upd_ne _ _ e] at h; exact hhp b k h
            subst has
            have hargs := args_sound (vs := as.map a.eval) hc hM hhp' false (by simp) (evs_ok hM as) hz (fun h => by rw [hnl] at h; cases h)
            have hokI : ∀ b, okSet cx ρ s w false b → cx.I ρ s b := fun b hb => hb.2.resolve_left (by simp)
            have hrd0 := (hrd.rho (ρ' := ρ0) (fun b hb => by rw [Ty.deep_refs htd] at hb; cases hb)).mono (I' := okSet cx ρ s w false) (Pres.refl _ _) (fun q hq hi => ⟨hq, .inr hi⟩)
            have hinv := hfn w (okSet cx ρ s w false) r tid cur _ z y.1 y.2 (as.map a.eval) (fun b hb => ⟨hb.1, fun e => (hokI b hb).2 p.b _ hk' (by rw [hreal, e])⟩) hcur hrd0 hargs hob
            unfold Oper.wp
            rw [run_call ho (f := f) (caps := #[]) (RV_clo (by have := (hM.ev x).1; rw [hx] at this; exact this))]
            have e : ((a0 :: as).map a.eval).toArray ++ (#[] : Array Value) = (.pointer (some ⟨r, 0, none⟩) :: as.map a.eval).toArray := by simp [hpv]
            rw [e]
            refine hinv o a next Q fun v w' hres => ?_
            obtain ⟨⟨X, ⟨cur', tid', hcur', hrd2⟩, hok'⟩, hbx⟩ := hres
            have hM' := M.setW (k := .cells t' y.1) hM s.ok hk' hreal hbx ⟨r, tid', cur', hv, hcur', (hrd2.rho (fun b hb => by have e0 := Ty.deep_refs (t := t') (x := y.1) htd'; have hb : b ∈ ([] : List Nat) := e0 ▸ hb; cases hb)).mono (Pres.refl _ _) (fun q _ hi => by
              rcases hi.1 with hi | hi
              · exact .inl ⟨hokI q hi, hi.1⟩
              · exact .inr hi)⟩ (fun b hb => by
                have e0 := Ty.deep_refs (t := t') (x := y.1) htd'
                have hb : b ∈ ([] : List Nat) := e0 ▸ hb
                cases hb) rfl
            obtain ⟨vs, hvs, hfit⟩ := Rs.vals_of_ok (nid := nid) hok'
            obtain ⟨_, h1r, h2⟩ := vals0 (lent := false) nid hvs how hrd' (fun h => by cases h)
            refine hn ρ v w' ?_
            have hfits := h2 ρ (cx.I ρ ⟨s.sl, upd s.hp p.b (some (.cells t' y.1)), s.ok⟩) (by
              intro tt yy vv hdeep _ ⟨cc, hcv, hcc⟩
              refine ⟨cc, hcv, (hcc.rho (fun b hb => by rw [Ty.deep_refs hdeep] at hb; cases hb)).mono (Pres.refl _ _) fun q hq hi => ?_⟩
              have hdom : ∀ c k', upd s.hp p.b (some (.cells t' y.1)) c = some k' → ∃ k'', s.hp c = some k'' := by
                intro c k' hc'
                by_cases e : c = p.b
                · subst e; exact ⟨_, hk'⟩
                · rw [upd_ne _ _ e] at hc'; exact ⟨_, hc'⟩
              rcases hi.1 with hi' | hi'
              · refine ⟨(hokI q hi').1, fun c k' hc' hrr => ?_⟩
                obtain ⟨k'', hk''⟩ := hdom c k' hc'
                exact (hokI q hi').2 c k'' hk'' hrr
              · refine ⟨.inr (.inl (Nat.le_trans hM.size hi')), fun c k' hc' hrr => ?_⟩
                obtain ⟨k'', hk''⟩ := hdom c k' hc'
                have := hM.owned_lt hk'' hrr
                omega)
            refine (M.put hM' o.dst (hfit ρ _ hfits) (fun b hb => ?_) s.ok).widen (fun b hb => .inl hb)
            cases rs with
            | none => cases hb
            | one r' =>
              cases r' with
              | dp tt =>
                have e0 : tt.refs y.2 = [] := h1r _ (List.mem_singleton.2 rfl)
                have hb : b ∈ ([] : List Nat) := e0 ▸ hb
                cases hb
              | ow e' tid' => simp [Rs.ows, RT.ows] at how
              | dn e' =>
                obtain ⟨y1, y2⟩ := y
                match y2, hb with
                | [], hb => cases hb
                | a :: l, hb =>
                  have e0 : (Ty.slice e').refs (a :: l) = [] := Ty.deep_refs (t := .slice e') hrd'
                  have hb : b ∈ ([] : List Nat) := e0 ▸ hb
                  cases hb
            | more r' rs' =>
              obtain ⟨tt, ht, hbt⟩ := List.mem_flatMap.1 hb
              rw [h1r tt ht] at hbt
              cases hbt
        · exact bad_ok
      · exact bad_ok
    · exact bad_ok
  · exact bad_ok

theorem flat_deep : ∀ {t : Ty}, t.flat = true → t.deep = true := by
  intro t
  induction t with
  | pair a b iha ihb => intro h; simp only [Ty.flat, Bool.and_eq_true] at h; simp [Ty.deep, iha h.1, ihb h.2]
  | arr n e ih => intro h; exact ih h
  | _ => intro h; first | rfl | cases h

theorem ok_pCallFn {hp : Nat → Option Blk} (hhp : ∀ b k, hp b = some k → s.hp b = some k) {x : Operand} {args : List Operand} {ts : Array TypeId} {ps r : Ty} {g : ps.den → Option r.den} {y : r.den}
    (ho : o.op = .call { callee := .value x, args := args.toArray, argTypes := ts }) (hx : s.ev x = .val (.fn ps r) g) (hc : FnsOk cx.P c) : OpOk cx o s nid (pCallFn c hp g (args.map s.ev) y) := by
  unfold pCallFn
  split
  · rename_i z hz
    split
    · rename_i hfl
      refine ok_called (rs := .one (.dp r)) (y := y) rfl rfl (Nat.zero_le _) (flat_deep hfl) fun ρ F a w hM hob => ?_
      have h1 := (hM.ev x).1
      rw [hx] at h1
      obtain ⟨cs, hxv, f, caps, rfl, hfn⟩ := h1
      refine ⟨(args.map s.ev).any AV.lent, fun _ => hfl, f, (args.map a.eval).toArray ++ caps, run_call ho hxv, ?_⟩
      have hargs := args_sound (vs := args.map a.eval) hc hM hhp ((args.map s.ev).any AV.lent) (by simp) (evs_ok hM args) hz (fun h => h)
      have hres := hfn w (Pres.refl _ _) (okSet cx ρ s w ((args.map s.ev).any AV.lent)) (fun b hb => hb.1) z y _ hargs hob
      exact hres.mono fun v w' ⟨⟨cc, hv, hcc⟩, hb⟩ => ⟨⟨fun _ => False, fun _ h => h.elim, cc, hv, hcc.flat hfl⟩, hb⟩
    · exact bad_ok
  · exact bad_ok

theorem ok_pCallFn2 {hp : Nat → Option Blk} (hhp : ∀ b k, hp b = some k → s.hp b = some k) {x : Operand} {args : List Operand} {ts : Array TypeId} {ps p q : Ty} {g : ps.den → Option (p.den × q.den)} {y : p.den × q.den}
    (ho : o.op = .call { callee := .value x, args := args.toArray, argTypes := ts }) (hx : s.ev x = .val (.fn2 ps p q) g) (hc : FnsOk cx.P c) : OpOk cx o s nid (pCallFn2 c hp g (args.map s.ev) y) := by
  unfold pCallFn2
  split
  · rename_i z hz
    split
    · rename_i hfl
      simp only [Bool.and_eq_true] at hfl
      refine ok_called (rs := .more (.dp p) (.one (.dp q))) (y := y) rfl rfl (Nat.zero_le _) (by simp [Rs.deep, RT.deep, flat_deep hfl.1, flat_deep hfl.2]) fun ρ F a w hM hob => ?_
      have h1 := (hM.ev x).1
      rw [hx] at h1
      obtain ⟨cs, hxv, f, caps, rfl, hfn⟩ := h1
      refine ⟨(args.map s.ev).any AV.lent, fun _ => by simp [Rs.flat, RT.flat, hfl.1, hfl.2], f, (args.map a.eval).toArray ++ caps, run_call ho hxv, ?_⟩
      have hargs := args_sound (vs := args.map a.eval) hc hM hhp ((args.map s.ev).any AV.lent) (by simp) (evs_ok hM args) hz (fun h => h)
      have hres := hfn w (Pres.refl _ _) (okSet cx ρ s w ((args.map s.ev).any AV.lent)) (fun b hb => hb.1) z y _ hargs hob
      exact hres.mono fun v w' ⟨⟨c1, c2, hv, h1, h2⟩, hb⟩ => ⟨⟨fun _ => False, fun _ h => h.elim, [mkV p c1, mkV q c2], hv, mkV p c1, [mkV q c2], rfl, ⟨c1, rfl, h1.flat hfl.1⟩, mkV q c2, rfl, ⟨c2, rfl, h2.flat hfl.2⟩⟩, hb⟩
    · exact bad_ok
  · exact bad_ok

theorem ok_pCall {hp : Nat → Option Blk} (hhp : ∀ b k, hp b = some k → s.hp b = some k) {x : Operand} {args : List Operand} {ts : Array TypeId} {ans : Ans} {wr : Bool}
    (ho : o.op = .call { callee := .value x, args := args.toArray, argTypes := ts }) (hE : c.pin = cx.np) (hc : FnsOk cx.P c) (hh : HsOk cx.P c) : OpOk cx o s nid (pCall c hp nid wr (s.ev x) (args.map s.ev) ans) := by
  unfold pCall
  split
  · split
    · rename_i f hx
      split
      · rename_i h hsp
        split
        · have hk := hh _ _ (find_mem hsp)
          unfold HOk at hk
          unfold pCallHG
          cases hgv : h.gv with
          | false => rw [hgv] at hk; exact ok_pCallH hhp ho hx hc hk
          | true => rw [hgv] at hk; exact ok_pCallG hhp hE ho hx hc hk
        · exact bad_ok
      · exact bad_ok
    · exact bad_ok
  · split
    · rename_i g hx
      split
      · rename_i sp hsp
        split
        · have hfn := hc _ _ (find_mem hsp)
          unfold pCallS
          unfold FnOk at hfn
          split
          · rename_i hwr
            rw [hwr] at hfn
            exact ok_pCallBy hhp ho hx hc hfn
          · rename_i hwr hg
            rw [hwr] at hfn
            simp only [Bool.and_eq_true, List.isEmpty_iff] at hg
            have hg2 := hg.2
            obtain ⟨g1, g2⟩ := g
            simp only at hg2
            subst hg2
            rw [List.map_nil, List.append_nil]
            exact ok_pCallW hhp ho hx hc hfn
          · exact bad_ok
        · exact bad_ok
      · exact bad_ok
    · rename_i ps r g hx
      split
      · exact ok_pCallFn hhp ho hx hc
      · exact bad_ok
    · rename_i ps p q g hx
      split
      · exact ok_pCallFn2 hhp ho hx hc
      · exact bad_ok
    · exact bad_ok
  · exact bad_ok
end
end Go.Sx
