/-
  A function's contract out of its ways.
-/
import Derived.Test.YtolkdkhdkfndfaaSxExec2
namespace Go.Sx

/-- A parameter: a pointer to data is a place to read. -/
def pAV : (t : Ty) → t.den → AV
  | .ref t, x => .imm t x 0
  | .int k, x => .val (.int k) x
  | .bool, x => .val .bool x
  | .nil, _ => .nil
  | .unit, x => .val .unit x
  | .pair a b, x => .val (.pair a b) x
  | .slice e, x => .val (.slice e) x
  | .arr n e, x => .val (.arr n e) x
  | .own, x => .val .own x
  | .ptr, x => .val .ptr x
  | .clo, x => .val .clo x
  | .fn ps r, x => .val (.fn ps r) x
  | .fn2 ps a b, x => .val (.fn2 ps a b) x

def entryL : (ps : Ty) → Nat → ps.den → List (Nat × AV)
  | .pair t r, i, x => (i, pAV t x.1) :: entryL r (i + 1) x.2
  | .int _, _, _ => []
  | .bool, _, _ => []
  | .nil, _, _ => []
  | .unit, _, _ => []
  | .slice _, _, _ => []
  | .arr _ _, _, _ => []
  | .own, _, _ => []
  | .ptr, _, _ => []
  | .clo, _, _ => []
  | .fn _ _, _, _ => []
  | .fn2 _ _ _, _, _ => []
  | .ref _, _, _ => []

def entry (ps : Ty) (x : ps.den) : SL := ⟨entryL ps 0 x, []⟩

def Ty.deepL : Ty → Bool
  | .pair t r => t.deep && r.deepL
  | .unit => true
  | _ => false

section
variable {P : Program} {c : Ctx}

theorem pAV_sound {w : World} {I : Nat → Prop} {t : Ty} {x : t.den} {c1 : List Value} (h : Rd P t false ρ0 w I x c1) : RV P ρ0 w I (pAV t x) (mkV t c1) := by
  cases t with
  | ref t =>
    obtain ⟨ad, c, rfl, h1, h2, h3, h4, h5⟩ := h
    refine ⟨ad, c, ?_, h1, h2, h3, h4, h5⟩
    have : ad.add 0 = ad := by cases ad; unfold Addr.add; split <;> simp_all
    rw [this]; rfl
  | nil =>
    have h : c1 = [.slice none 0 0] := h
    subst h
    rfl
  | _ => exact ⟨c1, rfl, h⟩

theorem pAV_refs {t : Ty} {x : t.den} (h : t.deep = true) : (pAV t x).refs = [] := by
  cases t with
  | ref t => rfl
  | pair a b => exact Ty.deep_refs (t := .pair a b) h
  | slice e => rfl
  | arr n e => exact Ty.deep_refs (t := .arr n e) h
  | fn a b => rfl
  | fn2 p a b => rfl
  | int k => rfl
  | nil => rfl
  | bool => rfl
  | unit => rfl
  | own => cases h
  | ptr => cases h
  | clo => cases h

theorem entry_sound {w : World} {I : Nat → Prop} : ∀ {ps : Ty} {i : Nat} {x : ps.den} {vs : List Value}, Rd P ps true ρ0 w I x vs → ∀ {d : Nat} {av : AV}, find (entryL ps i x) d = some av → i ≤ d ∧ ∃ v, vs[d - i]? = some v ∧ RV P ρ0 w I av v := by
  intro ps
  induction ps with
  | pair t r _ ihr =>
    intro i x vs h d av hf
    obtain ⟨c1, vs', rfl, h1, h2⟩ := h
    simp only [entryL] at hf
    unfold find at hf
    split at hf
    · rename_i hd
      have hd := Nat.eq_of_beq_eq_true hd
      obtain rfl := Option.some.inj hf
      subst hd
      exact ⟨Nat.le_refl _, mkV t c1, by simp, pAV_sound h1⟩
    · obtain ⟨h3, v, h4, h5⟩ := ihr h2 hf
      refine ⟨by omega, v, ?_, h5⟩
      have : d - i = (d - (i + 1)) + 1 := by omega
      rw [this]
      simpa using h4
  | _ => intro i x vs h d av hf; simp [entryL, find] at hf

theorem entry_refs : ∀ {ps : Ty} {i : Nat} {x : ps.den}, ps.deepL = true → ∀ {d : Nat} {av : AV}, find (entryL ps i x) d = some av → av.refs = [] := by
  intro ps
  induction ps with
  | pair t r _ ihr =>
    intro i x hd d av hf
    simp only [Ty.deepL, Bool.and_eq_true] at hd
    simp only [entryL] at hf
    unfold find at hf
    split at hf
    · obtain rfl := Option.some.inj hf
      exact pAV_refs hd.1
    · exact ihr hd.2 hf
  | _ => intro i x hd d av hf; simp [entryL, find] at hf

theorem args_len : ∀ {ps : Ty} {ρ : Nat → Value} {w : World} {I : Nat → Prop} {x : ps.den} {vs : List Value} {n : Nat}, Rd P ps true ρ w I x vs → (entryL ps n x).length = vs.length := by
  intro ps
  induction ps with
  | pair t r _ ihr =>
    intro ρ w I x vs n h
    obtain ⟨c1, vs', rfl, h1, h2⟩ := h
    simp only [entryL, List.length_cons, ihr h2]
  | unit => intro ρ w I x vs n h; have h : vs = [] := h; subst h; rfl
  | _ => intro ρ w I x vs n h; exact h.elim

variable {cx : Cx} {ρ : Nat → Value} {F : Nat → Prop} {s : St} {a : Act} {w : World}

def resVar (tmps : Array Value) : ResultVar → Sem Value
  | .tmp t => pure (tmps.getD t undef)
  | .cell ad t => do loadVar t (← asAddr (tmps.getD ad undef))

theorem retAV_sound (hT : TOk cx.P c) (hM : M cx ρ F s a w) {v : ResultVar} {av : AV} (h : retAV c s v = some av) : ∃ u, (resVar a.tmps v).run cx.P w = .ok u w ∧ RV cx.P ρ w (cx.I ρ s) av u := by
  cases v with
  | tmp t =>
    obtain rfl := Option.some.inj h
    exact ⟨_, rfl, hM.slots t⟩
  | cell ad t =>
    simp only [retAV] at h
    split at h
    · rename_i p hp
      split at h
      · rename_i k ty hk hty
        split at h
        · rename_i y hg
          obtain rfl := Option.some.inj h
          have h1 := hM.slots ad
          rw [hp] at h1
          have h1 := RV_ptr h1
          obtain ⟨r, tid, cur, pre, cc, post, _, h2, h3, h4, h5, _⟩ := place_sound (hM.blks p.b k hk) hg trivial
          have hl := run_loadAt (P := cx.P) (hT _ _ (find_mem hty)) (CellsAt_of_row h3 h4) h5.length
          refine ⟨mkV ty cc, ?_, cc, rfl, h5⟩
          simp only [resVar, h1, h2, asAddr, Sem.run_bind, Sem.run_pure, Result.andThen_ok]
          simpa [Instr.loadAt, Instr.sureAddr] using hl
        · cases h
      · cases h
    · cases h

def ownedBy (ρ : Nat → Value) (s : St) (r : Nat) : Prop := ∃ b k, s.hp b = some k ∧ real (ρ b) = some r

theorem RetV.sound (hgv : ∀ r, ¬ cx.gv r) (hM : M cx ρ F s a w) {r : RT} {y : r.den} {av : AV} {u : Value} (hd : r.deep = true) (hE : c.pin = cx.np) (h : RetV c.pin s r y av) (hv : RV cx.P ρ w (cx.I ρ s) av u) :
    r.ok cx.P cx.w0 w cx.ok (ownedBy ρ s) y u := by
  have hI : ∀ b, b < w.heap.size → cx.I ρ s b → (cx.ok b ∨ cx.w0.heap.size ≤ b) ∧ ¬ ownedBy ρ s b := fun b _ hi => ⟨hi.1.imp id (fun h => h.resolve_right (hgv b)), fun ⟨c, k, hk, hr⟩ => hi.2 c k hk hr⟩
  cases r with
  | dp t =>
    have h : av = .val t y := h
    subst h
    obtain ⟨cc, rfl, hcc⟩ := hv
    exact ⟨cc, rfl, (hcc.rho fun b hb => by have e0 := Ty.deep_refs (t := t) (x := y) hd; have hb : b ∈ ([] : List Nat) := e0 ▸ hb; cases hb).mono (Pres.refl _ _) hI⟩
  | ow e tid =>
    unfold RetV at h
    simp only at h
    split at h
    · rename_i b
      split at h
      · rename_i hnp
        have hnp : cx.np ≤ b := hE ▸ Nat.le_of_ble_eq_true hnp
        have hu := RV_own hv
        subst hu
        obtain ⟨xs, hro, hrd⟩ := hM.blks b _ h
        refine ⟨⟨xs, ?_, hrd.mono (Pres.refl _ _) hI⟩, fun q hq => ⟨b, _, h, hq⟩, hM.rho b⟩
        obtain ⟨h1, h2⟩ := hro
        refine ⟨h1, ?_⟩
        rcases h2 with h2 | ⟨g, cap, cur, h3, hcp, _, h4⟩
        · exact .inl h2
        · exact .inr ⟨g, cap, cur, h3, hcp, ((hM.fresh b _ g h (by rw [h3]; exact real_slice hcp)).1.resolve_right (fun h => Nat.not_lt.2 hnp h.2)).resolve_right (hgv g), h4⟩
      · exact h.elim
    · exact h.elim
  | dn e =>
    have data : ∀ l : List e.den, RV cx.P ρ w (cx.I ρ s) (.val (.slice e) l) u → RdV cx.P (.slice e) ρ0 w (fun b => (cx.ok b ∨ cx.w0.heap.size ≤ b) ∧ ¬ ownedBy ρ s b) l u := by
      intro l ⟨cc, hc, hcc⟩
      exact ⟨cc, hc, (hcc.rho fun b hb => by have e0 := Ty.deep_refs (t := .slice e) (x := l) hd; have hb : b ∈ ([] : List Nat) := e0 ▸ hb; cases hb).mono (Pres.refl _ _) hI⟩
    unfold RetV at h
    simp only at h
    split at h
    · have hu : u = .slice none 0 0 := hv
      match y, h with
      | [], _ => exact ⟨⟨[.slice none 0 0], hu, none, 0, rfl, Nat.le_refl _, .inl rfl⟩, fun _ => hu⟩
    · obtain ⟨h1, h2⟩ := h
      subst h1
      match y, h2, hv with
      | a :: l, _, hv => exact ⟨data _ hv, fun h => nomatch h⟩

theorem RetVs.sound (hgv : ∀ r, ¬ cx.gv r) (hT : TOk cx.P c) (hE : c.pin = cx.np) (hM : M cx ρ F s a w) : ∀ {rs : Rs} {y : rs.den} {vs : List ResultVar}, rs.deep = true → RetVs c s rs y vs →
    ∃ us : List Value, (vs.mapM (resVar a.tmps)).run cx.P w = .ok us w ∧ rs.vals cx.P cx.w0 w cx.ok (ownedBy ρ s) y us ∧ us.length = vs.length := by
  intro rs
  induction rs with
  | none => intro y vs _ h; have h : vs = [] := by cases vs <;> first | rfl | exact h
            subst h; exact ⟨[], rfl, rfl, rfl⟩
  | one r =>
    intro y vs hd h
    match vs, h with
    | [v], h =>
      have h : (match retAV c s v with | some av => RetV c.pin s r y av | none => False) := h
      split at h
      · rename_i av hav
        obtain ⟨u, hu, hv⟩ := retAV_sound hT hM hav
        refine ⟨[u], by simp [hu], ⟨u, rfl, RetV.sound hgv hM hd hE h hv⟩, rfl⟩
      · exact h.elim
    | [], h => exact False.elim h
    | _ :: _ :: _, h => exact False.elim h
  | more r rs ih =>
    intro y vs hd h
    simp only [Rs.deep, Bool.and_eq_true] at hd
    match vs, h with
    | v :: vs, h =>
      have h : (match retAV c s v with | some av => RetV c.pin s r y.1 av ∧ RetVs c s rs y.2 vs | none => False) := h
      split at h
      · rename_i av hav
        obtain ⟨u, hu, hv⟩ := retAV_sound hT hM hav
        obtain ⟨us, hus, hvals, hl⟩ := ih hd.2 h.2
        refine ⟨u :: us, by simp [hu, hus], ⟨u, us, rfl, RetV.sound hgv hM hd.1 hE h.1 hv, hvals⟩, by simp [hl]⟩
      · exact h.elim
    | [], h => exact False.elim h

theorem results_run {fn : Func} {us : List Value} (h : (fn.results.toList.mapM (resVar a.tmps)).run cx.P w = .ok us w) : (results fn a.tmps).run cx.P w = .ok (if h : us.toArray.size = 1 then us.toArray[0] else .tuple us.toArray) w := by
  have e1 : results fn a.tmps = (fn.results.mapM (resVar a.tmps) >>= fun vs => pure (if h : vs.size = 1 then vs[0] else .tuple vs)) := by
    unfold results
    congr 1
  rw [e1, Array.mapM_eq_mapM_toList]
  simp [h]

theorem Rs.ok_of_vals {w0 w : World} {ok X : Nat → Prop} {rs : Rs} {y : rs.den} {us : List Value} (h : rs.vals P w0 w ok X y us) (hm : ∀ r rs', rs = .more r rs' → us.length ≠ 1) :
    rs.ok P w0 w ok X y (if h : us.toArray.size = 1 then us.toArray[0] else .tuple us.toArray) := by
  cases rs with
  | none => have h : us = [] := h; subst h; exact ⟨[], rfl, rfl⟩
  | one r => obtain ⟨v, rfl, hv⟩ := h; exact hv
  | more r rs =>
    have := hm r rs rfl
    rw [dif_neg (by simpa using this)]
    exact ⟨us, rfl, h⟩

/-- A list of at least two results has at least two. -/
def Rs.proper : Rs → Bool
  | .more _ .none => false
  | .more _ rs => rs.proper
  | _ => true

theorem Rs.vals_len {w0 w : World} {ok X : Nat → Prop} : ∀ {rs : Rs} {y : rs.den} {us : List Value}, rs.vals P w0 w ok X y us → rs.proper = true → (∀ r rs', rs = .more r rs' → us.length ≠ 1) := by
  intro rs y us h hp r rs' e
  subst e
  obtain ⟨v, vs', rfl, _, h2⟩ := h
  cases rs' with
  | none => simp [Rs.proper] at hp
  | one r' => obtain ⟨v', rfl, _⟩ := h2; simp
  | more r' rs'' => obtain ⟨v', vs'', rfl, _⟩ := h2; simp

theorem invOk_of_calls {f : FuncId} {fn : Func} {args : Array Value} {R : Value → World → Prop} (hf : P.funcs[f]? = some fn) {code : Code} (hb : fn.body = some code) (hname : (fn.name == "runtime.NumGoroutine") = false)
    (h : Calls P f args w fun e w' => ∃ v, e = .returned v ∧ R v w') : InvOk P f args w R := by
  intro o a next Q hn
  have hr : (callFunc f args).run P w = .ok (.enter f args) w := by

    have h1 : fn.name ≠ "runtime.NumGoroutine" := by simpa using hname
    simp [callFunc, hf, h1, hb]
  rw [hr]
  refine Calls.mono h fun e w' he => ?_
  obtain ⟨v, rfl, hv⟩ := he
  exact hn v w' hv

/-- A function's contract, out of a way for each input. -/
theorem fn_ok (hc : CtxOk P c) (hmix : P.follows .mixedOrders = true) {f : FuncId} {fn : Func} {code : Code} {sp : Spec} (hf : P.funcs[f]? = some fn) (hb : fn.body = some code) (hname : (fn.name == "runtime.NumGoroutine") = false)
    (hn : c.n = fn.ntmps) (hpin : c.pin = 0) (hwr : sp.wr = false) (hdl : sp.ps.deepL = true) (hd : sp.rs.deep = true) (hp : sp.rs.proper = true) (hlen : ∀ x : sp.ps.den, (entryL sp.ps 0 x).length ≤ fn.ntmps)
    (h : ∀ (x : sp.ps.den) (y : sp.rs.den), sp.f x = some y → ∃ as cmds, exec P c code 0 (entry sp.ps x).st as (Ret c fn cmds sp.rs y)) : FnOk P f sp := by
  unfold FnOk
  rw [hwr]
  intro w ok x y args hok hargs hy
  refine invOk_of_calls hf hb hname ?_
  obtain ⟨as, cmds, hex⟩ := h x y hy
  refine calls_of_wp hf hb ?_
  let cx : Cx := ⟨P, w, ok, fn.ntmps, 0, fun _ => undef, fun _ => False⟩
  have hsz : args.toArray.size ≤ fn.ntmps := by
    have h1 := hlen x
    rw [args_len hargs] at h1
    simpa using h1
  have hI : ∀ r, r < w.heap.size → ok r → cx.I ρ0 (entry sp.ps x).st r := fun r _ hr => ⟨.inl hr, fun b k hk => by cases hk⟩
  have hM : M cx ρ0 (fun b => b < 0) (entry sp.ps x).st { tmps := args.toArray ++ Array.replicate (fn.ntmps - args.toArray.size) undef, defers := [] } w := by
    refine ⟨rfl, Tp.refl _, rfl, Nat.le_refl _, fun _ _ _ => rfl, ?_, (fun b k hk => nomatch hk), (fun b b' k k' r hk => nomatch hk), (fun b k r hk => nomatch hk), ?_, (fun b k hk => nomatch hk), ρ0_one, rfl, ?_, fun j hj => absurd hj (Nat.not_lt_zero j)⟩
    · intro d
      show RV P ρ0 w _ (lookS (entryL sp.ps 0 x) d) _
      unfold lookS
      cases hfd : find (entryL sp.ps 0 x) d with
      | none => trivial
      | some av =>
        obtain ⟨_, v, h2, h3⟩ := entry_sound hargs hfd
        have h2 : args[d]? = some v := by simpa using h2
        have hlt : d < args.length := (List.getElem?_eq_some_iff.1 h2).1
        have : (args.toArray ++ Array.replicate (fn.ntmps - args.toArray.size) undef).getD d undef = v := by
          rw [Array.getD_eq_getD_getElem?, Array.getElem?_append_left (by simpa using hlt)]
          simp [h2]
        rw [this]
        exact h3.mono (fun _ _ => rfl) (Pres.refl _ _) hI
    · intro d b hb
      change b ∈ (lookS (entryL sp.ps 0 x) d).refs at hb
      unfold lookS at hb
      split at hb
      · rename_i v hfd
        rw [entry_refs hdl hfd] at hb; cases hb
      · cases hb
    · show (args.toArray ++ Array.replicate (fn.ntmps - args.toArray.size) undef).size = fn.ntmps
      rw [Array.size_append, Array.size_replicate]
      omega
  refine exec_sound hc hmix (cx := cx) rfl hn.symm hpin.symm code (fun ex nx s as h => cmds_mono (n := c.n) (np := c.pin) (qs := cmds) (nx := nx) h.1) hex hM fun ex nx s as ρ' a' w' hret hM' => ?_
  unfold Ret at hret
  rw [hn, hpin] at hret
  obtain ⟨h1, h2, h3⟩ := hret
  obtain ⟨ρ2, hM2⟩ := cmds_sound (cx := cx) hM' h1
  obtain ⟨us, hus, hvals, hul⟩ := RetVs.sound (fun _ h => h) hc.T hpin hM2 hd h3
  have hres := results_run (cx := cx) (fn := fn) hus
  have hpost : a'.defers = [] ∧ ∃ v, (results fn a'.tmps).run P w' = .ok v w' ∧ ∃ v', Ending.returned v = .returned v' ∧ (ResOk P w w' ok sp.rs y v' ∧ Below w.heap.size w w') := by
    refine ⟨hM2.defers, _, hres, _, rfl, ⟨ownedBy ρ2 (runCmds fn.ntmps 0 cmds nx s).2, fun b hb => ?_, Rs.ok_of_vals hvals (Rs.vals_len hvals hp)⟩, ?_⟩
    · obtain ⟨q, k, hk, hr⟩ := hb
      exact ((hM2.fresh q k b hk hr).1.resolve_right (fun h => absurd h.2 (Nat.not_lt_zero _))).resolve_right (fun h => h)
    · exact ⟨hM2.os, hM2.tape, hM2.output, hM2.size, fun k hk => hM2.keeps k hk (fun h => h.elim (fun ⟨j, hj, _⟩ => absurd hj (Nat.not_lt_zero j)) (fun h => h))⟩
  cases ex with
  | normal => exact hpost
  | ret => exact hpost
  | exit id => exact h2.elim

/-! A function that writes through its first parameter -/
def entryW (t ps : Ty) (x : t.den × ps.den) : SL := ⟨(0, .val .ptr ⟨0, 0, 0, 0, 0⟩) :: entryL ps 1 x.2, [(0, .cells t x.1)]⟩

/-- The end of such a function. -/
def RetW (c : Ctx) (fn : Func) (cmds : List Cmd) (t : Ty) (rs : Rs) (y : t.den × rs.den) (ex : Ex) (nx : Nat) (s : St) (_ : List Ans) : Prop :=
  match runCmds c.n c.pin cmds nx s with
  | (_, s') => s'.ok ∧ ((match ex with | .exit _ => False | _ => True) ∧ (s'.hp 0 = some (.cells t y.1) ∧ RetVs c s' rs y.2 fn.results.toList))

theorem fnW_ok (hc : CtxOk P c) (hmix : P.follows .mixedOrders = true) {f : FuncId} {fn : Func} {code : Code} {t ps t' : Ty} {rs : Rs} {g : t.den × ps.den → Option (t'.den × rs.den)} (hf : P.funcs[f]? = some fn) (hb : fn.body = some code) (hname : (fn.name == "runtime.NumGoroutine") = false)
    (hn : c.n = fn.ntmps) (hpin : c.pin = 1) (hdt : t.deep = true) (hdl : ps.deepL = true) (hdt' : t'.deep = true) (hd : rs.deep = true) (hp : rs.proper = true) (hlen : ∀ x : ps.den, (entryL ps 1 x).length + 1 ≤ fn.ntmps)
    (h : ∀ (x : t.den × ps.den) (y : t'.den × rs.den), g x = some y → ∃ as cmds, exec P c code 1 (entryW t ps x).st as (RetW c fn cmds t' rs y)) : FnOk P f ⟨.pair (.ref t) ps, .more (.dp t') rs, g, true⟩ := by
  show FnOkW P f (.pair (.ref t) ps) (.more (.dp t') rs) g
  intro w ok r tid cur x z x' y args hok hcur hrd hargs hy
  refine invOk_of_calls hf hb hname ?_
  obtain ⟨as, cmds, hex⟩ := h (x, z) (x', y) hy
  refine calls_of_wp hf hb ?_
  let cx : Cx := ⟨P, w, ok, fn.ntmps, 1, fun _ => .pointer (some ⟨r, 0, none⟩), fun _ => False⟩
  let ρ1 : Nat → Value := upd ρ0 0 (.pointer (some ⟨r, 0, none⟩))
  have hr : r < w.heap.size := (Array.getElem?_eq_some_iff.1 hcur).1
  have hsz : (Value.pointer (some ⟨r, 0, none⟩) :: args).toArray.size ≤ fn.ntmps := by
    have h1 := hlen z
    rw [args_len hargs] at h1
    simpa using h1
  have hp0 : ∀ b k, (entryW t ps (x, z)).st.hp b = some k → b = 0 ∧ k = .cells t x := by
    intro b k hk
    change find [(0, Blk.cells t x)] b = some k at hk
    unfold find at hk
    split at hk
    · rename_i hb0
      exact ⟨(Nat.eq_of_beq_eq_true hb0).symm, (Option.some.inj hk).symm⟩
    · cases hk
  have hρ1 : ρ1 0 = .pointer (some ⟨r, 0, none⟩) := upd_same _ _ _
  have hI : ∀ q, q < w.heap.size → ok q → cx.I ρ1 (entryW t ps (x, z)).st q := fun q _ hq => ⟨.inl hq, fun b k hk hrr => by
    obtain ⟨rfl, _⟩ := hp0 b k hk
    rw [hρ1] at hrr
    exact (hok q hq).2 (Option.some.inj hrr).symm⟩
  have hM : M cx ρ1 (fun b => b < 1) (entryW t ps (x, z)).st { tmps := (Value.pointer (some ⟨r, 0, none⟩) :: args).toArray ++ Array.replicate (fn.ntmps - (Value.pointer (some ⟨r, 0, none⟩) :: args).toArray.size) undef, defers := [] } w := by
    refine ⟨rfl, Tp.refl _, rfl, Nat.le_refl _, fun _ _ _ => rfl, ?_, ?_, ?_, ?_, ?_, ?_, ?_, rfl, ?_, ?_⟩
    · intro d
      have hget : ∀ v, (Value.pointer (some ⟨r, 0, none⟩) :: args)[d]? = some v → ((Value.pointer (some ⟨r, 0, none⟩) :: args).toArray ++ Array.replicate (fn.ntmps - (Value.pointer (some ⟨r, 0, none⟩) :: args).toArray.size) undef).getD d undef = v := by
        intro v hv
        have hlt : d < (Value.pointer (some ⟨r, 0, none⟩) :: args).length := (List.getElem?_eq_some_iff.1 hv).1
        rw [Array.getD_eq_getD_getElem?, Array.getElem?_append_left (by simpa using hlt)]
        simp only [List.getElem?_toArray, hv, Option.getD_some]
      show RV P ρ1 w _ (lookS ((0, .val .ptr ⟨0, 0, 0, 0, 0⟩) :: entryL ps 1 z) d) _
      unfold lookS
      cases hfd : find ((0, AV.val .ptr ⟨0, 0, 0, 0, 0⟩) :: entryL ps 1 z) d with
      | none => trivial
      | some av =>
        unfold find at hfd
        split at hfd
        · rename_i hd0
          have hd0 := Nat.eq_of_beq_eq_true hd0
          subst hd0
          obtain rfl := Option.some.inj hfd
          simp only
          rw [hget (.pointer (some ⟨r, 0, none⟩)) rfl]
          have hval : ∀ q : Ptr, q.b = 0 → q.val ρ1 = .pointer (some ((⟨r, 0, none⟩ : Addr).add q.co)) := by
            intro q hq
            unfold Ptr.val
            rw [hq, hρ1]
          refine ⟨[.pointer (some ⟨r, 0, none⟩)], rfl, ?_, ⟨r, 0, none⟩, rfl, fun q hq => hval q hq⟩
          rw [hval _ rfl]
          rfl
        · obtain ⟨h1, v, h2, h3⟩ := entry_sound hargs hfd
          obtain ⟨d', rfl⟩ : ∃ d', d = d' + 1 := ⟨d - 1, by omega⟩
          rw [hget v (by simpa using h2)]
          exact h3.mono (fun b hb => by rw [entry_refs hdl hfd] at hb; cases hb) (Pres.refl _ _) hI
    · intro b k hk
      obtain ⟨rfl, rfl⟩ := hp0 b k hk
      exact ⟨r, tid, cur, hρ1, hcur, (hrd.rho (fun b hb => by rw [Ty.deep_refs hdt] at hb; cases hb)).mono (Pres.refl _ _) hI⟩
    · intro b b' k k' q h1 h2 _ _
      rw [(hp0 b k h1).1, (hp0 b' k' h2).1]
    · intro b k q h1 h2
      obtain ⟨rfl, rfl⟩ := hp0 b k h1
      rw [hρ1] at h2
      obtain rfl : r = q := Option.some.inj h2
      exact ⟨.inr ⟨.inl ⟨0, Nat.zero_lt_one, rfl⟩, Nat.zero_lt_one⟩, hr⟩
    · intro d b hb
      change b ∈ (lookS ((0, .val .ptr ⟨0, 0, 0, 0, 0⟩) :: entryL ps 1 z) d).refs at hb
      unfold lookS at hb
      split at hb
      · rename_i v hfd
        unfold find at hfd
        split at hfd
        · obtain rfl := Option.some.inj hfd
          rw [List.mem_singleton.1 hb]
          exact Nat.zero_lt_one
        · rw [entry_refs hdl hfd] at hb; cases hb
      · cases hb
    · intro b k hk
      obtain ⟨rfl, rfl⟩ := hp0 b k hk
      exact ⟨Nat.zero_lt_one, fun c hc => by
        have hc : c ∈ t.refs x := hc
        rw [Ty.deep_refs hdt] at hc; cases hc⟩
    · intro b
      by_cases e : b = 0
      · subst e; rw [hρ1]; rfl
      · show (upd ρ0 0 _ b).oneCell' = true
        rw [upd_ne _ _ e]; rfl
    · show ((Value.pointer (some ⟨r, 0, none⟩) :: args).toArray ++ Array.replicate (fn.ntmps - (Value.pointer (some ⟨r, 0, none⟩) :: args).toArray.size) undef).size = fn.ntmps
      rw [Array.size_append, Array.size_replicate]
      omega
    · intro j hj
      obtain rfl : j = 0 := Nat.lt_one_iff.1 hj
      exact ⟨hρ1, Nat.zero_lt_one⟩
  refine exec_sound hc hmix (cx := cx) rfl hn.symm hpin.symm code (fun ex nx s as h => cmds_mono (n := c.n) (np := c.pin) (qs := cmds) (nx := nx) h.1) hex hM fun ex nx s as ρ' a' w' hret hM' => ?_
  unfold RetW at hret
  rw [hn, hpin] at hret
  obtain ⟨h1, h2, h0, h3⟩ := hret
  obtain ⟨ρ2, hM2⟩ := cmds_sound (cx := cx) hM' h1
  obtain ⟨us, hus, hvals, hul⟩ := RetVs.sound (fun _ h => h) hc.T hpin hM2 hd h3
  have hres := results_run (cx := cx) (fn := fn) hus
  have hpost : a'.defers = [] ∧ ∃ v, (results fn a'.tmps).run P w' = .ok v w' ∧ ∃ v', Ending.returned v = .returned v' ∧ (ResW P r w w' ok t' x' rs y v' ∧ BelowX r w w') := by
    obtain ⟨r', tid', cur', hv', hcur', hrd'⟩ := hM2.blks 0 _ h0
    have hpin2 := (hM2.pin 0 Nat.zero_lt_one).1
    have hpin2 : ρ2 0 = .pointer (some ⟨r, 0, none⟩) := hpin2
    rw [hpin2] at hv'
    obtain rfl : r = r' := by injection hv' with hv'; injection hv' with hv'; injection hv'
    refine ⟨hM2.defers, _, hres, _, rfl, ⟨ownedBy ρ2 (runCmds fn.ntmps 1 cmds nx s).2, ⟨cur', tid', hcur', (hrd'.rho (fun b hb => by rw [Ty.deep_refs hdt'] at hb; cases hb)).mono (Pres.refl _ _) (fun q _ hi => ⟨hi.1.imp id (fun h => h.resolve_right (fun h => h)), fun ⟨c, k, hk, hr⟩ => hi.2 c k hk hr⟩)⟩, Rs.ok_of_vals hvals (Rs.vals_len hvals hp)⟩, ?_⟩
    exact ⟨hM2.os, hM2.tape, hM2.output, hM2.size, fun q hq hne => hM2.keeps q hq (fun h => h.elim (fun ⟨_, _, e⟩ => hne (Option.some.inj e).symm) (fun h => h))⟩
  cases ex with
  | normal => exact hpost
  | ret => exact hpost
  | exit id => exact h2.elim

/-! Rows that the caller does not get as its own -/
def RT.frz : RT → RT
  | .dp t => .dp t
  | .ow e _ => .dp (.slice e)
  | .dn e => .dp (.slice e)
def Rs.frz : Rs → Rs
  | .none => .none
  | .one r => .one r.frz
  | .more r rs => .more r.frz rs.frz
theorem RT.frz_den (r : RT) : r.frz.den = r.den := by cases r <;> rfl
theorem Rs.frz_den : (rs : Rs) → rs.frz.den = rs.den
  | .none => rfl
  | .one r => r.frz_den
  | .more r rs => by show (r.frz.den × rs.frz.den) = (r.den × rs.den); rw [r.frz_den, rs.frz_den]
def Spec.frz (sp : Spec) : Spec := ⟨sp.ps, sp.rs.frz, fun x => cast (congrArg Option (sp.rs.frz_den).symm) (sp.f x), false⟩

theorem row_data {w w' : World} {J : Nat → Prop} {e : Ty} {l : List e.den} {tid : TypeId} {v : Value} {xs : List Value} (hro : World.rowOf w' w.heap.size tid e.size v l.length xs) (hrd : Rd P (.arr l.length e) false ρ0 w' J l xs)
    (hJ : ∀ g, w.heap.size ≤ g → J g) : RdV P (.slice e) ρ0 w' J l v := by
  rcases hro.2 with ⟨A0, h1, h2⟩ | ⟨g, cap, cur, h1, hcp, hg, h3, h4, h5, h6, h7⟩
  · have hl0 : l = [] := List.eq_nil_of_length_eq_zero h2
    subst hl0
    rw [h1]
    exact ⟨[.slice A0 0 0], rfl, A0, 0, rfl, Nat.le_refl _, .inl rfl⟩
  · rw [h1]
    refine ⟨[.slice (some ⟨g, 0, none⟩) l.length cap], rfl, some ⟨g, 0, none⟩, cap, rfl, h4, ?_⟩
    refine .inr ⟨⟨g, 0, none⟩, rfl, rfl, hJ g hg, (Array.getElem?_eq_some_iff.1 h3).1, fun i x hx => ?_⟩
    have hi : i < l.length := (List.getElem?_eq_some_iff.1 hx).1
    obtain ⟨pre, ci, post, g1, g2, g3, _⟩ := elemAt hrd hi e.zero
    have hyy : l.getD i e.zero = x := by simp only [List.getD]; rw [show l[i]? = some x from hx]; rfl
    rw [hyy] at g3
    refine ⟨ci, ?_, g3⟩
    have hcur : cur.toList = pre ++ ci ++ (post ++ cur.toList.drop (l.length * e.size)) := by
      have := List.take_append_drop (l.length * e.size) cur.toList
      rw [h7, g1] at this
      rw [← List.append_assoc]; exact this.symm
    have := CellsAt_of_row h3 hcur
    rw [g2] at this
    rw [add_none, Nat.zero_add]
    exact this

theorem RT.frz_ok {w w' : World} {ok X : Nat → Prop} {r : RT} {y : r.den} {y' : r.frz.den} (e : y ≍ y') {v : Value} (h : r.ok P w w' ok X y v) : r.frz.ok P w w' ok (fun _ => False) y' v := by
  cases r with
  | dp t =>
    obtain rfl := eq_of_heq e
    obtain ⟨c, hc, hr⟩ := h
    exact ⟨c, hc, hr.mono (Pres.refl _ _) fun q _ hq => ⟨hq.1, id⟩⟩
  | ow e' tid =>
    obtain rfl := eq_of_heq e
    obtain ⟨⟨xs, hro, hrd⟩, _, _⟩ := h
    exact row_data (e := e') (l := y) hro (hrd.mono (Pres.refl _ _) fun q _ hq => ⟨hq.1, id⟩) (fun g hg => ⟨.inr hg, id⟩)
  | dn e' =>
    obtain rfl := eq_of_heq e
    obtain ⟨⟨c, hc, hr⟩, _⟩ := h
    exact ⟨c, hc, hr.mono (Pres.refl _ _) fun q _ hq => ⟨hq.1, id⟩⟩

theorem heq_pair {A A' B B' : Type} (e1 : A' = A) (e2 : B' = B) {y : A × B} {y' : A' × B'} (h : y ≍ y') : y.1 ≍ y'.1 ∧ y.2 ≍ y'.2 := by
  subst e1 e2
  obtain rfl := eq_of_heq h
  exact ⟨HEq.rfl, HEq.rfl⟩

theorem Rs.frz_vals {w w' : World} {ok X : Nat → Prop} : ∀ {rs : Rs} {y : rs.den} {y' : rs.frz.den}, y ≍ y' → ∀ {vs : List Value}, rs.vals P w w' ok X y vs → rs.frz.vals P w w' ok (fun _ => False) y' vs := by
  intro rs
  induction rs with
  | none => intro y y' e vs h; exact h
  | one r => intro y y' e vs h; obtain ⟨v, h1, h2⟩ := h; exact ⟨v, h1, RT.frz_ok e h2⟩
  | more r rs ih =>
    intro y y' e vs h
    obtain ⟨v, vs', h1, h2, h3⟩ := h
    have hp := heq_pair r.frz_den rs.frz_den e
    exact ⟨v, vs', h1, RT.frz_ok hp.1 h2, ih hp.2 h3⟩

theorem Rs.frz_ok {w w' : World} {ok X : Nat → Prop} : ∀ {rs : Rs} {y : rs.den} {y' : rs.frz.den}, y ≍ y' → ∀ {v : Value}, rs.ok P w w' ok X y v → rs.frz.ok P w w' ok (fun _ => False) y' v := by
  intro rs
  cases rs with
  | none => intro y y' _ v hok'; exact hok'
  | one r => intro y y' he v hok'; exact RT.frz_ok he hok'
  | more r rs => intro y y' he v hok'; obtain ⟨vs, h1, h2⟩ := hok'; exact ⟨vs, h1, Rs.frz_vals he h2⟩

theorem FnOk.frz {f : FuncId} {sp : Spec} (hwr : sp.wr = false) (h : FnOk P f sp) : FnOk P f sp.frz := by
  unfold FnOk at h
  rw [hwr] at h
  show FnOkD P f sp.ps sp.rs.frz _
  intro w ok x y' args hok hargs hy
  have key : ∃ y : sp.rs.den, y ≍ y' ∧ sp.f x = some y := by
    have h1 : cast (congrArg Option (sp.rs.frz_den).symm) (sp.f x) = some y' := hy
    have : ∀ (A B : Type) (e : A = B) (o : Option A) (y' : B), cast (congrArg Option e) o = some y' → ∃ y : A, y ≍ y' ∧ o = some y := by
      intro A B e o y' h
      subst e
      exact ⟨y', HEq.rfl, h⟩
    exact this _ _ (sp.rs.frz_den).symm _ _ h1
  obtain ⟨y, he, hf⟩ := key
  exact (h w ok x y args hok hargs hf).mono fun v w' ⟨⟨X, _, hok'⟩, hb⟩ => ⟨⟨fun _ => False, fun _ h => h.elim, Rs.frz_ok he hok'⟩, hb⟩
end
end Go.Sx
