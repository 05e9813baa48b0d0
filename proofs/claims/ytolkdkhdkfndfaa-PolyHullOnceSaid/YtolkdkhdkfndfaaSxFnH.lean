/-
  The contract of a function that is lent blocks, out of its ways.
-/
import Derived.Test.YtolkdkhdkfndfaaSxFn
namespace Go.Sx

def entryHL : List HArg → Nat → List (Nat × AV)
  | [], _ => []
  | .lent av :: l, i => (i, av) :: entryHL l (i + 1)
  | .dat t x :: l, i => (i, pAV t x) :: entryHL l (i + 1)
def entryH (h : HSp) (x : h.xs.den) : SL := ⟨entryHL (h.args x) 0, h.pre x⟩

/-- The end of such a function. -/
def RetH (c : Ctx) (fn : Func) (cmds : List Cmd) (h : HSp) (x : h.xs.den) (y : h.ys.den) (ex : Ex) (nx : Nat) (s : St) (_ : List Ans) : Prop :=
  match runCmds c.n c.pin cmds nx s with
  | (_, s') => s'.ok ∧ ((match ex with | .exit _ => False | _ => True) ∧ ((h.fin x y).map (fun b => some b.2) = (h.fin x y).map (fun b => s'.hp b.1) ∧ RetVs c s' h.rs (h.res y) fn.results.toList))

section
variable {P : Program} {c : Ctx}

theorem entryH_sound {ρ : Nat → Value} {w : World} {I : Nat → Prop} {np : Nat} : ∀ {l : List HArg} {i : Nat} {vs : List Value}, ArgsFit P ρ w I l vs → l.all (HArg.okB np) = true → ∀ {d : Nat} {av : AV}, find (entryHL l i) d = some av →
    i ≤ d ∧ (∃ v, vs[d - i]? = some v ∧ RV P ρ w I av v) ∧ ∀ b ∈ av.refs, b < np := by
  intro l
  induction l with
  | nil => intro i vs _ _ d av h; cases h
  | cons x l ih =>
    intro i vs h hb d av hf
    simp only [List.all_cons, Bool.and_eq_true] at hb
    have step : ∀ (vs' : List Value) (v : Value), ArgsFit P ρ w I l vs' → find (entryHL l (i + 1)) d = some av → i ≤ d ∧ (∃ u, (v :: vs')[d - i]? = some u ∧ RV P ρ w I av u) ∧ ∀ b ∈ av.refs, b < np := by
      intro vs' v h2 hf
      obtain ⟨h3, ⟨u, h4, h5⟩, h6⟩ := ih h2 hb.2 hf
      refine ⟨by omega, ⟨u, ?_, h5⟩, h6⟩
      have : d - i = (d - (i + 1)) + 1 := by omega
      rw [this]
      simpa using h4
    cases x with
    | lent av0 =>
      obtain ⟨v, vs', rfl, h1, h2⟩ := h
      simp only [entryHL] at hf
      unfold find at hf
      split at hf
      · rename_i hd
        obtain rfl := Nat.eq_of_beq_eq_true hd
        obtain rfl := Option.some.inj hf
        exact ⟨Nat.le_refl _, ⟨v, by simp, h1⟩, fun b hbm => blt_true (List.all_eq_true.1 hb.1 b hbm)⟩
      · exact step vs' v h2 hf
    | dat t y =>
      obtain ⟨v, vs', rfl, ⟨cc, rfl, h1⟩, h2⟩ := h
      simp only [entryHL] at hf
      unfold find at hf
      split at hf
      · rename_i hd
        obtain rfl := Nat.eq_of_beq_eq_true hd
        obtain rfl := Option.some.inj hf
        have hr : (pAV t y).refs = [] := pAV_refs hb.1
        exact ⟨Nat.le_refl _, ⟨mkV t cc, by simp, (pAV_sound h1).mono (fun b hbm => by rw [hr] at hbm; cases hbm) (Pres.refl _ _) (fun _ _ h => h)⟩, fun b hbm => by rw [hr] at hbm; cases hbm⟩
      · exact step vs' (mkV t cc) h2 hf

theorem argsFit_len {ρ : Nat → Value} {w : World} {I : Nat → Prop} : ∀ {l : List HArg} {vs : List Value}, ArgsFit P ρ w I l vs → vs.length = l.length := by
  intro l
  induction l with
  | nil => intro vs h; have h : vs = [] := h; rw [h]; rfl
  | cons x l ih =>
    intro vs h
    cases x with
    | lent av => obtain ⟨v, vs', rfl, _, h2⟩ := h; simp [ih h2]
    | dat t y => obtain ⟨v, vs', rfl, _, h2⟩ := h; simp [ih h2]

theorem RB_lt {ρ : Nat → Value} {w : World} {I : Nat → Prop} {v : Value} {k : Blk} (h : RB P ρ w I v k) {r : Nat} (hr : real v = some r) : r < w.heap.size := by
  cases k with
  | cells t x =>
    obtain ⟨r', tid, cur, rfl, h2, _⟩ := h
    obtain rfl : r' = r := Option.some.inj hr
    exact (Array.getElem?_eq_some_iff.1 h2).1
  | row e l tid =>
    obtain ⟨xs, h1, _⟩ := h
    exact (ownsRow_real h1 hr).2

theorem fnH_ok (hc : CtxOk P c) (hmix : P.follows .mixedOrders = true) {f : FuncId} {fn : Func} {code : Code} {h : HSp} (hf : P.funcs[f]? = some fn) (hb : fn.body = some code) (hname : (fn.name == "runtime.NumGoroutine") = false)
    (hn : c.n = fn.ntmps) (hpin : c.pin = h.np) (hp : h.rs.proper = true) (hgv : h.gv = false) (hlen : ∀ x : h.xs.den, (h.args x).length ≤ fn.ntmps)
    (hw : ∀ (x : h.xs.den) (y : h.ys.den), h.g x = some y → ∃ as cmds, exec P c code h.np (entryH h x).st as (RetH c fn cmds h x y)) : HOk P f h := by
  unfold HOk
  rw [hgv]
  intro w ok ρ x y args hok hinj hone hblk hfit hokB hpostB hy
  refine invOk_of_calls hf hb hname ?_
  obtain ⟨as, cmds, hex⟩ := hw x y hy
  refine calls_of_wp hf hb ?_
  let cx : Cx := ⟨P, w, ok, fn.ntmps, h.np, ρ, fun _ => False⟩
  have hok1 := hokB
  have hpo1 := hpostB
  simp only [HSp.okB, Bool.and_eq_true] at hok1
  simp only [HSp.postB, Bool.and_eq_true] at hpo1
  obtain ⟨hk0, hr0, ha0⟩ := hok1
  obtain ⟨hk1, hr1, hdeep, hows⟩ := hpo1
  have hsz : args.toArray.size ≤ fn.ntmps := by
    have h1 := hlen x
    rw [← argsFit_len hfit] at h1
    simpa using h1
  have hI : ∀ r, r < w.heap.size → ok r → cx.I ρ (entryH h x).st r := fun r _ hr => ⟨.inl hr, fun b k hk hrr => (hok r hr).2 b (keysB_lt hk0 hk) hrr⟩
  have hM : M cx ρ (fun b => b < h.np) (entryH h x).st { tmps := args.toArray ++ Array.replicate (fn.ntmps - args.toArray.size) undef, defers := [] } w := by
    refine ⟨rfl, Tp.refl _, rfl, Nat.le_refl _, fun _ _ _ => rfl, ?_, ?_, ?_, ?_, ?_, ?_, hone, rfl, ?_, fun j hj => ⟨rfl, hj⟩⟩
    · intro d
      show RV P ρ w _ (lookS (entryHL (h.args x) 0) d) _
      unfold lookS
      cases hfd : find (entryHL (h.args x) 0) d with
      | none => trivial
      | some av =>
        obtain ⟨_, ⟨v, h2, h3⟩, _⟩ := entryH_sound hfit ha0 hfd
        have h2 : args[d]? = some v := by simpa using h2
        have hlt : d < args.length := (List.getElem?_eq_some_iff.1 h2).1
        have : (args.toArray ++ Array.replicate (fn.ntmps - args.toArray.size) undef).getD d undef = v := by
          rw [Array.getD_eq_getD_getElem?, Array.getElem?_append_left (by simpa using hlt)]
          simp [h2]
        rw [this]
        exact h3.mono (fun _ _ => rfl) (Pres.refl _ _) hI
    · intro b k hk
      exact (hblk b k hk).mono (fun _ _ => rfl) (Pres.refl _ _) hI (fun _ _ => rfl)
    · intro b b' k k' r h1 h2 h3 h4
      exact hinj b b' r (keysB_lt hk0 h1) (keysB_lt hk0 h2) h3 h4
    · intro b k r h1 h2
      have hlt := keysB_lt hk0 h1
      exact ⟨.inr ⟨.inl ⟨b, hlt, h2⟩, hlt⟩, RB_lt (hblk b k h1) h2⟩
    · intro d b hb
      change b ∈ (lookS (entryHL (h.args x) 0) d).refs at hb
      unfold lookS at hb
      split at hb
      · rename_i v hfd
        exact (entryH_sound hfit ha0 hfd).2.2 b hb
      · cases hb
    · intro b k hk
      exact ⟨keysB_lt hk0 hk, fun d hd => blt_true (List.all_eq_true.1 (List.all_eq_true.1 hr0 _ (find_mem hk)) d hd)⟩
    · show (args.toArray ++ Array.replicate (fn.ntmps - args.toArray.size) undef).size = fn.ntmps
      rw [Array.size_append, Array.size_replicate]
      omega
  refine exec_sound hc hmix (cx := cx) rfl hn.symm hpin.symm code (fun ex nx s as h => cmds_mono (n := c.n) (np := c.pin) (qs := cmds) (nx := nx) h.1) hex hM fun ex nx s as ρ' a' w' hret hM' => ?_
  unfold RetH at hret
  rw [hn, hpin] at hret
  obtain ⟨h1, h2, h0, h3⟩ := hret
  obtain ⟨ρ2, hM2⟩ := cmds_sound (cx := cx) hM' h1
  obtain ⟨us, hus, hvals, hul⟩ := RetVs.sound (fun _ h => h) hc.T hpin hM2 hdeep h3
  have hres := results_run (cx := cx) (fn := fn) hus
  have hpv : ∀ j, j < h.np → ρ2 j = ρ j := fun j hj => (hM2.pin j hj).1
  have hpost : a'.defers = [] ∧ ∃ v, (results fn a'.tmps).run P w' = .ok v w' ∧ ∃ v', Ending.returned v = .returned v' ∧ ∃ X : Nat → Prop, (∀ j k, find (h.fin x y) j = some k → RB P ρ w' (fun q => (ok q ∨ w.heap.size ≤ q) ∧ ¬ X q) (ρ j) k) ∧ h.rs.ok P w w' ok X (h.res y) v' ∧
      BelowS (fun q => ∃ j, j < h.np ∧ real (ρ j) = some q) w w' := by
    refine ⟨hM2.defers, _, hres, _, rfl, ownedBy ρ2 (runCmds fn.ntmps h.np cmds nx s).2, fun j k hj => ?_, Rs.ok_of_vals hvals (Rs.vals_len hvals hp), ?_⟩
    · have hk : (runCmds fn.ntmps h.np cmds nx s).2.hp j = some k := (find_of_map (g := fun b : Nat × Blk => some b.2) (h := fun b => (runCmds fn.ntmps h.np cmds nx s).2.hp b) h0 hj).symm
      have hlt := keysB_lt hk1 hj
      rw [← hpv j hlt]
      exact (hM2.blks j k hk).mono (fun b hb => (hpv b (blt_true (List.all_eq_true.1 (List.all_eq_true.1 hr1 _ (find_mem hj)) b hb))).symm) (Pres.refl _ _) (fun q _ hi => ⟨hi.1.imp id (fun h => h.resolve_right (fun h => h)), fun ⟨c, k, hk, hr⟩ => hi.2 c k hk hr⟩) (fun _ _ => rfl)
    · exact ⟨hM2.os, hM2.tape, hM2.output, hM2.size, fun q hq hne => hM2.keeps q hq (fun h => h.elim (fun ⟨j, hj, e⟩ => hne ⟨j, hj, e⟩) (fun h => h))⟩
  cases ex with
  | normal => exact hpost
  | ret => exact hpost
  | exit id => exact h2.elim

/-- The end of a function that is given a row and hands one back. -/
def RetGV (c : Ctx) (s : St) (k : Option Blk) : List ResultVar → Prop
  | [v] => match retAV c s v with
    | some (.val .own b) => s.hp b = k
    | _ => False
  | _ => False
def RetG (c : Ctx) (fn : Func) (cmds : List Cmd) (h : HSp) (x : h.xs.den) (y : h.ys.den) (ex : Ex) (nx : Nat) (s : St) (_ : List Ans) : Prop :=
  match runCmds c.n c.pin cmds nx s with
  | (_, s') => s'.ok ∧ ((match ex with | .exit _ => False | _ => True) ∧ RetGV c s' (find (h.post x y) 0) fn.results.toList)
theorem fnG_ok (hc : CtxOk P c) (hmix : P.follows .mixedOrders = true) {f : FuncId} {fn : Func} {code : Code} {h : HSp} (hf : P.funcs[f]? = some fn) (hb : fn.body = some code) (hname : (fn.name == "runtime.NumGoroutine") = false)
    (hn : c.n = fn.ntmps) (hpin : c.pin = 0) (hnp : h.np = 1) (hgv : h.gv = true) (hlen : ∀ x : h.xs.den, (h.args x).length ≤ fn.ntmps) (hsh : ∀ x : h.xs.den, ∃ (e : Ty) (l : List e.den) (tid : TypeId), h.pre x = [(0, .row e l tid)])
    (hw : ∀ (x : h.xs.den) (y : h.ys.den), h.g x = some y → ∃ as cmds, exec P c code 1 (entryH h x).st as (RetG c fn cmds h x y)) : HOk P f h := by
  unfold HOk
  rw [hgv]
  intro w ok ρ x y args hok hone hblk hfit hokB hy
  refine invOk_of_calls hf hb hname ?_
  obtain ⟨as, cmds, hex⟩ := hw x y hy
  refine calls_of_wp hf hb ?_
  let cx : Cx := ⟨P, w, ok, fn.ntmps, 0, fun _ => undef, fun r => real (ρ 0) = some r⟩
  have hok1 := hokB
  simp only [HSp.okB, Bool.and_eq_true] at hok1
  obtain ⟨_, _, ha0⟩ := hok1
  rw [hnp] at ha0
  obtain ⟨e, l, tid, hpre⟩ := hsh x
  have hsz : args.toArray.size ≤ fn.ntmps := by
    have h1 := hlen x
    rw [← argsFit_len hfit] at h1
    simpa using h1
  have hst : ∀ b k, (entryH h x).st.hp b = some k → b = 0 ∧ k = .row e l tid := by
    intro b k hk
    have hk : find (h.pre x) b = some k := hk
    rw [hpre] at hk
    unfold find at hk
    split at hk
    · rename_i hz
      exact ⟨(Nat.eq_of_beq_eq_true hz).symm, (Option.some.inj hk).symm⟩
    · cases hk
  have hI : ∀ r, r < w.heap.size → ok r → cx.I ρ (entryH h x).st r := fun r _ hr => ⟨.inl hr, fun b k hk hrr => by
    obtain ⟨rfl, _⟩ := hst b k hk
    exact (hok r hr).2 hrr⟩
  have hb0 : RB P ρ w ok (ρ 0) (.row e l tid) := hblk _ (by rw [hpre]; rfl)
  have hM : M cx ρ (fun b => b < 1) (entryH h x).st { tmps := args.toArray ++ Array.replicate (fn.ntmps - args.toArray.size) undef, defers := [] } w := by
    refine ⟨rfl, Tp.refl _, rfl, Nat.le_refl _, fun _ _ _ => rfl, ?_, ?_, ?_, ?_, ?_, ?_, hone, rfl, ?_, fun j hj => absurd hj (Nat.not_lt_zero j)⟩
    · intro d
      show RV P ρ w _ (lookS (entryHL (h.args x) 0) d) _
      unfold lookS
      cases hfd : find (entryHL (h.args x) 0) d with
      | none => trivial
      | some av =>
        obtain ⟨_, ⟨v, h2, h3⟩, _⟩ := entryH_sound hfit ha0 hfd
        have h2 : args[d]? = some v := by simpa using h2
        have hlt : d < args.length := (List.getElem?_eq_some_iff.1 h2).1
        have : (args.toArray ++ Array.replicate (fn.ntmps - args.toArray.size) undef).getD d undef = v := by
          rw [Array.getD_eq_getD_getElem?, Array.getElem?_append_left (by simpa using hlt)]
          simp [h2]
        rw [this]
        exact h3.mono (fun _ _ => rfl) (Pres.refl _ _) hI
    · intro b k hk
      obtain ⟨rfl, rfl⟩ := hst b k hk
      exact hb0.mono (fun _ _ => rfl) (Pres.refl _ _) hI (fun _ _ => rfl)
    · intro b b' k k' r h1 h2 h3 h4
      rw [(hst b k h1).1, (hst b' k' h2).1]
    · intro b k r h1 h2
      obtain ⟨rfl, rfl⟩ := hst b k h1
      exact ⟨.inl (.inr h2), RB_lt hb0 h2⟩
    · intro d b hb
      change b ∈ (lookS (entryHL (h.args x) 0) d).refs at hb
      unfold lookS at hb
      split at hb
      · rename_i v hfd
        exact (entryH_sound hfit ha0 hfd).2.2 b hb
      · cases hb
    · intro b k hk
      obtain ⟨rfl, rfl⟩ := hst b k hk
      exact ⟨Nat.zero_lt_one, fun d hd => by cases hd⟩
    · show (args.toArray ++ Array.replicate (fn.ntmps - args.toArray.size) undef).size = fn.ntmps
      rw [Array.size_append, Array.size_replicate]
      omega
  refine exec_sound hc hmix (cx := cx) rfl hn.symm hpin.symm code (fun ex nx s as h => cmds_mono (n := c.n) (np := c.pin) (qs := cmds) (nx := nx) h.1) hex hM fun ex nx s as ρ' a' w' hret hM' => ?_
  unfold RetG at hret
  rw [hn, hpin] at hret
  obtain ⟨h1, h2, h3⟩ := hret
  obtain ⟨ρ2, hM2⟩ := cmds_sound (cx := cx) hM' h1
  have hpost : a'.defers = [] ∧ ∃ v, (results fn a'.tmps).run P w' = .ok v w' ∧ ∃ v', Ending.returned v = .returned v' ∧ ∀ (e : Ty) (l' : List e.den) (tid : TypeId), find (h.post x y) 0 = some (.row e l' tid) →
      (∃ xs', World.rowOf w' 0 tid e.size v' l'.length xs' ∧ Rd P (.arr l'.length e) false ρ0 w' (fun _ => True) l' xs') ∧ v'.oneCell' = true ∧ (∀ r, real v' = some r → real (ρ 0) = some r ∨ (w.heap.size ≤ r ∧ r < w'.heap.size)) ∧ BelowS (fun q => real (ρ 0) = some q) w w' := by
    unfold RetGV at h3
    split at h3
    · rename_i vv hres
      split at h3
      · rename_i b hav
        obtain ⟨u, hu, hv⟩ := retAV_sound hc.T hM2 hav
        have hv := RV_own hv
        subst hv
        have hus : (fn.results.toList.mapM (resVar a'.tmps)).run cx.P w' = .ok [ρ2 b] w' := by rw [hres]; simp [hu]
        refine ⟨hM2.defers, _, results_run (cx := cx) (fn := fn) hus, _, rfl, fun e l' tid hk => ?_⟩
        rw [hk] at h3
        obtain ⟨xs', hro, hrd⟩ := hM2.blks b _ h3
        refine ⟨⟨xs', hro, hrd.mono (Pres.refl _ _) (fun _ _ _ => trivial)⟩, hM2.rho b, fun r hr => ?_, hM2.os, hM2.tape, hM2.output, hM2.size, fun q hq hne => hM2.keeps q hq (fun h => h.elim (fun ⟨j, hj, _⟩ => absurd hj (Nat.not_lt_zero j)) hne)⟩
        have hfr := hM2.fresh b _ r h3 hr
        rcases hfr.1.resolve_right (fun h => Nat.not_lt_zero _ h.2) with h4 | h4
        · exact .inr ⟨h4, hfr.2⟩
        · exact .inl h4
      · exact h3.elim
    · exact h3.elim
  cases ex with
  | normal => exact hpost
  | ret => exact hpost
  | exit id => exact h2.elim
end
end Go.Sx
