/-
  Code: its abstract run along one way, cuts, and that the machine does the same.
-/
import Derived.Test.YtcgcnojpcgjnmaaSxRegion3
namespace Go.Sx
open Go.RowKit (Below)

def lookS (l : List (Nat × AV)) (d : Nat) : AV := match find l d with
  | some v => v
  | none => .undef
def SL.st (s : SL) : St := ⟨lookS s.sl, find s.hp, True⟩

/-- Other names for the blocks of the call's own. -/
def Ty.ren (g : Nat → Nat) : (t : Ty) → t.den → t.den
  | .own, b => g b
  | .ptr, p => ⟨g p.b, p.off, p.i, p.es, p.inner⟩
  | .clo, c => (c.1, c.2.map fun p => ⟨g p.b, p.off, p.i, p.es, p.inner⟩)
  | .pair a b, x => match a.deep && b.deep with
    | true => x
    | false => (a.ren g x.1, b.ren g x.2)
  | .arr _ e, (l : List e.den) => match e.deep with
    | true => l
    | false => l.map (e.ren g)
  | .int _, x => x
  | .bool, x => x
  | .unit, x => x
  | .slice _, x => x
  | .fn _ _, x => x
  | .ref _, x => x

theorem Ty.ren_deep (g : Nat → Nat) : ∀ {t : Ty} (x : t.den), t.deep = true → t.ren g x = x := by
  intro t x h
  cases t with
  | pair a b => simp only [Ty.deep] at h; simp only [Ty.ren, h]
  | arr n e => simp only [Ty.deep] at h; simp only [Ty.ren, h]
  | own => simp [Ty.deep] at h
  | ptr => simp [Ty.deep] at h
  | clo => simp [Ty.deep] at h
  | _ => rfl

theorem map_get {α β : Type} {f : α → β} {l : List α} {i : Nat} {y : α} (h : l[i]? = some y) : (l.map f)[i]? = some (f y) := by rw [List.getElem?_map, h]; rfl

theorem Ptr.val_ren (ρ : Nat → Value) (g : Nat → Nat) (p : Ptr) : (⟨g p.b, p.off, p.i, p.es, p.inner⟩ : Ptr).val ρ = p.val (fun b => ρ (g b)) := rfl

theorem Rd.ren {P : Program} {g : Nat → Nat} : ∀ {t : Ty} {ρ : Nat → Value} {w : World} {I : Nat → Prop} {x : t.den} {c : List Value}, Rd P t false ρ w I (t.ren g x) c → Rd P t false (fun b => ρ (g b)) w I x c := by
  have deep : ∀ {t : Ty} {ρ : Nat → Value} {w : World} {I : Nat → Prop} {x : t.den} {c : List Value}, t.deep = true → Rd P t false ρ w I (t.ren g x) c → Rd P t false (fun b => ρ (g b)) w I x c := by
    intro t ρ w I x c hd h
    rw [Ty.ren_deep g x hd] at h
    exact h.rho fun b hb => by rw [Ty.deep_refs hd] at hb; cases hb
  intro t
  induction t with
  | pair a b iha ihb =>
    intro ρ w I x c h
    cases hd : (a.deep && b.deep) with
    | true => exact deep hd h
    | false =>
      simp only [Ty.ren, hd] at h
      obtain ⟨c1, c2, rfl, h1, h2⟩ := h
      exact ⟨c1, c2, rfl, iha h1, ihb h2⟩
  | arr n e ih =>
    intro ρ w I x c h
    cases hd : e.deep with
    | true => exact deep hd h
    | false =>
      simp only [Ty.ren, hd] at h
      obtain ⟨hl, css, rfl, hn, hall⟩ := h
      exact ⟨(List.length_map ..).symm.trans hl, css, rfl, hn, fun i y c hy hc => ih (hall i _ c (map_get (l := x) hy) hc)⟩
  | own => intro ρ w I x c h; exact h
  | ptr =>
    intro ρ w I x c h
    obtain ⟨h1, ad, hs, hg⟩ := h
    exact ⟨h1, ad, hs, fun q hq => by rw [← Ptr.val_ren]; exact hg _ (by show g q.b = g _; rw [hq])⟩
  | clo =>
    intro ρ w I x c h
    have h : c = [.func (.func x.1) #[] ((x.2.map fun p => (⟨g p.b, p.off, p.i, p.es, p.inner⟩ : Ptr)).map (·.val ρ)).toArray] := h
    show c = _
    rw [h, List.map_map]
    rfl
  | unit => intro ρ w I x c h; exact h
  | int k => intro ρ w I x c h; exact h
  | bool => intro ρ w I x c h; exact h
  | slice e _ => intro ρ w I x c h; exact h
  | fn a b _ _ => intro ρ w I x c h; exact h
  | ref t _ => intro ρ w I x c h; exact h

def AV.ren (g : Nat → Nat) : AV → AV
  | .val t x => .val t (t.ren g x)
  | .tup l => .tup (l.map fun t => ⟨t.t, t.t.ren g t.x⟩)
  | .imm t x off => .imm t x off
  | .nil => .nil
  | .anyb p => .anyb p
  | .win b lo n => .win (g b) lo n
  | .undef => .undef

theorem RV.ren {P : Program} {g : Nat → Nat} {ρ : Nat → Value} {w : World} {I : Nat → Prop} {av : AV} {v : Value} (h : RV P ρ w I (av.ren g) v) : RV P (fun b => ρ (g b)) w I av v := by
  cases av with
  | val t x => obtain ⟨c, rfl, hc⟩ := h; exact ⟨c, rfl, hc.ren⟩
  | imm t x off => exact h
  | anyb p => exact h
  | win b lo n =>
    obtain ⟨ad, cap, h1, h2, h3⟩ := h
    exact ⟨ad, cap, h1, fun q hq => by rw [← Ptr.val_ren]; exact h2 _ (by show g q.b = g _; rw [hq]), h3⟩
  | nil => exact h
  | undef => trivial
  | tup l =>
    obtain ⟨vs, rfl, hl, hall⟩ := h
    refine ⟨vs, rfl, by simpa using hl, fun i t u ht hu => ?_⟩
    obtain ⟨c, hc, hr⟩ := hall i ⟨t.t, t.t.ren g t.x⟩ u (by rw [List.getElem?_map, ht]; rfl) hu
    exact ⟨c, hc, hr.ren⟩

def Blk.ren (g : Nat → Nat) : Blk → Blk
  | .cells t x => .cells t (t.ren g x)
  | .row e l tid => .row e l tid

theorem RB.ren {P : Program} {g : Nat → Nat} {ρ : Nat → Value} {w : World} {I : Nat → Prop} {k : Blk} {v : Value} (h : RB P ρ w I v (k.ren g)) : RB P (fun b => ρ (g b)) w I v k := by
  cases k with
  | cells t x =>
    obtain ⟨r, tid, cur, h1, h2, h3⟩ := h
    exact ⟨r, tid, cur, h1, h2, h3.ren⟩
  | row e l tid => exact h

section
variable {cx : Cx} {ρ : Nat → Value} {F : Nat → Prop} {s : St} {a : Act} {w : World}

/-- A state under other names, and with less in it. -/
theorem M.rename (h : M cx ρ F s a w) {s' : St} (g : Nat → Nat) {F' : Nat → Prop} (hs : ∀ d, s'.sl d = .undef ∨ (s'.sl d).ren g = s.sl d) (hp : ∀ b k, s'.hp b = some k → s.hp (g b) = some (k.ren g))
    (hinj : ∀ b b' k k', s'.hp b = some k → s'.hp b' = some k' → g b = g b' → b = b') (hF : ∀ d, ∀ b ∈ (s'.sl d).refs, F' b) (hFb : ∀ b k, s'.hp b = some k → F' b ∧ ∀ c ∈ k.refs, F' c) (hpin : ∀ r, cx.E r → g 0 = 0 ∧ F' 0) :
    M cx (fun b => ρ (g b)) F' s' a w := by
  have hI : ∀ r, r < w.heap.size → cx.I ρ s r → cx.I (fun b => ρ (g b)) s' r := fun r _ hi => ⟨hi.1, fun b k hk hr => hi.2 (g b) _ (hp b k hk) hr⟩
  refine ⟨h.os, h.tape, h.output, h.size, h.keeps, ?_, ?_, ?_, ?_, hF, hFb, fun b => h.rho _, h.defers, h.tsize, fun r hr => ⟨by rw [(hpin r hr).1]; exact (h.pin r hr).1, (hpin r hr).2⟩⟩
  · intro d
    rcases hs d with hd | hd
    · rw [hd]; trivial
    · have h1 := h.slots d
      rw [← hd] at h1
      exact h1.ren.mono (fun _ _ => rfl) (Pres.refl _ _) hI
  · intro b k hk
    have h1 := h.blks (g b) _ (hp b k hk)
    exact h1.ren.mono (fun _ _ => rfl) (Pres.refl _ _) hI (fun _ _ => rfl)
  · intro b b' k k' r h1 h2 h3 h4
    exact hinj b b' k k' h1 h2 (h.sep (g b) (g b') _ _ r (hp b k h1) (hp b' k' h2) h3 h4)
  · intro b k r h1 h2
    have := h.fresh (g b) _ r (hp b k h1) h2
    rw [show (k.ren g).isC = k.isC by cases k <;> rfl] at this
    exact this

def runCmd (n : Nat) (q : Cmd) (nx : Nat) (s : St) : Nat × St :=
  match q with
  | .own d e tid => match s.sl d with
    | .nil => (nx + 1, ⟨putS n s.sl (some d) (.val .own nx), upd s.hp nx (some (.row e [] tid)), s.ok⟩)
    | _ => (nx, ⟨s.sl, s.hp, False⟩)
  | .deep d e => match s.sl d with
    | .nil => (nx, ⟨putS n s.sl (some d) (.val (.slice e) []), s.hp, s.ok⟩)
    | .val .own b => match s.hp b with
      | some (.row e l _) => (nx, ⟨putS n s.sl (some d) (.val (.slice e) l), upd s.hp b none, s.ok⟩)
      | _ => (nx, ⟨s.sl, s.hp, False⟩)
    | _ => (nx, ⟨s.sl, s.hp, False⟩)
  | .freeze d => match s.sl d with
    | .val .own b => match s.hp b with
      | some (.row e l _) => (nx, ⟨putS n s.sl (some d) (.val (.slice e) l), upd s.hp b none, s.ok⟩)
      | _ => (nx, ⟨s.sl, s.hp, False⟩)
    | _ => (nx, ⟨s.sl, s.hp, False⟩)

def runCmds (n : Nat) : List Cmd → Nat → St → Nat × St
  | [], nx, s => (nx, s)
  | q :: qs, nx, s => match runCmd n q nx s with
    | (nx', s') => runCmds n qs nx' s'

theorem put_self {a : Act} {d : Nat} {n : Nat} (hn : a.tmps.size = n) : (a.put (some d) (a.tmps.getD d undef)) = a := by
  obtain ⟨t, df⟩ := a
  simp only [Act.put, Act.mk.injEq, and_true]
  apply Array.ext_getElem?
  intro i
  by_cases h : d = i
  · subst h
    by_cases hlt : d < t.size
    · simp [hlt, Array.getD_eq_getD_getElem?]
    · simp [hlt]
  · rw [Array.getElem?_setIfInBounds_ne h]

theorem cmd_mono {n : Nat} {q : Cmd} {nx : Nat} {s : St} (h : (runCmd n q nx s).2.ok) : s.ok := by
  unfold runCmd at h
  split at h <;> split at h <;> first | exact h | exact h.elim | skip
  all_goals (split at h <;> first | exact h | exact h.elim)

theorem freeze_sound {nx : Nat} (hM : M cx ρ (fun b => b < nx) s a w) {d : Nat} (b : Nat) {e : Ty} {l : List e.den} {tid : TypeId} (_hd : s.sl d = .val .own b) (hb : s.hp b = some (.row e l tid)) (hv : a.tmps.getD d undef = ρ b) :
    ∃ ρ', M cx ρ' (fun b => b < nx) ⟨putS cx.n s.sl (some d) (.val (.slice e) l), upd s.hp b none, s.ok⟩ a w := by
  have hdrop := M.drop hM b s.ok
  have hrd : RdV cx.P (.slice e) ρ w (cx.I ρ ⟨s.sl, upd s.hp b none, s.ok⟩) l (ρ b) := by
    obtain ⟨xs, ⟨h0, hro⟩, hrd⟩ := hM.blks b _ hb
    have hIsub : ∀ r, r < w.heap.size → cx.I ρ s r → cx.I ρ ⟨s.sl, upd s.hp b none, s.ok⟩ r := fun r _ hi => ⟨hi.1, fun c k' hc hrr => by
      by_cases e : c = b
      · change upd s.hp b none c = some k' at hc
        rw [e, upd_same] at hc; cases hc
      · change upd s.hp b none c = some k' at hc
        rw [upd_ne _ _ e] at hc
        exact hi.2 c k' hc hrr⟩
    rcases hro with ⟨h1, h2⟩ | ⟨g, cap, cur, h1, _, h3, h4, h5, h6, h7⟩
    · have hl0 : l = [] := List.eq_nil_of_length_eq_zero h2
      subst hl0
      rw [h1]
      exact ⟨[.slice none 0 0], rfl, none, 0, rfl, Nat.le_refl _, .inl rfl⟩
    · rw [h1]
      have hreal : real (ρ b) = some g := by rw [h1]; rfl
      have hfr := hM.fresh b _ g hb hreal
      refine ⟨[.slice (some ⟨g, 0, none⟩) l.length cap], rfl, some ⟨g, 0, none⟩, cap, rfl, h4, ?_⟩
      by_cases hl0 : l = []
      · exact .inl hl0
      · refine .inr ⟨⟨g, 0, none⟩, rfl, rfl, ⟨.inr (hfr.1.resolve_right (fun h => by cases h.2)), fun c k' hc hrr => ?_⟩, hfr.2, fun i y hy => ?_⟩
        · change upd s.hp b none c = some k' at hc
          by_cases e : c = b
          · rw [e, upd_same] at hc; cases hc
          · rw [upd_ne _ _ e] at hc
            exact e (hM.sep c b k' _ g hc hb hrr hreal)
        · have hi : i < l.length := (List.getElem?_eq_some_iff.1 hy).1
          obtain ⟨pre, ci, post, g1, g2, g3, _⟩ := elemAt hrd hi e.zero
          have hyy : l.getD i e.zero = y := by simp only [List.getD]; rw [show l[i]? = some y from hy]; rfl
          rw [hyy] at g3
          refine ⟨ci, ?_, g3.mono (Pres.refl _ _) hIsub⟩
          have hcur : cur.toList = pre ++ ci ++ (post ++ cur.toList.drop (l.length * e.size)) := by
            have := List.take_append_drop (l.length * e.size) cur.toList
            rw [h7, g1] at this
            rw [← List.append_assoc]; exact this.symm
          have := CellsAt_of_row h3 hcur
          rw [g2] at this
          rw [add_none, Nat.zero_add]
          exact this
  have hput := M.put hdrop (some d) (av := .val (.slice e) l) (v := ρ b) hrd (fun b hb => by cases hb) s.ok
  rw [← hv, put_self hM.tsize] at hput
  exact ⟨_, hput⟩

theorem cmd_sound {q : Cmd} {nx : Nat} (hM : M cx ρ (fun b => b < nx) s a w) (hok : (runCmd cx.n q nx s).2.ok) : ∃ ρ', M cx ρ' (fun b => b < (runCmd cx.n q nx s).1) (runCmd cx.n q nx s).2 a w := by
  unfold runCmd at hok ⊢
  split at hok
  · rename_i d e tid
    split at hok
    · rename_i hd
      have hv : a.tmps.getD d undef = .slice none 0 0 := by have := hM.slots d; rw [hd] at this; exact this
      have hnew := M.new (k := .row e [] tid) (v := .slice none 0 0) hM (Nat.lt_irrefl _) s.ok (Below.refl _ _) (fun r hr => by cases hr) rfl ⟨[], World.ownsRow_nil _ _ _ _, rfl, [], rfl, rfl, fun i x c hx => by cases hx⟩ (fun b hb => by cases hb)
      have hput := M.put hnew (some d) (av := .val .own nx) (v := .slice none 0 0) ⟨[.slice none 0 0], rfl, by show _ = [upd ρ nx _ nx]; rw [upd_same]⟩ (fun b hb => .inr (List.mem_singleton.1 hb)) s.ok
      rw [← hv, put_self hM.tsize] at hput
      refine ⟨_, (hput.widen fun b hb => ?_)⟩
      rcases hb with hb | hb
      · exact Nat.lt_succ_of_lt hb
      · rw [hb]; exact Nat.lt_succ_self _
    · exact hok.elim
  · rename_i d e
    split at hok
    · rename_i hd
      have hv : a.tmps.getD d undef = .slice none 0 0 := by have := hM.slots d; rw [hd] at this; exact this
      have hput := M.put hM (some d) (av := .val (.slice e) []) (v := .slice none 0 0) ⟨[.slice none 0 0], rfl, none, 0, rfl, Nat.le_refl _, .inl rfl⟩ (fun b hb => by cases hb) s.ok
      rw [← hv, put_self hM.tsize] at hput
      exact ⟨_, hput⟩
    · rename_i b hd
      split at hok
      · rename_i e l tid hb
        have hv : a.tmps.getD d undef = ρ b := by have := hM.slots d; rw [hd] at this; exact RV_own this
        exact freeze_sound hM b hd hb hv
      · exact hok.elim
    · exact hok.elim
  · rename_i d
    split at hok
    · rename_i b hd
      split at hok
      · rename_i e l tid hb
        have hv : a.tmps.getD d undef = ρ b := by have := hM.slots d; rw [hd] at this; exact RV_own this
        exact freeze_sound hM b hd hb hv
      · exact hok.elim
    · exact hok.elim

theorem cmds_mono {n : Nat} : ∀ {qs : List Cmd} {nx : Nat} {s : St}, (runCmds n qs nx s).2.ok → s.ok := by
  intro qs
  induction qs with
  | nil => intro nx s h; exact h
  | cons q qs ih => intro nx s h; exact cmd_mono (ih h)

theorem cmds_sound : ∀ {qs : List Cmd} {nx : Nat} {s : St} {ρ : Nat → Value}, M cx ρ (fun b => b < nx) s a w → (runCmds cx.n qs nx s).2.ok →
    ∃ ρ', M cx ρ' (fun b => b < (runCmds cx.n qs nx s).1) (runCmds cx.n qs nx s).2 a w := by
  intro qs
  induction qs with
  | nil => intro nx s ρ hM _; exact ⟨ρ, hM⟩
  | cons q qs ih =>
    intro nx s ρ hM hok
    obtain ⟨ρ', hM'⟩ := cmd_sound hM (cmds_mono (qs := qs) hok)
    exact ih hM' hok
end

def ren (g : List (Nat × Nat)) (b : Nat) : Nat := match find g b with
  | some c => c
  | none => b

/-- Do the written names stay below n, and are they apart? -/
def SL.okB (s : SL) (g : List (Nat × Nat)) (n : Nat) (pin : Bool) : Bool :=
  (!pin || (Nat.beq (ren g 0) 0 && Nat.blt 0 n)) && (s.sl.all fun x => x.2.refs.all (Nat.blt · n)) && ((s.hp.all fun x => Nat.blt x.1 n && x.2.refs.all (Nat.blt · n)) &&
    (s.hp.all fun x => s.hp.all fun y => Nat.beq x.1 y.1 || !(Nat.beq (ren g x.1) (ren g y.1))))

/-- The state s shows what is written. -/
def Shows (g : List (Nat × Nat)) (pre : SL) (s : St) : Prop :=
  pre.sl.map (fun x => x.2.ren (ren g)) = pre.sl.map (fun x => s.sl x.1) ∧ pre.hp.map (fun x => some (x.2.ren (ren g))) = pre.hp.map (fun x => s.hp (ren g x.1))

theorem find_of_map {α γ : Type} {g : Nat × α → γ} {h : Nat → γ} : ∀ {l : List (Nat × α)}, l.map g = l.map (fun x => h x.1) → ∀ {k : Nat} {x : α}, find l k = some x → g (k, x) = h k := by
  intro l
  induction l with
  | nil => intro _ k x h; cases h
  | cons y l ih =>
    intro he k x hx
    simp only [List.map_cons, List.cons.injEq] at he
    unfold find at hx
    split at hx
    · rename_i hk
      have hk := Nat.eq_of_beq_eq_true hk
      obtain rfl := Option.some.inj hx
      rw [← hk]; exact he.1
    · exact ih he.2 hx

theorem M.shown {cx : Cx} {ρ : Nat → Value} {F : Nat → Prop} {s : St} {a : Act} {w : World} (h : M cx ρ F s a w) {g : List (Nat × Nat)} {pre : SL} {n : Nat} {pin : Bool} (hs : Shows g pre s) (hb : pre.okB g n pin = true) (hE : ∀ r, cx.E r → pin = true) :
    M cx (fun b => ρ (ren g b)) (fun b => b < n) pre.st a w := by
  simp only [SL.okB, Bool.and_eq_true] at hb
  obtain ⟨⟨h0, h1⟩, h2, h3⟩ := hb
  refine M.rename h (ren g) (s' := pre.st) ?_ ?_ ?_ ?_ ?_ ?_
  · intro d
    show lookS pre.sl d = .undef ∨ (lookS pre.sl d).ren (ren g) = s.sl d
    unfold lookS
    cases hf : find pre.sl d with
    | none => exact .inl rfl
    | some v => exact .inr (find_of_map (g := fun x : Nat × AV => x.2.ren (ren g)) (h := s.sl) hs.1 hf)
  · intro b k hk
    have := find_of_map (g := fun x : Nat × Blk => some (x.2.ren (ren g))) (h := fun b => s.hp (ren g b)) hs.2 hk
    exact this.symm
  · intro b b' k k' hk hk' he
    have m1 := find_mem hk
    have m2 := find_mem hk'
    have := List.all_eq_true.1 (List.all_eq_true.1 h3 _ m1) _ m2
    simp only [Bool.or_eq_true, Bool.not_eq_true'] at this
    rcases this with h | h
    · exact Nat.eq_of_beq_eq_true h
    · rw [he] at h
      simp at h
  · intro d b hb
    change b ∈ (lookS pre.sl d).refs at hb
    unfold lookS at hb
    split at hb
    · rename_i v hf
      have := List.all_eq_true.1 (List.all_eq_true.1 h1 _ (find_mem hf)) b hb
      exact blt_true this
    · cases hb
  · intro b k hk
    have := List.all_eq_true.1 h2 _ (find_mem hk)
    simp only [Bool.and_eq_true] at this
    exact ⟨blt_true this.1, fun c hc => blt_true (List.all_eq_true.1 this.2 c hc)⟩
  · intro r hr
    simp only [hE r hr, Bool.not_true, Bool.false_or, Bool.and_eq_true] at h0
    exact ⟨Nat.eq_of_beq_eq_true h0.1, blt_true h0.2⟩
end Go.Sx
