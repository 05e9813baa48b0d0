/-
  Code: its abstract run along one way, cuts, and that the machine does the same.
-/
import Derived.Test.YtolkdkhdkfndfaaSxRegion3
namespace Go.Sx

def lookS (l : List (Nat × AV)) (d : Nat) : AV := match find l d with
  | some v => v
  | none => .undef
def SL.st (s : SL) : St := ⟨lookS s.sl, find s.hp, True⟩

section
variable {cx : Cx} {ρ : Nat → Value} {F : Nat → Prop} {s : St} {a : Act} {w : World}

/-- A state under other names, and with less in it. -/
theorem M.rename (h : M cx ρ F s a w) {s' : St} (g : Nat → Nat) {F' : Nat → Prop} (hs : ∀ d, s'.sl d = .undef ∨ (s'.sl d).ren g = s.sl d) (hp : ∀ b k, s'.hp b = some k → s.hp (g b) = some (k.ren g))
    (hinj : ∀ b b' k k', s'.hp b = some k → s'.hp b' = some k' → g b = g b' → b = b') (hF : ∀ d, ∀ b ∈ (s'.sl d).refs, F' b) (hFb : ∀ b k, s'.hp b = some k → F' b ∧ ∀ c ∈ k.refs, F' c) (hpin : ∀ j, j < cx.np → g j = j ∧ F' j) (hgp : ∀ b k, s'.hp b = some k → g b < cx.np → b < cx.np) :
    M cx (fun b => ρ (g b)) F' s' a w := by
  have hI : ∀ r, r < w.heap.size → cx.I ρ s r → cx.I (fun b => ρ (g b)) s' r := fun r _ hi => ⟨hi.1, fun b k hk hr => hi.2 (g b) _ (hp b k hk) hr⟩
  refine ⟨h.os, h.tape, h.output, h.size, h.keeps, ?_, ?_, ?_, ?_, hF, hFb, fun b => h.rho _, h.defers, h.tsize, fun j hj => ⟨by rw [(hpin j hj).1]; exact (h.pin j hj).1, (hpin j hj).2⟩⟩
  · intro d
    rcases hs d with hd | hd
    · rw [hd]; trivial
    · have h1 := h.slots d
      rw [← hd] at h1
      exact h1.ren.mono (fun _ _ => rfl) (Pres.refl _ _) hI
  · intro b k hk
    have h1 := h.blks (g b) _ (hp b k hk)
    exact h1.ren.mono (fun _ _ => rfl) (Pres.refl _ _) hI (fun _ _ => rfl)
  · intro b b' k k' r h1 h2 h3 h4
    exact hinj b b' k k' h1 h2 (h.sep (g b) (g b') _ _ r (hp b k h1) (hp b' k' h2) h3 h4)
  · intro b k r h1 h2
    have := h.fresh (g b) _ r (hp b k h1) h2
    exact ⟨this.1.imp id fun h => ⟨h.1, hgp b k h1 h.2⟩, this.2⟩

/-- A struct with own rows, as data; and the rows that are given up. -/
def meltV (np : Nat) (hp : Nat → Option Blk) : (ty : Ty) → ty.den → (t : Ty) → Option (t.den × List Nat)
  | .pair a b, x, t => match t with
    | .pair a' b' => match meltV np hp a x.1 a' with
      | some (y, l) => match meltV np hp b x.2 b' with
        | some (z, m) => some ((y, z), l ++ m)
        | none => none
      | none => none
    | _ => none
  | .own, b, t => match t with
    | .slice e => match hp b with
      | some (.row e' l _) => match Nat.ble np b with
        | true => (Ty.as? (.slice e') (.slice e) l).map fun y => (y, [b])
        | false => none
      | _ => none
    | _ => none
  | .nil, _, t => match t with
    | .slice _ => some ([], [])
    | _ => none
  | ty, x, t => (Ty.as? ty t x).map fun y => (y, [])
def dropAll (hp : Nat → Option Blk) (bs : List Nat) : Nat → Option Blk := bs.foldl (fun h b => upd h b none) hp

def runCmd (n np : Nat) (q : Cmd) (nx : Nat) (s : St) : Nat × St :=
  match q with
  | .own d e tid => match s.sl d with
    | .nil => (nx + 1, ⟨putS n s.sl (some d) (.val .own nx), upd s.hp nx (some (.row e [] tid)), s.ok⟩)
    | .val .own _ => (nx, ⟨s.sl, s.hp, s.ok⟩)
    | _ => (nx, ⟨s.sl, s.hp, False⟩)
  | .ownF b off e tid => match s.hp b with
    | some (.cells ty x) => match comp ty x off .nil, setX ty x off .nil ⟨.own, nx⟩ with
      | some _, some u => (nx + 1, ⟨s.sl, upd (upd s.hp nx (some (.row e [] tid))) b (some (.cells u.t u.x)), s.ok⟩)
      | _, _ => (nx, ⟨s.sl, s.hp, False⟩)
    | _ => (nx, ⟨s.sl, s.hp, False⟩)
  | .deepF b off e => match s.hp b with
    | some (.cells ty x) => match comp ty x off .nil, setX ty x off .nil ⟨.slice e, ([] : List e.den)⟩ with
      | some _, some u => (nx, ⟨s.sl, upd s.hp b (some (.cells u.t u.x)), s.ok⟩)
      | _, _ => (nx, ⟨s.sl, s.hp, False⟩)
    | _ => (nx, ⟨s.sl, s.hp, False⟩)
  | .frzF b off => match s.hp b with
    | some (.cells ty x) => match comp ty x off .own with
      | some b' => match s.hp b' with
        | some (.row e l _) => match Nat.ble np b', setX ty x off .own ⟨.slice e, l⟩ with
          | true, some u => (nx, ⟨s.sl, upd (upd s.hp b' none) b (some (.cells u.t u.x)), s.ok⟩)
          | _, _ => (nx, ⟨s.sl, s.hp, False⟩)
        | _ => (nx, ⟨s.sl, s.hp, False⟩)
      | none => (nx, ⟨s.sl, s.hp, False⟩)
    | _ => (nx, ⟨s.sl, s.hp, False⟩)
  | .melt d t => match s.sl d with
    | .val ty x => match meltV np s.hp ty x t with
      | some (y, bs) => match t.deep with
        | true => (nx, ⟨putS n s.sl (some d) (.val t y), dropAll s.hp bs, s.ok⟩)
        | false => (nx, ⟨s.sl, s.hp, False⟩)
      | none => (nx, ⟨s.sl, s.hp, False⟩)
    | _ => (nx, ⟨s.sl, s.hp, False⟩)
  | .deep d e => match s.sl d with
    | .nil => (nx, ⟨putS n s.sl (some d) (.val (.slice e) []), s.hp, s.ok⟩)
    | .val .own b => match s.hp b with
      | some (.row e l _) => match Nat.ble np b with
        | true => (nx, ⟨putS n s.sl (some d) (.val (.slice e) l), upd s.hp b none, s.ok⟩)
        | false => (nx, ⟨s.sl, s.hp, False⟩)
      | _ => (nx, ⟨s.sl, s.hp, False⟩)
    | _ => (nx, ⟨s.sl, s.hp, False⟩)
  | .freeze d => match s.sl d with
    | .val .own b => match s.hp b with
      | some (.row e l _) => match Nat.ble np b with
        | true => (nx, ⟨putS n s.sl (some d) (.val (.slice e) l), upd s.hp b none, s.ok⟩)
        | false => (nx, ⟨s.sl, s.hp, False⟩)
      | _ => (nx, ⟨s.sl, s.hp, False⟩)
    | _ => (nx, ⟨s.sl, s.hp, False⟩)

def runCmds (n np : Nat) : List Cmd → Nat → St → Nat × St
  | [], nx, s => (nx, s)
  | q :: qs, nx, s => match runCmd n np q nx s with
    | (nx', s') => runCmds n np qs nx' s'

theorem put_self {a : Act} {d : Nat} {n : Nat} (hn : a.tmps.size = n) : (a.put (some d) (a.tmps.getD d undef)) = a := by
  obtain ⟨t, df⟩ := a
  simp only [Act.put, Act.mk.injEq, and_true]
  apply Array.ext_getElem?
  intro i
  by_cases h : d = i
  · subst h
    by_cases hlt : d < t.size
    · simp [hlt, Array.getD_eq_getD_getElem?]
    · simp [hlt]
  · rw [Array.getElem?_setIfInBounds_ne h]

theorem cmd_mono {n np : Nat} {q : Cmd} {nx : Nat} {s : St} (h : (runCmd n np q nx s).2.ok) : s.ok := by
  unfold runCmd at h
  split at h
  all_goals repeat' first | exact h | exact h.elim | split at h

theorem row_reads {F : Nat → Prop} (hM : M cx ρ F s a w) (b : Nat) (hnp : cx.np ≤ b) {e : Ty} {l : List e.den} {tid : TypeId} (hb : s.hp b = some (.row e l tid)) :
    RdV cx.P (.slice e) ρ w (cx.I ρ ⟨s.sl, upd s.hp b none, s.ok⟩) l (ρ b) := by
  obtain ⟨xs, ⟨h0, hro⟩, hrd⟩ := hM.blks b _ hb
  have hIsub : ∀ r, r < w.heap.size → cx.I ρ s r → cx.I ρ ⟨s.sl, upd s.hp b none, s.ok⟩ r := fun r _ hi => ⟨hi.1, fun c k' hc hrr => by
    by_cases e : c = b
    · change upd s.hp b none c = some k' at hc
      rw [e, upd_same] at hc; cases hc
    · change upd s.hp b none c = some k' at hc
      rw [upd_ne _ _ e] at hc
      exact hi.2 c k' hc hrr⟩
  rcases hro with ⟨A0, h1, h2⟩ | ⟨g, cap, cur, h1, hcp, _, h3, h4, h5, h6, h7⟩
  · have hl0 : l = [] := List.eq_nil_of_length_eq_zero h2
    subst hl0
    rw [h1]
    exact ⟨[.slice A0 0 0], rfl, A0, 0, rfl, Nat.le_refl _, .inl rfl⟩
  · rw [h1]
    have hreal : real (ρ b) = some g := by rw [h1]; exact real_slice hcp
    have hfr := hM.fresh b _ g hb hreal
    refine ⟨[.slice (some ⟨g, 0, none⟩) l.length cap], rfl, some ⟨g, 0, none⟩, cap, rfl, h4, ?_⟩
    by_cases hl0 : l = []
    · exact .inl hl0
    · refine .inr ⟨⟨g, 0, none⟩, rfl, rfl, ⟨.inr (hfr.1.resolve_right (fun h => Nat.not_lt.2 hnp h.2)), fun c k' hc hrr => ?_⟩, hfr.2, fun i y hy => ?_⟩
      · change upd s.hp b none c = some k' at hc
        by_cases e : c = b
        · rw [e, upd_same] at hc; cases hc
        · rw [upd_ne _ _ e] at hc
          exact e (hM.sep c b k' _ g hc hb hrr hreal)
      · have hi : i < l.length := (List.getElem?_eq_some_iff.1 hy).1
        obtain ⟨pre, ci, post, g1, g2, g3, _⟩ := elemAt hrd hi e.zero
        have hyy : l.getD i e.zero = y := by simp only [List.getD]; rw [show l[i]? = some y from hy]; rfl
        rw [hyy] at g3
        refine ⟨ci, ?_, g3.mono (Pres.refl _ _) hIsub⟩
        have hcur : cur.toList = pre ++ ci ++ (post ++ cur.toList.drop (l.length * e.size)) := by
          have := List.take_append_drop (l.length * e.size) cur.toList
          rw [h7, g1] at this
          rw [← List.append_assoc]; exact this.symm
        have := CellsAt_of_row h3 hcur
        rw [g2] at this
        rw [add_none, Nat.zero_add]
        exact this

theorem freeze_sound {nx : Nat} (hM : M cx ρ (fun b => b < nx) s a w) {d : Nat} (b : Nat) (hnp : cx.np ≤ b) {e : Ty} {l : List e.den} {tid : TypeId} (_hd : s.sl d = .val .own b) (hb : s.hp b = some (.row e l tid)) (hv : a.tmps.getD d undef = ρ b) :
    ∃ ρ', M cx ρ' (fun b => b < nx) ⟨putS cx.n s.sl (some d) (.val (.slice e) l), upd s.hp b none, s.ok⟩ a w := by
  have hdrop := M.drop hM b s.ok
  have hrd := row_reads hM b hnp hb
  have hput := M.put hdrop (some d) (av := .val (.slice e) l) (v := ρ b) hrd (fun b hb => by cases hb) s.ok
  rw [← hv, put_self hM.tsize] at hput
  exact ⟨_, hput⟩

theorem I_less {sl sl' : Nat → AV} {hp hp' : Nat → Option Blk} {ok ok' : Prop} (h : ∀ c k, hp' c = some k → ∃ k', hp c = some k') {r : Nat} (hi : cx.I ρ ⟨sl, hp, ok⟩ r) : cx.I ρ ⟨sl', hp', ok'⟩ r :=
  ⟨hi.1, fun c k hk hr => by
    obtain ⟨k', hk'⟩ := h c k hk
    exact hi.2 c k' hk' hr⟩

theorem dropAll_some : ∀ {bs : List Nat} {hp : Nat → Option Blk} {c : Nat} {k : Blk}, dropAll hp bs c = some k → hp c = some k ∧ c ∉ bs := by
  intro bs
  induction bs with
  | nil => intro hp c k h; exact ⟨h, by simp⟩
  | cons b bs ih =>
    intro hp c k h
    obtain ⟨h1, h2⟩ := ih (hp := upd hp b none) h
    by_cases e : c = b
    · subst e; rw [upd_same] at h1; cases h1
    · rw [upd_ne _ _ e] at h1
      exact ⟨h1, by simp [e, h2]⟩

theorem M.dropAll {F : Nat → Prop} : ∀ {bs : List Nat} {s : St}, M cx ρ F s a w → M cx ρ F ⟨s.sl, Sx.dropAll s.hp bs, s.ok⟩ a w := by
  intro bs
  induction bs with
  | nil => intro s h; exact h
  | cons b bs ih => intro s h; exact ih (M.drop h b s.ok)

theorem melt_agg {np : Nat} {hp : Nat → Option Blk} {ty : Ty} {x : ty.den} {t : Ty} {y : t.den} {bs : List Nat} (h : meltV np hp ty x t = some (y, bs)) : ty.agg = t.agg := by
  have base : ∀ (ty : Ty) (x : ty.den), ((Ty.as? ty t x).map fun y => (y, ([] : List Nat))) = some (y, bs) → ty.agg = t.agg := by
    intro ty x h
    obtain ⟨z, hz, _⟩ := Option.map_eq_some_iff.1 h
    obtain ⟨rfl, _⟩ := Ty.as?_some hz
    rfl
  cases ty with
  | pair a b => cases t <;> first | rfl | cases h
  | own => cases t <;> first | rfl | cases h
  | nil => cases t <;> first | rfl | cases h
  | _ => exact base _ x h

theorem melt_sound {F : Nat → Prop} (hM : M cx ρ F s a w) : ∀ {ty : Ty} {x : ty.den} {t : Ty} {y : t.den} {bs : List Nat} {cs : List Value}, meltV cx.np s.hp ty x t = some (y, bs) → Rd cx.P ty false ρ w (cx.I ρ s) x cs →
    ∀ {bs' : List Nat}, (∀ b ∈ bs, b ∈ bs') → Rd cx.P t false ρ w (cx.I ρ ⟨s.sl, Sx.dropAll s.hp bs', s.ok⟩) y cs := by
  have grow : ∀ (bs' : List Nat) r, r < w.heap.size → cx.I ρ s r → cx.I ρ ⟨s.sl, Sx.dropAll s.hp bs', s.ok⟩ r := fun bs' r _ hi => I_less (fun c k hk => ⟨k, (dropAll_some hk).1⟩) hi
  have base : ∀ (ty : Ty) (x : ty.den) (t : Ty) (y : t.den) (bs : List Nat) (cs : List Value), ((Ty.as? ty t x).map fun y => (y, ([] : List Nat))) = some (y, bs) → Rd cx.P ty false ρ w (cx.I ρ s) x cs →
      ∀ (bs' : List Nat), Rd cx.P t false ρ w (cx.I ρ ⟨s.sl, Sx.dropAll s.hp bs', s.ok⟩) y cs := by
    intro ty x t y bs cs h hr bs'
    obtain ⟨z, hz, he⟩ := Option.map_eq_some_iff.1 h
    obtain ⟨rfl, rfl⟩ := Ty.as?_some hz
    obtain ⟨rfl, _⟩ := Prod.mk.inj he
    exact hr.mono (Pres.refl _ _) (grow bs')
  intro ty
  induction ty with
  | pair p q ihp ihq =>
    intro x t y bs cs h hr bs' hb
    cases t with
    | pair a' b' =>
      simp only [meltV] at h
      split at h
      · rename_i y1 l h1
        split at h
        · rename_i z m h2
          obtain ⟨rfl, rfl⟩ := Prod.mk.inj (Option.some.inj h)
          obtain ⟨c1, c2, rfl, r1, r2⟩ := hr
          exact ⟨c1, c2, rfl, ihp h1 r1 (fun b h => hb b (List.mem_append.2 (.inl h))), ihq h2 r2 (fun b h => hb b (List.mem_append.2 (.inr h)))⟩
        · cases h
      · cases h
    | _ => cases h
  | own =>
    intro x t y bs cs h hr bs' hb
    cases t with
    | slice e =>
      simp only [meltV] at h
      split at h
      · rename_i e' l tid hk
        split at h
        · rename_i hnp
          obtain ⟨z, hz, he⟩ := Option.map_eq_some_iff.1 h
          obtain ⟨he', rfl⟩ := Ty.as?_some hz
          cases he'
          obtain ⟨rfl, rfl⟩ := Prod.mk.inj he
          have hr : cs = [ρ x] := hr
          subst hr
          obtain ⟨cc, h1, h2⟩ := row_reads hM x (Nat.le_of_ble_eq_true hnp) hk
          have h1 : ρ x = cc.headD undef := h1
          have hl : cc.length = 1 := h2.length
          obtain ⟨v, rfl⟩ : ∃ v, cc = [v] := by
            match cc, hl with
            | [v], _ => exact ⟨v, rfl⟩
          rw [h1]
          refine h2.mono (Pres.refl _ _) fun r _ hi => I_less (fun c k hk => ⟨k, ?_⟩) hi
          obtain ⟨g1, g2⟩ := dropAll_some hk
          have hne : c ≠ x := fun e => g2 (e ▸ hb x (List.mem_singleton.2 rfl))
          show upd s.hp x none c = some k
          rw [upd_ne _ _ hne]
          exact g1
        · cases h
      · cases h
    | _ => cases h
  | nil =>
    intro x t y bs cs h hr bs' hb
    cases t with
    | slice e =>
      simp only [meltV] at h
      obtain ⟨rfl, rfl⟩ := Prod.mk.inj (Option.some.inj h)
      have hr : cs = [.slice none 0 0] := hr
      subst hr
      exact ⟨none, 0, rfl, Nat.le_refl _, .inl rfl⟩
    | _ => cases h
  | _ => intro x t y bs cs h hr bs' _; exact base _ x t y bs cs h hr bs'

/-- A field of a block is read in another way. -/
theorem M.reread {F : Nat → Prop} {s : St} {ρ : Nat → Value} (hM : M cx ρ F s a w) {b : Nat} {ty : Ty} {x : ty.den} {off : Nat} {l : Ty} {y : l.den} {v u : TV} (hb : s.hp b = some (.cells ty x)) (hc : comp ty x off l = some y) (hs : setX ty x off l v = some u)
    (hv : ∀ c, Rd cx.P l false ρ w (cx.I ρ s) y c → Rd cx.P v.t false ρ w (cx.I ρ s) v.x c) (hF : ∀ c ∈ v.t.refs v.x, F c) : M cx ρ F ⟨s.sl, upd s.hp b (some (.cells u.t u.x)), s.ok⟩ a w := by
  refine M.set hM s.ok hb rfl (Tp.refl _) rfl rfl (fun _ _ => rfl) ?_ (fun c hc' => ?_) rfl
  · obtain ⟨r, tid, cur, h1, h2, h3⟩ := hM.blks b _ hb
    exact ⟨r, tid, cur, h1, h2, setX_same h3 hc hs hv⟩
  · rcases setX_refs hs c hc' with h | h
    · exact (hM.brefs b _ hb).2 c h
    · exact hF c h

theorem cmd_sound {q : Cmd} {nx : Nat} (hM : M cx ρ (fun b => b < nx) s a w) (hok : (runCmd cx.n cx.np q nx s).2.ok) : ∃ ρ', M cx ρ' (fun b => b < (runCmd cx.n cx.np q nx s).1) (runCmd cx.n cx.np q nx s).2 a w := by
  have lt_of : ∀ {b : Nat}, b < nx ∨ b = nx → b < nx + 1 := fun h => by rcases h with h | h <;> omega
  cases q with
  | own d e tid =>
    simp only [runCmd] at hok ⊢
    split at hok
    · rename_i hd
      have hv : a.tmps.getD d undef = .slice none 0 0 := by have := hM.slots d; rw [hd] at this; exact this
      have hnew := M.new (k := .row e [] tid) (v := .slice none 0 0) hM (Nat.lt_irrefl _) s.ok (Below.refl _ _) (fun r hr => by cases hr) rfl ⟨[], World.rowOf_of (World.ownsRow_nil _ _ _ _), rfl, [], rfl, rfl, fun i x c hx => by cases hx⟩ (fun b hb => by cases hb)
      have hput := M.put hnew (some d) (av := .val .own nx) (v := .slice none 0 0) ⟨[.slice none 0 0], rfl, by show _ = [upd ρ nx _ nx]; rw [upd_same]⟩ (fun b hb => .inr (List.mem_singleton.1 hb)) s.ok
      rw [← hv, put_self hM.tsize] at hput
      exact ⟨_, hput.widen fun b hb => lt_of hb⟩
    · exact ⟨ρ, hM⟩
    · exact hok.elim
  | deep d e =>
    simp only [runCmd] at hok ⊢
    split at hok
    · rename_i hd
      have hv : a.tmps.getD d undef = .slice none 0 0 := by have := hM.slots d; rw [hd] at this; exact this
      have hput := M.put hM (some d) (av := .val (.slice e) []) (v := .slice none 0 0) ⟨[.slice none 0 0], rfl, none, 0, rfl, Nat.le_refl _, .inl rfl⟩ (fun b hb => by cases hb) s.ok
      rw [← hv, put_self hM.tsize] at hput
      exact ⟨_, hput⟩
    · rename_i b hd
      split at hok
      · rename_i e l tid hb
        split at hok
        · rename_i hnp
          have hv : a.tmps.getD d undef = ρ b := by have := hM.slots d; rw [hd] at this; exact RV_own this
          exact freeze_sound hM b (Nat.le_of_ble_eq_true hnp) hd hb hv
        · exact hok.elim
      · exact hok.elim
    · exact hok.elim
  | freeze d =>
    simp only [runCmd] at hok ⊢
    split at hok
    · rename_i b hd
      split at hok
      · rename_i e l tid hb
        split at hok
        · rename_i hnp
          have hv : a.tmps.getD d undef = ρ b := by have := hM.slots d; rw [hd] at this; exact RV_own this
          exact freeze_sound hM b (Nat.le_of_ble_eq_true hnp) hd hb hv
        · exact hok.elim
      · exact hok.elim
    · exact hok.elim
  | ownF b off e tid =>
    simp only [runCmd] at hok ⊢
    split at hok
    · rename_i ty x hb
      split at hok
      · rename_i y u hc hs
        have hlt : b < nx := (hM.brefs b _ hb).1
        have hnew := M.new (k := .row e [] tid) (v := .slice none 0 0) hM (Nat.lt_irrefl _) s.ok (Below.refl _ _) (fun r hr => by cases hr) rfl ⟨[], World.rowOf_of (World.ownsRow_nil _ _ _ _), rfl, [], rfl, rfl, fun i x c hx => by cases hx⟩ (fun b hb => by cases hb)
        have hb' : upd s.hp nx (some (.row e [] tid)) b = some (.cells ty x) := by rw [upd_ne _ _ (by omega)]; exact hb
        have h2 := M.reread (v := ⟨.own, nx⟩) hnew hb' hc hs (fun c hcc => by
          have hcc : c = [.slice none 0 0] := hcc
          subst hcc
          show _ = [upd ρ nx _ nx]
          rw [upd_same]) (fun c hc' => .inr (List.mem_singleton.1 hc'))
        exact ⟨_, h2.widen fun b hb => lt_of hb⟩
      · exact hok.elim
    · exact hok.elim
  | deepF b off e =>
    simp only [runCmd] at hok ⊢
    split at hok
    · rename_i ty x hb
      split at hok
      · rename_i y u hc hs
        exact ⟨ρ, M.reread (v := ⟨.slice e, ([] : List e.den)⟩) hM hb hc hs (fun c hcc => by
          have hcc : c = [.slice none 0 0] := hcc
          subst hcc
          exact ⟨none, 0, rfl, Nat.le_refl _, .inl rfl⟩) (fun c hc' => by cases hc')⟩
      · exact hok.elim
    · exact hok.elim
  | frzF b off =>
    simp only [runCmd] at hok ⊢
    split at hok
    · rename_i ty x hb
      split at hok
      · rename_i b' hc
        split at hok
        · rename_i e l tid hb'
          split at hok
          · rename_i u hnp hs
            have hne : b ≠ b' := fun h => by rw [h, hb'] at hb; cases hb
            have hbb : upd s.hp b' none b = some (.cells ty x) := by rw [upd_ne _ _ hne]; exact hb
            have hr := row_reads hM b' (Nat.le_of_ble_eq_true hnp) hb'
            refine ⟨ρ, M.reread (v := ⟨.slice e, l⟩) (M.drop hM b' s.ok) hbb hc hs (fun c hcc => ?_) (fun c hc' => by cases hc')⟩
            have hcc : c = [ρ b'] := hcc
            subst hcc
            obtain ⟨cc, h1, h2⟩ := hr
            have h1 : ρ b' = cc.headD undef := h1
            have hl : cc.length = 1 := h2.length
            obtain ⟨v, rfl⟩ : ∃ v, cc = [v] := by
              match cc, hl with
              | [v], _ => exact ⟨v, rfl⟩
            rw [h1]
            exact h2
          · exact hok.elim
        · exact hok.elim
      · exact hok.elim
    · exact hok.elim
  | melt d t =>
    simp only [runCmd] at hok ⊢
    split at hok
    · rename_i ty x hd
      split at hok
      · rename_i y bs hm
        split at hok
        · rename_i hdeep
          have hv := hM.slots d
          rw [hd] at hv
          obtain ⟨cs, hv, hr⟩ := hv
          have hr2 := melt_sound hM hm hr (bs' := bs) (fun b h => h)
          have hput := M.put (M.dropAll (bs := bs) hM) (some d) (av := .val t y) (v := a.tmps.getD d undef) ⟨cs, by rw [hv]; unfold mkV; rw [melt_agg hm], hr2⟩ (fun b hb => by
            have hb : b ∈ t.refs y := hb
            rw [Ty.deep_refs hdeep] at hb; cases hb) s.ok
          rw [put_self hM.tsize] at hput
          exact ⟨ρ, hput⟩
        · exact hok.elim
      · exact hok.elim
    · exact hok.elim

theorem cmds_mono {n np : Nat} : ∀ {qs : List Cmd} {nx : Nat} {s : St}, (runCmds n np qs nx s).2.ok → s.ok := by
  intro qs
  induction qs with
  | nil => intro nx s h; exact h
  | cons q qs ih => intro nx s h; exact cmd_mono (ih h)

theorem cmds_sound : ∀ {qs : List Cmd} {nx : Nat} {s : St} {ρ : Nat → Value}, M cx ρ (fun b => b < nx) s a w → (runCmds cx.n cx.np qs nx s).2.ok →
    ∃ ρ', M cx ρ' (fun b => b < (runCmds cx.n cx.np qs nx s).1) (runCmds cx.n cx.np qs nx s).2 a w := by
  intro qs
  induction qs with
  | nil => intro nx s ρ hM _; exact ⟨ρ, hM⟩
  | cons q qs ih =>
    intro nx s ρ hM hok
    obtain ⟨ρ', hM'⟩ := cmd_sound hM (cmds_mono (qs := qs) hok)
    exact ih hM' hok
end

/-- Do the written names stay below n, and are they apart? -/
def pinB (g : List (Nat × Nat)) (n : Nat) : Nat → Bool
  | 0 => true
  | j + 1 => (Nat.beq (ren g j) j && Nat.blt j n) && pinB g n j
theorem pinB_sound {g : List (Nat × Nat)} {n : Nat} : ∀ {m : Nat}, pinB g n m = true → ∀ j, j < m → ren g j = j ∧ j < n := by
  intro m
  induction m with
  | zero => intro _ j hj; omega
  | succ m ih =>
    intro h j hj
    simp only [pinB, Bool.and_eq_true] at h
    by_cases e : j = m
    · subst e; exact ⟨Nat.eq_of_beq_eq_true h.1.1, blt_true h.1.2⟩
    · exact ih h.2 j (by omega)
def SL.okB (s : SL) (g : List (Nat × Nat)) (n : Nat) (pin : Nat) : Bool :=
  (pinB g n pin && (s.hp.all fun x => !(Nat.blt (ren g x.1) pin) || Nat.blt x.1 pin)) && (s.sl.all fun x => x.2.refs.all (Nat.blt · n)) && ((s.hp.all fun x => Nat.blt x.1 n && x.2.refs.all (Nat.blt · n)) &&
    (s.hp.all fun x => s.hp.all fun y => Nat.beq x.1 y.1 || !(Nat.beq (ren g x.1) (ren g y.1))))

/-- The state s shows what is written. -/
def Shows (g : List (Nat × Nat)) (pre : SL) (s : St) : Prop :=
  pre.sl.map (fun x => x.2.ren (ren g)) = pre.sl.map (fun x => s.sl x.1) ∧ pre.hp.map (fun x => some (x.2.ren (ren g))) = pre.hp.map (fun x => s.hp (ren g x.1))

theorem M.shown {cx : Cx} {ρ : Nat → Value} {F : Nat → Prop} {s : St} {a : Act} {w : World} (h : M cx ρ F s a w) {g : List (Nat × Nat)} {pre : SL} {n : Nat} {pin : Nat} (hs : Shows g pre s) (hb : pre.okB g n pin = true) (hE : cx.np = pin) :
    M cx (fun b => ρ (ren g b)) (fun b => b < n) pre.st a w := by
  simp only [SL.okB, Bool.and_eq_true] at hb
  obtain ⟨⟨h0, h1⟩, h2, h3⟩ := hb
  refine M.rename h (ren g) (s' := pre.st) ?_ ?_ ?_ ?_ ?_ ?_ ?_
  · intro d
    show lookS pre.sl d = .undef ∨ (lookS pre.sl d).ren (ren g) = s.sl d
    unfold lookS
    cases hf : find pre.sl d with
    | none => exact .inl rfl
    | some v => exact .inr (find_of_map (g := fun x : Nat × AV => x.2.ren (ren g)) (h := s.sl) hs.1 hf)
  · intro b k hk
    have := find_of_map (g := fun x : Nat × Blk => some (x.2.ren (ren g))) (h := fun b => s.hp (ren g b)) hs.2 hk
    exact this.symm
  · intro b b' k k' hk hk' he
    have m1 := find_mem hk
    have m2 := find_mem hk'
    have := List.all_eq_true.1 (List.all_eq_true.1 h3 _ m1) _ m2
    simp only [Bool.or_eq_true, Bool.not_eq_true'] at this
    rcases this with h | h
    · exact Nat.eq_of_beq_eq_true h
    · rw [he] at h
      simp at h
  · intro d b hb
    change b ∈ (lookS pre.sl d).refs at hb
    unfold lookS at hb
    split at hb
    · rename_i v hf
      have := List.all_eq_true.1 (List.all_eq_true.1 h1 _ (find_mem hf)) b hb
      exact blt_true this
    · cases hb
  · intro b k hk
    have := List.all_eq_true.1 h2 _ (find_mem hk)
    simp only [Bool.and_eq_true] at this
    exact ⟨blt_true this.1, fun c hc => blt_true (List.all_eq_true.1 this.2 c hc)⟩
  · intro j hj
    exact pinB_sound h0.1 j (hE ▸ hj)
  · intro b k hk hlt
    have := List.all_eq_true.1 h0.2 _ (find_mem hk)
    simp only [Bool.or_eq_true, Bool.not_eq_true'] at this
    rcases this with h | h
    · exact absurd (hE ▸ hlt) (blt_false h)
    · rw [hE]; exact blt_true h
end Go.Sx
