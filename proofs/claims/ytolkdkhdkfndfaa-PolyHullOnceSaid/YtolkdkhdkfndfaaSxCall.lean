/-
  Calls: what a function's contract says, and that a call by contract is what the machine does.
-/
import Derived.Test.YtolkdkhdkfndfaaSxRen
namespace Go.Sx

def Ty.flat : Ty → Bool
  | .int _ => true
  | .bool => true
  | .unit => true
  | .pair a b => a.flat && b.flat
  | .arr _ e => e.flat
  | _ => false

theorem Rd.flat {P : Program} : ∀ {t : Ty} {ρ ρ' : Nat → Value} {w w' : World} {I I' : Nat → Prop} {x : t.den} {c : List Value}, t.flat = true → Rd P t false ρ w I x c → Rd P t false ρ' w' I' x c := by
  intro t
  induction t with
  | pair a b iha ihb =>
    intro ρ ρ' w w' I I' x c hf h
    simp only [Ty.flat, Bool.and_eq_true] at hf
    obtain ⟨c1, c2, rfl, h1, h2⟩ := h
    exact ⟨c1, c2, rfl, iha hf.1 h1, ihb hf.2 h2⟩
  | arr n e ih =>
    intro ρ ρ' w w' I I' x c hf h
    obtain ⟨hl, css, rfl, hn, hi⟩ := h
    exact ⟨hl, css, rfl, hn, fun i x c hx hc => ih hf (hi i x c hx hc)⟩
  | int k => intro ρ ρ' w w' I I' x c hf h; exact h
  | bool => intro ρ ρ' w w' I I' x c hf h; exact h
  | unit => intro ρ ρ' w w' I I' x c hf h; exact h
  | _ => intro ρ ρ' w w' I I' x c hf h; simp [Ty.flat] at hf

def RT.same : RT → RT → Bool
  | .dp t, .dp t' => t.same t'
  | .ow e tid, .ow e' tid' => e.same e' && Nat.beq tid tid'
  | .dn e, .dn e' => e.same e'
  | _, _ => false
theorem RT.same_eq {a b : RT} (h : a.same b = true) : a = b := by
  cases a <;> cases b <;> simp [RT.same] at h
  · rw [Ty.same_eq h]
  · rw [Ty.same_eq h.1, h.2]
  · rw [Ty.same_eq h]
def Rs.same : Rs → Rs → Bool
  | .none, .none => true
  | .one r, .one r' => r.same r'
  | .more r rs, .more r' rs' => r.same r' && rs.same rs'
  | _, _ => false
theorem Rs.same_eq : ∀ {a b : Rs}, a.same b = true → a = b := by
  intro a
  induction a with
  | none => intro b h; cases b <;> simp [Rs.same] at h; rfl
  | one r => intro b h; cases b <;> simp [Rs.same] at h; rw [RT.same_eq h]
  | more r rs ih => intro b h; cases b <;> simp [Rs.same] at h; rw [RT.same_eq h.1, ih h.2]

def RT.flat : RT → Bool
  | .dp t => t.flat
  | .ow e _ => e.flat
  | .dn _ => false
def Rs.flat : Rs → Bool
  | .none => true
  | .one r => r.flat
  | .more r rs => r.flat && rs.flat
def RT.deep : RT → Bool
  | .dp t => t.deep
  | .ow _ _ => true
  | .dn e => (Ty.slice e).deep
def Rs.deep : Rs → Bool
  | .none => true
  | .one r => r.deep
  | .more r rs => r.deep && rs.deep
def RT.ows : RT → Nat
  | .dp _ => 0
  | .ow _ _ => 1
  | .dn _ => 0
def Rs.ows : Rs → Nat
  | .none => 0
  | .one r => r.ows
  | .more r rs => r.ows + rs.ows

/-- A result of a call that began in w: X are the blocks of the rows that the caller gets as its own. -/
def RT.ok (P : Program) (w w' : World) (ok X : Nat → Prop) : (r : RT) → r.den → Value → Prop
  | .dp t, y, v => RdV P t ρ0 w' (fun b => (ok b ∨ w.heap.size ≤ b) ∧ ¬ X b) y v
  | .ow e tid, (l : List e.den), v => (∃ xs, World.rowOf w' w.heap.size tid e.size v l.length xs ∧ Rd P (.arr l.length e) false ρ0 w' (fun b => (ok b ∨ w.heap.size ≤ b) ∧ ¬ X b) l xs) ∧
      (∀ b, real v = some b → X b) ∧ v.oneCell' = true
  | .dn e, (l : List e.den), v => RdV P (.slice e) ρ0 w' (fun b => (ok b ∨ w.heap.size ≤ b) ∧ ¬ X b) l v ∧ (l = [] → v = .slice none 0 0)
def Rs.vals (P : Program) (w w' : World) (ok X : Nat → Prop) : (rs : Rs) → rs.den → List Value → Prop
  | .none, _, vs => vs = []
  | .one r, y, vs => ∃ v, vs = [v] ∧ r.ok P w w' ok X y v
  | .more r rs, y, vs => ∃ v vs', vs = v :: vs' ∧ r.ok P w w' ok X y.1 v ∧ rs.vals P w w' ok X y.2 vs'
def Rs.ok (P : Program) (w w' : World) (ok X : Nat → Prop) : (rs : Rs) → rs.den → Value → Prop
  | .one r, y, v => r.ok P w w' ok X y v
  | rs, y, v => ∃ vs : List Value, v = .tuple vs.toArray ∧ rs.vals P w w' ok X y vs

def ResOk (P : Program) (w w' : World) (ok : Nat → Prop) (rs : Rs) (y : rs.den) (v : Value) : Prop := ∃ X : Nat → Prop, (∀ b, X b → w.heap.size ≤ b) ∧ rs.ok P w w' ok X y v

/-- Of the blocks below the size all but r stand as they did. -/
structure BelowX (r : Nat) (w w' : World) : Prop where
  os : w'.os = w.os
  tape : Tp w w'
  output : w'.output = w.output
  size : w.heap.size ≤ w'.heap.size
  block : ∀ q, q < w.heap.size → q ≠ r → w'.heap[q]? = w.heap[q]?

def FnOkD (P : Program) (f : FuncId) (ps : Ty) (rs : Rs) (g : ps.den → Option rs.den) : Prop :=
  ∀ (w : World) (ok : Nat → Prop) (x : ps.den) (y : rs.den) (args : List Value), (∀ b, ok b → b < w.heap.size) → Rd P ps true ρ0 w ok x args → g x = some y →
    InvOk P f args.toArray w fun v w' => ResOk P w w' ok rs y v ∧ Below w.heap.size w w'

/-- The result of a call that writes block r. -/
def ResW (P : Program) (r : Nat) (w w' : World) (ok : Nat → Prop) (t : Ty) (x' : t.den) (rs : Rs) (y : rs.den) (v : Value) : Prop :=
  ∃ X : Nat → Prop, (∃ cur tid, w'.heap[r]? = some (.cells cur tid (0, 0)) ∧ Rd P t false ρ0 w' (fun b => (ok b ∨ w.heap.size ≤ b) ∧ ¬ X b) x' cur.toList) ∧ rs.ok P w w' ok X y v

def FnOkW (P : Program) (f : FuncId) : (ps : Ty) → (rs : Rs) → (ps.den → Option rs.den) → Prop
  | .pair (.ref t) ps, .more (.dp t') rs, g =>
    ∀ (w : World) (ok : Nat → Prop) (r : Nat) (tid : TypeId) (cur : Array Value) (x : t.den) (z : ps.den) (x' : t'.den) (y : rs.den) (args : List Value), (∀ b, ok b → b < w.heap.size ∧ b ≠ r) → w.heap[r]? = some (.cells cur tid (0, 0)) →
      Rd P t false ρ0 w ok x cur.toList → Rd P ps true ρ0 w ok z args → g (x, z) = some (x', y) →
      InvOk P f (.pointer (some ⟨r, 0, none⟩) :: args).toArray w fun v w' => ResW P r w w' ok t' x' rs y v ∧ BelowX r w w'
  | _, _, _ => False

/-- What a function's contract says. -/
def FnOk (P : Program) (f : FuncId) (sp : Spec) : Prop := match sp.wr with
  | false => FnOkD P f sp.ps sp.rs sp.f
  | true => FnOkW P f sp.ps sp.rs sp.f

/-- Of the blocks below the size all but those of S stand as they did. -/
structure BelowS (S : Nat → Prop) (w w' : World) : Prop where
  os : w'.os = w.os
  tape : Tp w w'
  output : w'.output = w.output
  size : w.heap.size ≤ w'.heap.size
  block : ∀ q, q < w.heap.size → ¬ S q → w'.heap[q]? = w.heap[q]?

def ArgsFit (P : Program) (ρ : Nat → Value) (w : World) (ok : Nat → Prop) : List HArg → List Value → Prop
  | [], vs => vs = []
  | .lent av :: l, vs => ∃ v vs', vs = v :: vs' ∧ RV P ρ w ok av v ∧ ArgsFit P ρ w ok l vs'
  | .dat t x :: l, vs => ∃ v vs', vs = v :: vs' ∧ RdV P t ρ0 w ok x v ∧ ArgsFit P ρ w ok l vs'

/-- The keys are the numbers from i to n. -/
def keysB (n : Nat) : Nat → List (Nat × Blk) → Bool
  | i, [] => Nat.beq i n
  | i, b :: l => Nat.beq b.1 i && keysB n (i + 1) l
def refsB (n : Nat) (l : List (Nat × Blk)) : Bool := l.all fun b => b.2.refs.all (Nat.blt · n)
def HArg.okB (n : Nat) : HArg → Bool
  | .lent av => av.refs.all (Nat.blt · n)
  | .dat t _ => t.deep
def HSp.okB (h : HSp) (x : h.xs.den) : Bool := keysB h.np 0 (h.pre x) && (refsB h.np (h.pre x) && (h.args x).all (HArg.okB h.np))
def HSp.postB (h : HSp) (x : h.xs.den) (y : h.ys.den) : Bool := keysB h.np 0 (h.fin x y) && (refsB h.np (h.fin x y) && (h.rs.deep && Nat.beq h.rs.ows 0))

theorem keysB_find {n : Nat} : ∀ {l : List (Nat × Blk)} {i : Nat}, keysB n i l = true → ∀ j, (find l j ≠ none ↔ i ≤ j ∧ j < n) := by
  intro l
  induction l with
  | nil =>
    intro i h j
    have h := Nat.eq_of_beq_eq_true (show Nat.beq i n = true from h)
    subst h
    exact ⟨fun h => absurd rfl h, fun h => absurd h.2 (Nat.not_lt.2 h.1)⟩
  | cons b l ih =>
    intro i h j
    simp only [keysB, Bool.and_eq_true] at h
    have hb := Nat.eq_of_beq_eq_true h.1
    have key := ih h.2 j
    unfold find
    split
    · rename_i hk
      have hk := Nat.eq_of_beq_eq_true hk
      refine ⟨fun _ => ⟨by omega, ?_⟩, fun _ => by simp⟩
      have : ∀ (l : List (Nat × Blk)) (i : Nat), keysB n i l = true → i ≤ n := by
        intro l
        induction l with
        | nil => intro i h; exact Nat.le_of_eq (Nat.eq_of_beq_eq_true h)
        | cons c l ih =>
          intro i h
          simp only [keysB, Bool.and_eq_true] at h
          have := ih _ h.2
          omega
      have := this _ _ h.2
      omega
    · rename_i hk
      have hne : b.1 ≠ j := fun e => by rw [e] at hk; simp at hk
      rw [key]
      omega
theorem keysB_some {n : Nat} {l : List (Nat × Blk)} (h : keysB n 0 l = true) {j : Nat} (hj : j < n) : ∃ k, find l j = some k := by
  cases hf : find l j with
  | none => exact absurd hf ((keysB_find h j).2 ⟨Nat.zero_le _, hj⟩)
  | some k => exact ⟨k, rfl⟩
theorem keysB_lt {n : Nat} {l : List (Nat × Blk)} (h : keysB n 0 l = true) {j : Nat} {k : Blk} (hf : find l j = some k) : j < n := ((keysB_find h j).1 (by rw [hf]; simp)).2

/-- What the contract of a function that is lent blocks says. -/
def HOk0 (P : Program) (f : FuncId) (h : HSp) : Prop :=
  ∀ (w : World) (ok : Nat → Prop) (ρ : Nat → Value) (x : h.xs.den) (y : h.ys.den) (args : List Value),
    (∀ b, ok b → b < w.heap.size ∧ ∀ j, j < h.np → real (ρ j) ≠ some b) → (∀ i j r, i < h.np → j < h.np → real (ρ i) = some r → real (ρ j) = some r → i = j) → (∀ j, (ρ j).oneCell' = true) →
    (∀ j k, find (h.pre x) j = some k → RB P ρ w ok (ρ j) k) → ArgsFit P ρ w ok (h.args x) args → h.okB x = true → h.postB x y = true → h.g x = some y →
    InvOk P f args.toArray w fun v w' => ∃ X : Nat → Prop, (∀ j k, find (h.fin x y) j = some k → RB P ρ w' (fun q => (ok q ∨ w.heap.size ≤ q) ∧ ¬ X q) (ρ j) k) ∧ h.rs.ok P w w' ok X (h.res y) v ∧
      BelowS (fun q => ∃ j, j < h.np ∧ real (ρ j) = some q) w w'

/-- What the contract of a function says that is given a row for good, and hands back a row. -/
def GOk (P : Program) (f : FuncId) (h : HSp) : Prop :=
  ∀ (w : World) (ok : Nat → Prop) (ρ : Nat → Value) (x : h.xs.den) (y : h.ys.den) (args : List Value),
    (∀ b, ok b → b < w.heap.size ∧ real (ρ 0) ≠ some b) → (∀ j, (ρ j).oneCell' = true) →
    (∀ k, find (h.pre x) 0 = some k → RB P ρ w ok (ρ 0) k) → ArgsFit P ρ w ok (h.args x) args → h.okB x = true → h.g x = some y →
    InvOk P f args.toArray w fun v w' => ∀ (e : Ty) (l' : List e.den) (tid : TypeId), find (h.post x y) 0 = some (.row e l' tid) → (∃ xs', World.rowOf w' 0 tid e.size v l'.length xs' ∧ Rd P (.arr l'.length e) false ρ0 w' (fun _ => True) l' xs') ∧
      v.oneCell' = true ∧ (∀ r, real v = some r → real (ρ 0) = some r ∨ (w.heap.size ≤ r ∧ r < w'.heap.size)) ∧ BelowS (fun q => real (ρ 0) = some q) w w'
def HOk (P : Program) (f : FuncId) (h : HSp) : Prop := match h.gv with
  | false => HOk0 P f h
  | true => GOk P f h

def Rs.asOne {D : Type} : (rs : Rs) → (D → Option rs.den) → (r : Ty) → Option (D → Option r.den)
  | .one (.dp r'), f, r => if h : r'.same r = true then some (Ty.same_eq h ▸ (f : D → Option r'.den)) else Option.none
  | _, _, _ => Option.none
def Spec.one (sp : Spec) (r : Ty) : Option (sp.ps.den → Option r.den) := match sp.wr with
  | false => sp.rs.asOne sp.f r
  | true => Option.none

def Rs.asTwo {D : Type} : (rs : Rs) → (D → Option rs.den) → (a b : Ty) → Option (D → Option (a.den × b.den))
  | .more (.dp a') (.one (.dp b')), f, a, b => if h : a'.same a = true ∧ b'.same b = true then some (Ty.same_eq h.1 ▸ Ty.same_eq h.2 ▸ (f : D → Option (a'.den × b'.den))) else Option.none
  | _, _, _, _ => Option.none
def Spec.two (sp : Spec) (a b : Ty) : Option (sp.ps.den → Option (a.den × b.den)) := match sp.wr with
  | false => sp.rs.asTwo sp.f a b
  | true => Option.none

theorem flatten_one {α β : Type} (f : α → β) (l : List α) : (l.map fun x => [f x]).flatten = l.map f := by
  induction l with
  | nil => rfl
  | cons x l ih => simp only [List.map_cons, List.flatten_cons, ih]; rfl

theorem rd_ints {P : Program} {ρ : Nat → Value} {w : World} {I : Nat → Prop} {n : Nat} {k : IntKind} {l : List Int} {cs : List Value} (h : Rd P (.arr n (.int k)) false ρ w I l cs) : cs = l.map (Value.int k) ∧ l.length = n := by
  obtain ⟨hl, css, rfl, hn, hi⟩ := h
  refine ⟨?_, hl⟩
  have hl : l.length = n := hl
  have : css = l.map fun x => [Value.int k x] := by
    apply List.ext_getElem?
    intro i
    rw [List.getElem?_map]
    by_cases h : i < n
    · have h1 : i < l.length := by omega
      have h2 : i < css.length := by omega
      rw [List.getElem?_eq_getElem h1, List.getElem?_eq_getElem h2]
      have := hi i l[i] css[i] (List.getElem?_eq_getElem h1) (List.getElem?_eq_getElem h2)
      have this : css[i] = [Value.int k l[i]] := this
      rw [this]
      rfl
    · rw [List.getElem?_eq_none (by omega), List.getElem?_eq_none (by omega)]
      rfl
  rw [this, flatten_one]

structure Split (ps full : Ty) where
  rest : Ty
  g : ps.den → rest.den → full.den

def splitPs : (ps full : Ty) → Option (Split ps full)
  | .unit, full => some ⟨full, fun _ r => r⟩
  | .pair a b, .pair a' b' => match splitPs b b' with
    | some sp => if h : a.same a' = true then some ⟨sp.rest, fun x r => (Ty.same_eq h ▸ x.1, sp.g x.2 r)⟩ else none
    | none => none
  | _, _ => none

/-- What a pointer to a whole block's part shows. -/
def derefP (hp : Nat → Option Blk) (p : Ptr) (t : Ty) : Option t.den :=
  match hp p.b with
  | some (.cells ty x) => match Nat.beq p.es 0 && t.deep with
    | true => comp ty x (p.off + p.inner) t
    | false => none
  | _ => none

def decCaps (hp : Nat → Option Blk) : (rest : Ty) → List Ptr → Option rest.den
  | .unit, [] => some ()
  | .pair (.ref t) rest, p :: ps => match derefP hp p t, decCaps hp rest ps with
    | some x, some y => some (x, y)
    | _, _ => none
  | _, _ => none

def decFn (c : Ctx) (hp : Nat → Option Blk) (g : FuncId × List Ptr) (ps r : Ty) : Option (ps.den → Option r.den) :=
  match find c.fns g.1 with
  | some sp => match sp.one r, splitPs ps sp.ps with
    | some f, some sl => match decCaps hp sl.rest g.2 with
      | some z => some fun x => f (sl.g x z)
      | none => none
    | _, _ => none
  | none => none

def decFn2 (c : Ctx) (hp : Nat → Option Blk) (g : FuncId × List Ptr) (ps a b : Ty) : Option (ps.den → Option (a.den × b.den)) :=
  match find c.fns g.1 with
  | some sp => match sp.two a b, splitPs ps sp.ps with
    | some f, some sl => match decCaps hp sl.rest g.2 with
      | some z => some fun x => f (sl.g x z)
      | none => none
    | _, _ => none
  | none => none

def decOwn (hp : Nat → Option Blk) (b : Nat) : (t : Ty) → Option t.den
  | .slice e => match hp b with
    | some (.row e' l _) => Ty.as? (.slice e') (.slice e) l
    | _ => none
  | _ => none
def decPtr (hp : Nat → Option Blk) (p : Ptr) : (t : Ty) → Option t.den
  | .ref t' => derefP hp p t'
  | _ => none
def decClo (c : Ctx) (hp : Nat → Option Blk) (g : FuncId × List Ptr) : (t : Ty) → Option t.den
  | .fn ps r => decFn c hp g ps r
  | .fn2 ps a b => decFn2 c hp g ps a b
  | _ => none
def decWin (hp : Nat → Option Blk) (b lo n : Nat) : (t : Ty) → Option t.den
  | .slice (.int k) => match hp b with
    | some (.cells (.arr N (.int k')) l) => match decide (k = k') && Nat.ble (lo + n) N with
      | true => some ((l : List Int).drop lo |>.take n)
      | false => none
    | _ => none
  | _ => none
def decArg (c : Ctx) (hp : Nat → Option Blk) (t : Ty) (av : AV) : Option t.den :=
  match av with
  | .win b lo n => decWin hp b lo n t
  | .val .own b => decOwn hp b t
  | .val .ptr p => decPtr hp p t
  | .val .clo g => decClo c hp g t
  | av => match t.deep with
    | true => coe t av
    | false => none

def decArgs (c : Ctx) (hp : Nat → Option Blk) : (ps : Ty) → List AV → Option ps.den
  | .unit, [] => some ()
  | .pair t r, av :: avs => match decArg c hp t av, decArgs c hp r avs with
    | some x, some y => some (x, y)
    | _, _ => none
  | _, _ => none

def AV.lent : AV → Bool
  | .val .own _ => true
  | .val .ptr _ => true
  | .val .clo _ => true
  | .win _ _ _ => true
  | _ => false

def RT.av (nid : Nat) : (r : RT) → r.den → TV
  | .dp t, y => ⟨t, y⟩
  | .ow _ _, _ => ⟨.own, nid⟩
  | .dn e, y => ⟨.slice e, y⟩
def RT.ed (nid : Nat) : (r : RT) → r.den → List (Nat × Option Blk)
  | .dp _, _ => []
  | .ow e tid, l => [(nid, some (.row e l tid))]
  | .dn _, _ => []
def Rs.avs (nid : Nat) : (rs : Rs) → rs.den → List TV
  | .none, _ => []
  | .one r, y => [r.av nid y]
  | .more r rs, y => r.av nid y.1 :: rs.avs nid y.2
def Rs.eds (nid : Nat) : (rs : Rs) → rs.den → List (Nat × Option Blk)
  | .none, _ => []
  | .one r, y => r.ed nid y
  | .more r rs, y => r.ed nid y.1 ++ rs.eds nid y.2
def Rs.av (nid : Nat) : (rs : Rs) → rs.den → AV
  | .one (.dp t), y => .val t y
  | .one (.ow _ _), _ => .val .own nid
  | .one (.dn e), (y : List e.den) => match y with
    | [] => .nil
    | a :: l => .val (.slice e) (a :: l)
  | rs, y => .tup (rs.avs nid y)

def Rs.cast? (a b : Rs) (y : a.den) : Option b.den := if h : a.same b = true then some (Rs.same_eq h ▸ y) else Option.none
theorem Rs.cast?_some {a b : Rs} {y : a.den} {z : b.den} (h : a.cast? b y = some z) : ∃ e : a = b, z = e ▸ y := by
  unfold Rs.cast? at h
  split at h
  · rename_i hs
    exact ⟨Rs.same_eq hs, (Option.some.inj h).symm⟩
  · cases h
def AV.ofPtr (p : Ptr) : AV := .val .ptr p

def pCallBy (c : Ctx) (hp : Nat → Option Blk) (nid : Nat) (sp : Spec) (avs : List AV) (y : sp.rs.den) : Perf :=
  match decArgs c hp sp.ps avs with
  | some x => match sp.rs.deep && Nat.ble sp.rs.ows 1 && (!avs.any AV.lent || sp.rs.flat) with
    | true => ⟨sp.rs.av nid y, sp.rs.eds nid y, some (sp.f x = some y)⟩
    | false => .bad
  | none => .bad

def pCallFn (c : Ctx) (hp : Nat → Option Blk) {ps r : Ty} (g : ps.den → Option r.den) (avs : List AV) (y : r.den) : Perf :=
  match decArgs c hp ps avs with
  | some x => match r.flat with
    | true => ⟨.val r y, [], some (g x = some y)⟩
    | false => .bad
  | none => .bad

def pCallW (c : Ctx) (hp : Nat → Option Blk) (nid : Nat) : (ps : Ty) → (rs : Rs) → (ps.den → Option rs.den) → List AV → rs.den → Perf
  | .pair (.ref t) ps, .more (.dp t') rs, f, .val .ptr p :: avs, y => match hp p.b with
    | some (.cells ty x) => match Ty.as? ty t x, decArgs c (upd hp p.b none) ps avs with
      | some x', some z => match Nat.beq p.co 0 && (t.deep && (t'.deep && (rs.deep && (Nat.beq rs.ows 0 && !avs.any AV.lent)))) with
        | true => ⟨rs.av nid y.2, [(p.b, some (.cells t' y.1))], some (f (x', z) = some y)⟩
        | false => .bad
      | _, _ => .bad
    | _ => .bad
  | _, _, _, _, _ => .bad

def pCallFn2 (c : Ctx) (hp : Nat → Option Blk) {ps a b : Ty} (g : ps.den → Option (a.den × b.den)) (avs : List AV) (y : a.den × b.den) : Perf :=
  match decArgs c hp ps avs with
  | some x => match a.flat && b.flat with
    | true => ⟨.tup [⟨a, y.1⟩, ⟨b, y.2⟩], [], some (g x = some y)⟩
    | false => .bad
  | none => .bad

/-- Is it a function that is lent blocks of the call's own? -/
def wrOp (c : Ctx) : Operand → Bool
  | .func f => match find c.fns f with
    | some sp => sp.wr
    | none => match find c.hs f with
      | some h => !h.ro
      | none => false
  | _ => match c.hs with
    | [] => false
    | _ :: _ => true

def matchArgs (c : Ctx) (hp : Nat → Option Blk) (g : List (Nat × Nat)) : List HArg → List AV → Prop
  | [], [] => True
  | .lent av :: l, v :: m => av.ren (ren g) = v ∧ matchArgs c hp g l m
  | .dat t x :: l, v :: m => decArg c hp t v = some x ∧ matchArgs c hp g l m
  | _, _ => False
def matchBlks (hp : Nat → Option Blk) (g : List (Nat × Nat)) (l : List (Nat × Blk)) : Prop := l.map (fun b => some (b.2.ren (ren g))) = l.map (fun b => hp (ren g b.1))
def injB (g : List (Nat × Nat)) (n : Nat) : Bool := (List.range n).all fun i => (List.range n).all fun j => Nat.beq i j || !(Nat.beq (ren g i) (ren g j))
def datLent : List HArg → List AV → Bool
  | .dat _ _ :: l, v :: m => v.lent || datLent l m
  | .lent _ :: l, _ :: m => datLent l m
  | _, _ => false
/-- Without the blocks that are lent. -/
def lessH (g : List (Nat × Nat)) (n : Nat) (hp : Nat → Option Blk) (b : Nat) : Option Blk := match (List.range n).any fun j => Nat.beq (ren g j) b with
  | true => none
  | false => hp b

def flatB (l : List (Nat × Blk)) : Bool := l.all fun b => match b.2 with
  | .cells t _ => t.flat
  | .row e _ _ => e.flat
def capsB (hp : Nat → Option Blk) (l : List Ptr) : Bool := l.all fun p => match hp p.b with
  | some (.cells _ _) => true
  | _ => false

def hasB (hp : Nat → Option Blk) (g : List (Nat × Nat)) (n : Nat) : Bool := (List.range n).all fun j => match hp (ren g j) with
  | some _ => true
  | none => false

def pCallH (c : Ctx) (hp : Nat → Option Blk) (nid : Nat) (h : HSp) (avs : List AV) (caps : List Ptr) (g : List (Nat × Nat)) (x : h.xs.den) (y : h.ys.den) : Perf :=
  match h.okB x && (h.postB x y && (injB g h.np && ((!(datLent (h.args x) avs) || (h.rs.flat && flatB (h.fin x y))) && (capsB hp caps && hasB hp g h.np)))) with
  | true => ⟨h.rs.av nid (h.res y), (match h.ro with | true => [] | false => (h.post x y).map (fun b => (ren g b.1, some (b.2.ren (ren g))))), some (matchArgs c (lessH g h.np hp) g (h.args x) avs ∧ (matchBlks hp g (h.pre x) ∧ h.g x = some y))⟩
  | false => .bad

/-- A call that is given an own row for good; the row that it hands back is a new block of one's own. -/
def pCallG (c : Ctx) (hp : Nat → Option Blk) (nid : Nat) (h : HSp) (avs : List AV) (caps : List Ptr) (g : List (Nat × Nat)) (x : h.xs.den) (y : h.ys.den) : Perf :=
  match h.pre x, h.post x y with
  | [(b0, .row e _ tid)], [(b1, .row e' l' tid')] => match e.same e' && (Nat.beq tid tid' && (e'.flat && (Nat.beq b0 0 && (Nat.beq b1 0 && (Nat.beq h.np 1 && (!h.ro && (Nat.ble c.pin (ren g 0) && (h.okB x && capsB hp caps)))))))) with
    | true => match hp (ren g 0) with
      | some _ => ⟨.val .own nid, [(ren g 0, none), (nid, some (.row e' l' tid'))], some (matchArgs c (lessH g 1 hp) g (h.args x) avs ∧ (matchBlks hp g (h.pre x) ∧ h.g x = some y))⟩
      | none => .bad
    | false => .bad
  | _, _ => .bad
def pCallHG (c : Ctx) (hp : Nat → Option Blk) (nid : Nat) (h : HSp) (avs : List AV) (caps : List Ptr) (g : List (Nat × Nat)) (x : h.xs.den) (y : h.ys.den) : Perf := match h.gv with
  | false => pCallH c hp nid h avs caps g x y
  | true => pCallG c hp nid h avs caps g x y

def pCallS (c : Ctx) (hp : Nat → Option Blk) (nid : Nat) (wr : Bool) (sp : Spec) (avs : List AV) (y : sp.rs.den) : Perf := match sp.wr, wr with
  | false, _ => pCallBy c hp nid sp avs y
  | true, true => pCallW c hp nid sp.ps sp.rs sp.f avs y
  | true, false => .bad

def pCall (c : Ctx) (hp : Nat → Option Blk) (nid : Nat) (wr : Bool) (callee : AV) (args : List AV) (ans : Ans) : Perf :=
  match ans with
  | .hres g xs x ys y => match callee with
    | .val .clo f => match find c.hs f.1 with
      | some h => match wr || h.ro, Ty.as? xs h.xs x, Ty.as? ys h.ys y with
        | true, some x', some y' => pCallHG c hp nid h (args ++ f.2.map AV.ofPtr) f.2 g x' y'
        | _, _, _ => .bad
      | none => .bad
    | _ => .bad
  | .res rs y => match callee with
    | .val .clo g => match find c.fns g.1 with
      | some sp => match rs.cast? sp.rs y with
        | some z => pCallS c hp nid (wr && g.2.isEmpty) sp (args ++ g.2.map AV.ofPtr) z
        | none => .bad
      | none => .bad
    | .val (.fn ps r) g => match rs.cast? (.one (.dp r)) y with
      | some z => pCallFn c hp (ps := ps) (r := r) g args z
      | none => .bad
    | .val (.fn2 ps a b) g => match rs.cast? (.more (.dp a) (.one (.dp b))) y with
      | some z => pCallFn2 c hp (ps := ps) (a := a) (b := b) g args z
      | none => .bad
    | _ => .bad
  | _ => .bad

section
variable {P : Program} {c : Ctx}

def FnsOk (P : Program) (c : Ctx) : Prop := ∀ f sp, (f, sp) ∈ c.fns → FnOk P f sp
def HsOk (P : Program) (c : Ctx) : Prop := ∀ f h, (f, h) ∈ c.hs → HOk P f h

theorem Spec.one_sound {sp : Spec} {r : Ty} {f : sp.ps.den → Option r.den} (h : sp.one r = some f) : ∃ g : sp.ps.den → Option r.den, sp = ⟨sp.ps, .one (.dp r), g, false⟩ ∧ f = g := by
  obtain ⟨ps, rs, f0, wr⟩ := sp
  cases wr with
  | true => cases rs <;> simp [Spec.one] at h
  | false =>
  cases rs with
  | none => simp [Spec.one, Rs.asOne] at h
  | more r rs => simp [Spec.one, Rs.asOne] at h
  | one r' =>
    cases r' with
    | ow e t => simp [Spec.one, Rs.asOne] at h
    | dn e => simp [Spec.one, Rs.asOne] at h
    | dp r' =>
      simp only [Spec.one, Rs.asOne] at h
      split at h
      · rename_i hs
        obtain rfl := Ty.same_eq hs
        obtain rfl := Option.some.inj h
        exact ⟨f0, rfl, rfl⟩
      · cases h

theorem Spec.two_sound {sp : Spec} {a b : Ty} {f : sp.ps.den → Option (a.den × b.den)} (h : sp.two a b = some f) : ∃ g : sp.ps.den → Option (a.den × b.den), sp = ⟨sp.ps, .more (.dp a) (.one (.dp b)), g, false⟩ ∧ f = g := by
  obtain ⟨ps, rs, f0, wr⟩ := sp
  cases wr with
  | true => cases rs <;> simp [Spec.two] at h
  | false =>
  cases rs with
  | none => simp [Spec.two, Rs.asTwo] at h
  | one r => simp [Spec.two, Rs.asTwo] at h
  | more r rs =>
    cases r with
    | ow e t => simp [Spec.two, Rs.asTwo] at h
    | dn e => simp [Spec.two, Rs.asTwo] at h
    | dp a' =>
      cases rs with
      | none => simp [Spec.two, Rs.asTwo] at h
      | more r rs => simp [Spec.two, Rs.asTwo] at h
      | one r =>
        cases r with
        | ow e t => simp [Spec.two, Rs.asTwo] at h
        | dn e => simp [Spec.two, Rs.asTwo] at h
        | dp b' =>
          simp only [Spec.two, Rs.asTwo] at h
          split at h
          · rename_i hs
            obtain ⟨h1, h2⟩ := hs
            obtain rfl := Ty.same_eq h1
            obtain rfl := Ty.same_eq h2
            obtain rfl := Option.some.inj h
            exact ⟨f0, rfl, rfl⟩
          · cases h

theorem splitPs_sound {w : World} {I : Nat → Prop} : ∀ {ps full : Ty} {sl : Split ps full} {x : ps.den} {z : sl.rest.den} {a b : List Value}, splitPs ps full = some sl → Rd P ps true ρ0 w I x a → Rd P sl.rest true ρ0 w I z b →
    Rd P full true ρ0 w I (sl.g x z) (a ++ b) := by
  intro ps
  induction ps with
  | unit =>
    intro full sl x z a b h hx hz
    simp only [splitPs] at h
    obtain rfl := Option.some.inj h
    have hx : a = [] := hx
    subst hx
    exact hz
  | pair p q _ ihq =>
    intro full sl x z a b h hx hz
    cases full with
    | pair p' q' =>
      simp only [splitPs] at h
      split at h
      · rename_i sp' hsp
        split at h
        · rename_i hs
          obtain rfl := Ty.same_eq hs
          obtain rfl := Option.some.inj h
          obtain ⟨c1, vs, rfl, h1, h2⟩ := hx
          exact ⟨c1, vs ++ b, rfl, h1, ihq hsp h2 hz⟩
        · cases h
      · cases h
    | _ => simp [splitPs] at h
  | _ => intro full sl x z a b h; simp [splitPs] at h

section
variable {cx : Cx} {ρ : Nat → Value} {F : Nat → Prop} {s : St} {a : Act} {w : World}

def All (w : World) (b : Nat) : Prop := b < w.heap.size

theorem M.all (_ : M cx ρ F s a w) : ∀ r, r < w.heap.size → cx.I ρ s r → All w r := fun _ hr _ => hr

theorem deref_sound (hM : M cx ρ F s a w) {hp : Nat → Option Blk} (hhp : ∀ b k, hp b = some k → s.hp b = some k) {p : Ptr} {t : Ty} {x : t.den} (h : derefP hp p t = some x) :
    Rd cx.P (.ref t) false ρ0 w (All w) x [p.val ρ] := by
  unfold derefP at h
  split at h
  · rename_i ty y hk
    split at h
    · rename_i hb
      simp only [Bool.and_eq_true] at hb
      have hg : getP (.cells ty y) p t = (some x, none) := by
        unfold getP
        simp only [hb.1, h]
      obtain ⟨r, tid, cur, pre, cc, post, h1, h2, h3, h4, h5, _⟩ := place_sound (hM.blks p.b _ (hhp _ _ hk)) hg trivial
      have hlt : r < w.heap.size := hM.owned_lt (hhp _ _ hk) h1
      exact ⟨⟨r, pre.length, none⟩, cc, by rw [h2], rfl, hlt, hlt, CellsAt_of_row h3 h4, (h5.rho (fun b hb' => by rw [Ty.deep_refs hb.2] at hb'; cases hb')).mono (Pres.refl _ _) (hM.all)⟩
    · cases h
  · cases h


theorem caps_sound (hM : M cx ρ F s a w) {hp : Nat → Option Blk} (hhp : ∀ b k, hp b = some k → s.hp b = some k) : ∀ {rest : Ty} {ps : List Ptr} {z : rest.den}, decCaps hp rest ps = some z →
    Rd cx.P rest true ρ0 w (All w) z (ps.map (·.val ρ)) := by
  intro rest
  induction rest with
  | unit => intro ps z h; cases ps <;> simp [decCaps] at h; rfl
  | pair p q _ ihq =>
    intro ps z h
    cases p with
    | ref t =>
      cases ps with
      | nil => simp [decCaps] at h
      | cons p ps =>
        simp only [decCaps] at h
        split at h
        · rename_i x y hx hy
          obtain rfl := Option.some.inj h
          exact ⟨[p.val ρ], ps.map (·.val ρ), rfl, deref_sound hM hhp hx, ihq hy⟩
        · cases h
    | _ => simp [decCaps] at h
  | _ => intro ps z h; simp [decCaps] at h

theorem fn_sound (hc : FnsOk cx.P c) (hM : M cx ρ F s a w) {hp : Nat → Option Blk} (hhp : ∀ b k, hp b = some k → s.hp b = some k) {g : FuncId × List Ptr} {ps r : Ty} {x : ps.den → Option r.den}
    (h : decFn c hp g ps r = some x) : Rd cx.P (.fn ps r) false ρ0 w (All w) x [.func (.func g.1) #[] (g.2.map (·.val ρ)).toArray] := by
  unfold decFn at h
  split at h
  · rename_i sp hsp
    split at h
    · rename_i f sl hf hsl
      split at h
      · rename_i z hz
        obtain rfl := Option.some.inj h
        have hfn := hc _ _ (find_mem hsp)
        obtain ⟨f', hspe, rfl⟩ := Spec.one_sound hf
        have hcaps := caps_sound hM hhp hz
        refine ⟨g.1, (g.2.map (·.val ρ)).toArray, rfl, fun w' hw' ok hok x y args hx hy => ?_⟩
        have h1 : Rd cx.P sp.ps true ρ0 w' (fun b => ok b ∨ b < w.heap.size) (sl.g x z) (args ++ g.2.map (·.val ρ)) :=
          splitPs_sound hsl (hx.mono (Pres.refl _ _) fun _ _ h => .inl h) (hcaps.mono hw' fun _ _ h => .inr h)
        rw [hspe] at hfn
        have hfn : FnOkD cx.P g.1 _ _ _ := hfn
        have h3 := hfn w' (fun b => ok b ∨ b < w.heap.size) (sl.g x z) y (args ++ g.2.map (·.val ρ)) (fun b hb => by
          rcases hb with hb | hb
          · exact hok b hb
          · exact Nat.lt_of_lt_of_le hb hw'.1) h1 hy
        have e : args.toArray ++ (g.2.map (·.val ρ)).toArray = (args ++ g.2.map (·.val ρ)).toArray := by simp
        rw [e]
        refine h3.mono fun v w'' hv => ?_
        obtain ⟨⟨X, hX, cc, hv1, hv2⟩, hb⟩ := hv
        refine ⟨⟨cc, hv1, hv2.mono (Pres.refl _ _) fun q _ hq => ?_⟩, hb⟩
        rcases hq.1 with (hq | hq) | hq
        · exact .inl hq
        · exact .inr (.inl ⟨hq, hq⟩)
        · exact .inr (.inr hq)
      · cases h
    · cases h
  · cases h

theorem fn_sound2 (hc : FnsOk cx.P c) (hM : M cx ρ F s a w) {hp : Nat → Option Blk} (hhp : ∀ b k, hp b = some k → s.hp b = some k) {g : FuncId × List Ptr} {ps a' b' : Ty} {x : ps.den → Option (a'.den × b'.den)}
    (h : decFn2 c hp g ps a' b' = some x) : Rd cx.P (.fn2 ps a' b') false ρ0 w (All w) x [.func (.func g.1) #[] (g.2.map (·.val ρ)).toArray] := by
  unfold decFn2 at h
  split at h
  · rename_i sp hsp
    split at h
    · rename_i f sl hf hsl
      split at h
      · rename_i z hz
        obtain rfl := Option.some.inj h
        have hfn := hc _ _ (find_mem hsp)
        obtain ⟨f', hspe, rfl⟩ := Spec.two_sound hf
        have hcaps := caps_sound hM hhp hz
        refine ⟨g.1, (g.2.map (·.val ρ)).toArray, rfl, fun w' hw' ok hok x y args hx hy => ?_⟩
        have h1 : Rd cx.P sp.ps true ρ0 w' (fun b => ok b ∨ b < w.heap.size) (sl.g x z) (args ++ g.2.map (·.val ρ)) :=
          splitPs_sound hsl (hx.mono (Pres.refl _ _) fun _ _ h => .inl h) (hcaps.mono hw' fun _ _ h => .inr h)
        rw [hspe] at hfn
        have hfn : FnOkD cx.P g.1 _ _ _ := hfn
        have h3 := hfn w' (fun b => ok b ∨ b < w.heap.size) (sl.g x z) y (args ++ g.2.map (·.val ρ)) (fun b hb => by
          rcases hb with hb | hb
          · exact hok b hb
          · exact Nat.lt_of_lt_of_le hb hw'.1) h1 hy
        have e : args.toArray ++ (g.2.map (·.val ρ)).toArray = (args ++ g.2.map (·.val ρ)).toArray := by simp
        rw [e]
        refine h3.mono fun v w'' hv => ?_
        obtain ⟨⟨X, hX, hv⟩, hb⟩ := hv
        obtain ⟨vs, rfl, v1, vs1, rfl, ⟨c1, rfl, hv1⟩, v2, rfl, ⟨c2, rfl, hv2⟩⟩ := hv
        have key : ∀ q, q < w''.heap.size → (((ok q ∨ q < w.heap.size) ∨ w'.heap.size ≤ q) ∧ ¬ X q) → (ok q ∨ (All w q ∧ q < w.heap.size) ∨ w'.heap.size ≤ q) := by
          intro q _ hq
          rcases hq.1 with (hq | hq) | hq
          · exact .inl hq
          · exact .inr (.inl ⟨hq, hq⟩)
          · exact .inr (.inr hq)
        exact ⟨⟨c1, c2, rfl, hv1.mono (Pres.refl _ _) key, hv2.mono (Pres.refl _ _) key⟩, hb⟩
      · cases h
    · cases h
  · cases h

/-- The blocks that a call's arguments may lead to. -/
def okSet (cx : Cx) (ρ : Nat → Value) (s : St) (w : World) (lent : Bool) (b : Nat) : Prop := b < w.heap.size ∧ (lent = true ∨ cx.I ρ s b)

theorem mkV_one {t : Ty} {v : Value} (h : t.agg = false) : mkV t [v] = v := by simp [mkV, h]
theorem RdV.lend {P : Program} {t : Ty} {x : t.den} {u v : Value} {lent : Bool} (h : Rd P t false ρ0 w (All w) x [u]) (ha : t.agg = false) (hl : lent = true) (hv : v = u) : RdV P t ρ0 w (okSet cx ρ s w lent) x v :=
  ⟨[u], by rw [mkV_one ha, hv], h.mono (Pres.refl _ _) (fun _ hr _ => ⟨hr, .inl hl⟩)⟩

theorem ptr_lend {P : Program} {p : Ptr} {t' : Ty} {x : t'.den} {v : Value} (lent : Bool) (hl : lent = true) (hvv : v = p.val ρ)
    (h1 : Rd P (.ref t') false ρ0 w (All w) x [p.val ρ]) : RdV P (.ref t') ρ0 w (okSet cx ρ s w lent) x v := by
  refine RdV.lend (u := p.val ρ) ?_ ?_ ?_ ?_
  · exact h1
  · rfl
  · exact hl
  · exact hvv
theorem clo_lend {P : Program} {ps r : Ty} {x : ps.den → Option r.den} {u v : Value} (lent : Bool) (hl : lent = true) (hvv : v = u)
    (h1 : Rd P (.fn ps r) false ρ0 w (All w) x [u]) : RdV P (.fn ps r) ρ0 w (okSet cx ρ s w lent) x v := by
  refine RdV.lend (u := u) ?_ ?_ ?_ ?_
  · exact h1
  · rfl
  · exact hl
  · exact hvv
theorem clo_lend2 {P : Program} {ps a' b' : Ty} {x : ps.den → Option (a'.den × b'.den)} {u v : Value} (lent : Bool) (hl : lent = true) (hvv : v = u)
    (h1 : Rd P (.fn2 ps a' b') false ρ0 w (All w) x [u]) : RdV P (.fn2 ps a' b') ρ0 w (okSet cx ρ s w lent) x v := by
  refine RdV.lend (u := u) ?_ ?_ ?_ ?_
  · exact h1
  · rfl
  · exact hl
  · exact hvv
theorem decPtr_ref {hp : Nat → Option Blk} {p : Ptr} {t' : Ty} {x : (Ty.ref t').den} (h : decPtr hp p (.ref t') = some x) : derefP hp p t' = some x := h
theorem decClo_fn {hp : Nat → Option Blk} {g : FuncId × List Ptr} {ps r : Ty} {x : (Ty.fn ps r).den} (h : decClo c hp g (.fn ps r) = some x) : decFn c hp g ps r = some x := h
theorem decClo_fn2 {hp : Nat → Option Blk} {g : FuncId × List Ptr} {ps a' b' : Ty} {x : (Ty.fn2 ps a' b').den} (h : decClo c hp g (.fn2 ps a' b') = some x) : decFn2 c hp g ps a' b' = some x := h
theorem ptr_sound' (hM : M cx ρ F s a w) {hp : Nat → Option Blk} (hhp : ∀ b k, hp b = some k → s.hp b = some k) {p : Ptr} {t' : Ty} {x : (Ty.ref t').den} {v : Value} (h : decPtr hp p (.ref t') = some x) (lent : Bool) (hl : lent = true)
    (hvv : v = p.val ρ) : RdV cx.P (.ref t') ρ0 w (okSet cx ρ s w lent) x v := by
  have h1 : Rd cx.P (.ref t') false ρ0 w (All w) x [p.val ρ] := deref_sound hM hhp (decPtr_ref h)
  clear hM hhp h
  exact ptr_lend (cx := cx) (s := s) lent hl hvv h1

theorem ptr_sound (hM : M cx ρ F s a w) {hp : Nat → Option Blk} (hhp : ∀ b k, hp b = some k → s.hp b = some k) {p : Ptr} {t : Ty} {x : t.den} {v : Value} (h : decPtr hp p t = some x) (lent : Bool) (hl : lent = true)
    (hv : RV cx.P ρ w (cx.I ρ s) (.val .ptr p) v) : RdV cx.P t ρ0 w (okSet cx ρ s w lent) x v := by
  have hvv := RV_ptr hv
  cases t with
  | ref t' => exact ptr_sound' hM hhp h lent hl hvv
  | _ => cases h

theorem clo_sound' (hc : FnsOk cx.P c) (hM : M cx ρ F s a w) {hp : Nat → Option Blk} (hhp : ∀ b k, hp b = some k → s.hp b = some k) {g : FuncId × List Ptr} {ps r : Ty} {x : (Ty.fn ps r).den} {v : Value} (h : decClo c hp g (.fn ps r) = some x) (lent : Bool) (hl : lent = true)
    (hvv : v = .func (.func g.1) #[] (g.2.map (·.val ρ)).toArray) : RdV cx.P (.fn ps r) ρ0 w (okSet cx ρ s w lent) x v := by
  have h1 : Rd cx.P (.fn ps r) false ρ0 w (All w) x [.func (.func g.1) #[] (g.2.map (·.val ρ)).toArray] := fn_sound hc hM hhp (decClo_fn h)
  clear hM hhp h
  exact clo_lend (cx := cx) (s := s) lent hl hvv h1

theorem clo_sound2' (hc : FnsOk cx.P c) (hM : M cx ρ F s a w) {hp : Nat → Option Blk} (hhp : ∀ b k, hp b = some k → s.hp b = some k) {g : FuncId × List Ptr} {ps a' b' : Ty} {x : (Ty.fn2 ps a' b').den} {v : Value} (h : decClo c hp g (.fn2 ps a' b') = some x) (lent : Bool) (hl : lent = true)
    (hvv : v = .func (.func g.1) #[] (g.2.map (·.val ρ)).toArray) : RdV cx.P (.fn2 ps a' b') ρ0 w (okSet cx ρ s w lent) x v := by
  have h1 : Rd cx.P (.fn2 ps a' b') false ρ0 w (All w) x [.func (.func g.1) #[] (g.2.map (·.val ρ)).toArray] := fn_sound2 hc hM hhp (decClo_fn2 h)
  clear hM hhp h
  exact clo_lend2 (cx := cx) (s := s) lent hl hvv h1

theorem clo_sound (hc : FnsOk cx.P c) (hM : M cx ρ F s a w) {hp : Nat → Option Blk} (hhp : ∀ b k, hp b = some k → s.hp b = some k) {g : FuncId × List Ptr} {t : Ty} {x : t.den} {v : Value} (h : decClo c hp g t = some x) (lent : Bool) (hl : lent = true)
    (hv : RV cx.P ρ w (cx.I ρ s) (.val .clo g) v) : RdV cx.P t ρ0 w (okSet cx ρ s w lent) x v := by
  have hvv := RV_clo hv
  cases t with
  | fn ps r => exact clo_sound' hc hM hhp h lent hl hvv
  | fn2 ps a' b' => exact clo_sound2' hc hM hhp h lent hl hvv
  | _ => cases h

theorem win_addr {ρ : Nat → Value} {b r : Nat} {ad : Addr} (hs : ad.spot = none) (hq : ∀ q : Ptr, q.b = b → q.val ρ = .pointer (some (ad.add q.co))) (hρ : ρ b = .pointer (some ⟨r, 0, none⟩)) : ad = ⟨r, 0, none⟩ := by
  have h := hq ⟨b, 0, 0, 0, 0⟩ rfl
  unfold Ptr.val at h
  rw [hρ] at h
  simp only [Value.pointer.injEq, Option.some.injEq] at h
  obtain ⟨bl, off, sp⟩ := ad
  simp only at hs
  subst hs
  rw [add_none, add_none] at h
  simp only [Addr.mk.injEq] at h ⊢
  have hc : (Ptr.co ⟨b, 0, 0, 0, 0⟩) = 0 := rfl
  rw [hc] at h
  exact ⟨h.1.symm, by omega, trivial⟩

theorem win_lend (hM : M cx ρ F s a w) {b lo n N : Nat} {k : IntKind} {l : List Int} {v : Value} (hk : s.hp b = some (.cells (.arr N (.int k)) l)) (hle : lo + n ≤ N) (hv : RV cx.P ρ w (cx.I ρ s) (.win b lo n) v) :
    ∃ r cap, v = .slice (some ⟨r, lo, none⟩) ((l.drop lo).take n).length cap ∧ ((l.drop lo).take n).length ≤ cap ∧ r < w.heap.size ∧ real (ρ b) = some r ∧
      ∀ (i : Nat) (x : Int), ((l.drop lo).take n)[i]? = some x → CellsAt w ⟨r, lo + i, none⟩ [.int k x] := by
  obtain ⟨ad, cap, s1, q1, v1, hc⟩ := hv
  obtain ⟨r, tid, cur, e1, e2, e3⟩ := hM.blks b _ hk
  have a1 := win_addr s1 q1 e1
  subst a1
  rw [add_none, Nat.zero_add] at v1
  obtain ⟨c1, c2⟩ := rd_ints (l := l) e3
  have hlen : ((l.drop lo).take n).length = n := by rw [List.length_take, List.length_drop]; omega
  refine ⟨r, cap, by rw [hlen]; exact v1, by rw [hlen]; exact hc, (Array.getElem?_eq_some_iff.1 e2).1, by rw [e1]; rfl, fun i x hx => ?_⟩
  have hi : i < n := by have := (List.getElem?_eq_some_iff.1 hx).1; omega
  rw [List.getElem?_take, if_pos hi, List.getElem?_drop] at hx
  have hcur : cur.toList = (l.take (lo + i)).map (Value.int k) ++ [.int k x] ++ (l.drop (lo + i + 1)).map (Value.int k) := by
    have hil := (List.getElem?_eq_some_iff.1 hx).1
    have hxe := (List.getElem?_eq_some_iff.1 hx).2
    rw [c1]
    have : l = l.take (lo + i) ++ [x] ++ l.drop (lo + i + 1) := by
      rw [← hxe, List.append_assoc, List.singleton_append, ← List.drop_eq_getElem_cons hil, List.take_append_drop]
    calc l.map (Value.int k) = (l.take (lo + i) ++ [x] ++ l.drop (lo + i + 1)).map (Value.int k) := by rw [← this]
      _ = _ := by simp
  have h := CellsAt_of_row e2 hcur
  rw [List.length_map, List.length_take, Nat.min_eq_left (by have := (List.getElem?_eq_some_iff.1 hx).1; omega)] at h
  exact h

theorem arg_sound (hc : FnsOk cx.P c) (hM : M cx ρ F s a w) {hp : Nat → Option Blk} (hhp : ∀ b k, hp b = some k → s.hp b = some k) {t : Ty} {av : AV} {v : Value} {x : t.den} (hv : RV cx.P ρ w (cx.I ρ s) av v)
    (h : decArg c hp t av = some x) (lent : Bool) (hl : av.lent = true → lent = true) : RdV cx.P t ρ0 w (okSet cx ρ s w lent) x v := by
  have deepcase : ∀ (av : AV), RV cx.P ρ w (cx.I ρ s) av v → (match t.deep with | true => coe t av | false => none) = some x → RdV cx.P t ρ0 w (okSet cx ρ s w lent) x v := by
    intro av hv h
    split at h
    · rename_i hd
      obtain ⟨⟨cc, rfl, hcc⟩, _⟩ := coe_sound hv h
      exact ⟨cc, rfl, (hcc.rho (fun b hb => by rw [Ty.deep_refs hd] at hb; cases hb)).mono (Pres.refl _ _) fun r hr hi => ⟨hr, .inr hi⟩⟩
    · cases h
  unfold decArg at h
  split at h
  · rename_i b lo n
    have hlent := hl rfl
    unfold decWin at h
    split at h
    · rename_i k
      split at h
      · rename_i N k' l hk
        split at h
        · rename_i hb
          simp only [Bool.and_eq_true] at hb
          obtain rfl := of_decide_eq_true hb.1
          obtain rfl := Option.some.inj h
          obtain ⟨r, cap, h1, h2, h3, h4, h5⟩ := win_lend hM (hhp _ _ hk) (Nat.le_of_ble_eq_true hb.2) hv
          rw [h1]
          refine ⟨[.slice (some ⟨r, lo, none⟩) (List.take n (List.drop lo l)).length cap], rfl, some ⟨r, lo, none⟩, cap, rfl, h2, .inr ⟨⟨r, lo, none⟩, rfl, rfl, ⟨h3, .inl hlent⟩, h3, fun i x hx => ?_⟩⟩
          refine ⟨[.int k x], ?_, rfl⟩
          rw [add_none]
          have e : i * (Ty.int k).size = i := Nat.mul_one i
          rw [e]
          exact h5 i x hx
        · cases h
      · cases h
    · cases h
  · rename_i b
    cases t with
    | slice e =>
      simp only [decOwn] at h
      split at h
      · rename_i e' l tid hk
        obtain ⟨he, rfl⟩ := Ty.as?_some h
        cases he
        have hvv := RV_own hv
        subst hvv
        have hlent := hl rfl
        obtain ⟨xs, ⟨h0, hro⟩, hrd⟩ := hM.blks b _ (hhp _ _ hk)
        rcases hro with ⟨A0, h1, h2⟩ | ⟨g, cap, cur, h1, hcp, _, h3, h4, h5, h6, h7⟩
        · have hl0 : l = [] := List.eq_nil_of_length_eq_zero h2
          subst hl0
          rw [h1]
          exact ⟨[.slice A0 0 0], rfl, A0, 0, rfl, Nat.le_refl _, .inl rfl⟩
        · rw [h1]
          refine ⟨[.slice (some ⟨g, 0, none⟩) l.length cap], rfl, some ⟨g, 0, none⟩, cap, rfl, h4, ?_⟩
          by_cases hl0 : l = []
          · exact .inl hl0
          · have hg : g < w.heap.size := hM.owned_lt (hhp _ _ hk) (by rw [h1]; exact real_slice hcp)
            refine .inr ⟨⟨g, 0, none⟩, rfl, rfl, ⟨hg, .inl hlent⟩, hg, fun i y hy => ?_⟩
            have hi : i < l.length := (List.getElem?_eq_some_iff.1 hy).1
            obtain ⟨pre, ci, post, g1, g2, g3, _⟩ := elemAt hrd hi e.zero
            have hyy : l.getD i e.zero = y := by simp only [List.getD]; rw [show l[i]? = some y from hy]; rfl
            rw [hyy] at g3
            refine ⟨ci, ?_, g3.mono (Pres.refl _ _) fun r hr hi => ⟨hr, .inr hi⟩⟩
            have hcur : cur.toList = pre ++ ci ++ (post ++ cur.toList.drop (l.length * e.size)) := by
              have := List.take_append_drop (l.length * e.size) cur.toList
              rw [h7, g1] at this
              rw [← List.append_assoc]; exact this.symm
            have := CellsAt_of_row h3 hcur
            rw [g2] at this
            rw [add_none, Nat.zero_add]
            exact this
      · cases h
    | _ => cases h
  · rename_i p
    exact ptr_sound hM hhp h lent (hl rfl) hv
  · rename_i g
    exact clo_sound hc hM hhp h lent (hl rfl) hv
  · exact deepcase _ hv h

theorem args_sound (hc : FnsOk cx.P c) (hM : M cx ρ F s a w) {hp : Nat → Option Blk} (hhp : ∀ b k, hp b = some k → s.hp b = some k) (lent : Bool) : ∀ {ps : Ty} {avs : List AV} {vs : List Value} {x : ps.den}, vs.length = avs.length →
    (∀ (i : Nat) (x : AV) (y : Value), avs[i]? = some x → vs[i]? = some y → RV cx.P ρ w (cx.I ρ s) x y) → decArgs c hp ps avs = some x → (avs.any AV.lent = true → lent = true) → Rd cx.P ps true ρ0 w (okSet cx ρ s w lent) x vs := by
  intro ps
  induction ps with
  | unit =>
    intro avs vs x hl _ h _
    cases avs with
    | nil => exact List.eq_nil_of_length_eq_zero hl
    | cons _ _ => simp [decArgs] at h
  | pair p q _ ihq =>
    intro avs vs x hl hall h hlent
    cases avs with
    | nil => simp [decArgs] at h
    | cons av avs =>
      cases vs with
      | nil => simp at hl
      | cons v vs =>
        simp only [decArgs] at h
        split at h
        · rename_i y z hy hz
          obtain rfl := Option.some.inj h
          obtain ⟨cc, rfl, hcc⟩ := arg_sound hc hM hhp (hall 0 _ _ rfl rfl) hy lent (fun h => hlent (by simp only [List.any_cons, h, Bool.true_or]))
          refine ⟨cc, vs, rfl, hcc, ihq (by simpa using hl) (fun i a b ha hb => hall (i + 1) a b (by simpa using ha) (by simpa using hb)) hz (fun h => hlent ?_)⟩
          simp only [List.any_cons, h, Bool.or_true]
        · cases h
  | _ => intro avs vs x hl _ h _; cases avs <;> simp [decArgs] at h

/-- How results that read as data are carried to the caller's state. -/
def Carries (P : Program) (lent : Bool) (w' : World) (J : Nat → Prop) (ρ' : Nat → Value) (I' : Nat → Prop) : Prop :=
  ∀ (t : Ty) (y : t.den) (v : Value), t.deep = true → (lent = true → t.flat = true) → RdV P t ρ0 w' J y v → RdV P t ρ' w' I' y v

def Fits (P : Program) (w' : World) (ρ' : Nat → Value) (I' : Nat → Prop) (l : List TV) (vs : List Value) : Prop :=
  vs.length = l.length ∧ ∀ (i : Nat) (t : TV) (u : Value), l[i]? = some t → vs[i]? = some u → RdV P t.t ρ' w' I' t.x u

theorem Fits.cons {P : Program} {w' : World} {ρ' : Nat → Value} {I' : Nat → Prop} {l : List TV} {vs : List Value} {t : TV} {v : Value} (h0 : RdV P t.t ρ' w' I' t.x v) (h : Fits P w' ρ' I' l vs) : Fits P w' ρ' I' (t :: l) (v :: vs) := by
  refine ⟨by simp [h.1], fun i t' u ht hu => ?_⟩
  cases i with
  | zero =>
    obtain rfl := Option.some.inj ht
    obtain rfl := Option.some.inj hu
    exact h0
  | succ i => exact h.2 i t' u (by simpa using ht) (by simpa using hu)

theorem vals0 {P : Program} {w w' : World} {ok X : Nat → Prop} {lent : Bool} (nid : Nat) : ∀ {rs : Rs} {y : rs.den} {vs : List Value}, rs.vals P w w' ok X y vs → rs.ows = 0 → rs.deep = true → (lent = true → rs.flat = true) →
    rs.eds nid y = [] ∧ (∀ t ∈ rs.avs nid y, t.t.refs t.x = []) ∧ ∀ ρ' I', Carries P lent w' (fun b => (ok b ∨ w.heap.size ≤ b) ∧ ¬ X b) ρ' I' → Fits P w' ρ' I' (rs.avs nid y) vs := by
  intro rs
  induction rs with
  | none => intro y vs h _ _ _; have h : vs = [] := h; subst h; exact ⟨rfl, (fun t ht => nomatch ht), (fun _ _ _ => ⟨rfl, (fun i t u ht => nomatch ht)⟩)⟩
  | one r =>
    intro y vs h h0 hd hf
    obtain ⟨v, rfl, hv⟩ := h
    cases r with
    | ow e tid => simp [Rs.ows, RT.ows] at h0
    | dp t =>
      refine ⟨rfl, fun t' ht => ?_, fun ρ' I' hc => Fits.cons (hc t y v hd hf hv) ⟨rfl, fun i t u ht => nomatch ht⟩⟩
      obtain rfl := List.mem_singleton.1 ht
      exact Ty.deep_refs hd
    | dn e =>
      refine ⟨rfl, fun t' ht => ?_, fun ρ' I' hc => Fits.cons (hc (.slice e) y v hd (fun hl => by have := hf hl; cases this) hv.1) ⟨rfl, fun i t u ht => nomatch ht⟩⟩
      obtain rfl := List.mem_singleton.1 ht
      exact Ty.deep_refs (t := .slice e) hd
  | more r rs ih =>
    intro y vs h h0 hd hf
    obtain ⟨v, vs', rfl, hv, hvs⟩ := h
    simp only [Rs.deep, Bool.and_eq_true] at hd
    simp only [Rs.flat, Bool.and_eq_true] at hf
    cases r with
    | ow e tid => simp [Rs.ows, RT.ows] at h0
    | dp t =>
      obtain ⟨h1, h1r, h2⟩ := ih hvs (by simpa [Rs.ows, RT.ows] using h0) hd.2 (fun hl => (hf hl).2)
      refine ⟨by simp only [Rs.eds, RT.ed, h1, List.append_nil], fun t' ht => ?_, fun ρ' I' hc => Fits.cons (hc t y.1 v hd.1 (fun hl => (hf hl).1) hv) (h2 ρ' I' hc)⟩
      rcases List.mem_cons.1 ht with rfl | ht
      · exact Ty.deep_refs hd.1
      · exact h1r t' ht
    | dn e =>
      obtain ⟨h1, h1r, h2⟩ := ih hvs (by simpa [Rs.ows, RT.ows] using h0) hd.2 (fun hl => (hf hl).2)
      refine ⟨by simp only [Rs.eds, RT.ed, h1, List.append_nil], fun t' ht => ?_, fun ρ' I' hc => Fits.cons (hc (.slice e) y.1 v hd.1 (fun hl => by have := (hf hl).1; cases this) hv.1) (h2 ρ' I' hc)⟩
      rcases List.mem_cons.1 ht with rfl | ht
      · exact Ty.deep_refs (t := .slice e) hd.1
      · exact h1r t' ht

theorem vals1 {P : Program} {w w' : World} {ok X : Nat → Prop} {lent : Bool} (nid : Nat) : ∀ {rs : Rs} {y : rs.den} {vs : List Value}, rs.vals P w w' ok X y vs → rs.ows = 1 → rs.deep = true → (lent = true → rs.flat = true) →
    ∃ (e : Ty) (tid : TypeId) (l : List e.den) (v : Value), rs.eds nid y = [(nid, some (.row e l tid))] ∧ (lent = true → e.flat = true) ∧ (RT.ow e tid).ok P w w' ok X l v ∧ (∀ t ∈ rs.avs nid y, ∀ b ∈ t.t.refs t.x, b = nid) ∧
      ∀ ρ' I', ρ' nid = v → Carries P lent w' (fun b => (ok b ∨ w.heap.size ≤ b) ∧ ¬ X b) ρ' I' → Fits P w' ρ' I' (rs.avs nid y) vs := by
  intro rs
  induction rs with
  | none => intro y vs h h0; simp [Rs.ows] at h0
  | one r =>
    intro y vs h h0 hd hf
    obtain ⟨v, rfl, hv⟩ := h
    cases r with
    | dp t => simp [Rs.ows, RT.ows] at h0
    | dn e => simp [Rs.ows, RT.ows] at h0
    | ow e tid =>
      refine ⟨e, tid, y, v, rfl, hf, hv, fun t ht b hb => ?_, fun ρ' I' hρ' hc => Fits.cons ⟨[v], rfl, ?_⟩ ⟨rfl, fun i t u ht => nomatch ht⟩⟩
      · obtain rfl := List.mem_singleton.1 ht
        exact List.mem_singleton.1 hb
      · show [v] = [ρ' nid]
        rw [hρ']
  | more r rs ih =>
    intro y vs h h0 hd hf
    obtain ⟨v, vs', rfl, hv, hvs⟩ := h
    simp only [Rs.deep, Bool.and_eq_true] at hd
    simp only [Rs.flat, Bool.and_eq_true] at hf
    cases r with
    | dp t =>
      obtain ⟨e, tid, l, u, h1, h2, h3, h4, h5⟩ := ih hvs (by simpa [Rs.ows, RT.ows] using h0) hd.2 (fun hl => (hf hl).2)
      refine ⟨e, tid, l, u, by simp only [Rs.eds, RT.ed, h1, List.nil_append], h2, h3, fun t' ht b hb => ?_, fun ρ' I' hρ' hc => Fits.cons (hc t y.1 v hd.1 (fun hl => (hf hl).1) hv) (h5 ρ' I' hρ' hc)⟩
      rcases List.mem_cons.1 ht with rfl | ht
      · have e0 := Ty.deep_refs (t := t) (x := y.1) hd.1
        have hb : b ∈ ([] : List Nat) := e0 ▸ hb
        cases hb
      · exact h4 t' ht b hb
    | dn e' =>
      obtain ⟨e, tid, l, u, h1, h2, h3, h4, h5⟩ := ih hvs (by simpa [Rs.ows, RT.ows] using h0) hd.2 (fun hl => (hf hl).2)
      refine ⟨e, tid, l, u, by simp only [Rs.eds, RT.ed, h1, List.nil_append], h2, h3, fun t' ht b hb => ?_, fun ρ' I' hρ' hc => Fits.cons (hc (.slice e') y.1 v hd.1 (fun hl => by have := (hf hl).1; cases this) hv.1) (h5 ρ' I' hρ' hc)⟩
      rcases List.mem_cons.1 ht with rfl | ht
      · have e0 := Ty.deep_refs (t := .slice e') (x := y.1) hd.1
        have hb : b ∈ ([] : List Nat) := e0 ▸ hb
        cases hb
      · exact h4 t' ht b hb
    | ow e tid =>
      have h0' : rs.ows = 0 := by simp only [Rs.ows, RT.ows] at h0; omega
      obtain ⟨h1, h1r, h2⟩ := vals0 (nid := nid) hvs h0' hd.2 (fun hl => (hf hl).2)
      refine ⟨e, tid, y.1, v, by simp only [Rs.eds, RT.ed, h1, List.append_nil], fun hl => (hf hl).1, hv, fun t' ht b hb => ?_, fun ρ' I' hρ' hc => Fits.cons ⟨[v], rfl, ?_⟩ (h2 ρ' I' hc)⟩
      · rcases List.mem_cons.1 ht with rfl | ht
        · exact List.mem_singleton.1 hb
        · rw [h1r t' ht] at hb; cases hb
      · show [v] = [ρ' nid]
        rw [hρ']

theorem ownsRow_base {w : World} {b b' : Nat} {e : TypeId} {size : Nat} {v : Value} {n : Nat} {xs : List Value} (h : World.rowOf w b e size v n xs) (hb : b' ≤ b) : World.rowOf w b' e size v n xs := by
  obtain ⟨h1, h2⟩ := h
  refine ⟨h1, ?_⟩
  rcases h2 with h2 | ⟨g, cap, cur, hv, hc, hg, r⟩
  · exact .inl h2
  · exact .inr ⟨g, cap, cur, hv, hc, Nat.le_trans hb hg, r⟩

theorem ownsRow_real {w : World} {b : Nat} {e : TypeId} {size : Nat} {v : Value} {n : Nat} {xs : List Value} (h : World.rowOf w b e size v n xs) {r : Nat} (hr : real v = some r) : b ≤ r ∧ r < w.heap.size := by
  rcases h.2 with ⟨A, rfl, _⟩ | ⟨g, cap, cur, rfl, hc, hb, hg, _⟩
  · rw [real_zero] at hr; cases hr
  · obtain ⟨rfl, _⟩ := real_some hr
    exact ⟨hb, (Array.getElem?_eq_some_iff.1 hg).1⟩

/-- The caller's state behind a call, results told by Fits. -/
theorem M.called (hM : M cx ρ F s a w) {nid : Nat} (hn : ¬ F nid) {rs : Rs} {y : rs.den} {vs : List Value} {w' : World} {X : Nat → Prop} {lent : Bool} (hX : ∀ b, X b → w.heap.size ≤ b)
    (hv : rs.vals cx.P w w' (okSet cx ρ s w lent) X y vs) (hb : Below w.heap.size w w') (ho : rs.ows ≤ 1) (hd : rs.deep = true) (hf : lent = true → rs.flat = true) :
    ∃ ρ', M cx ρ' (fun b => F b ∨ b = nid) ⟨s.sl, app s.hp (rs.eds nid y), s.ok⟩ a w' ∧ Fits cx.P w' ρ' (cx.I ρ' ⟨s.sl, app s.hp (rs.eds nid y), s.ok⟩) (rs.avs nid y) vs ∧ ∀ t ∈ rs.avs nid y, ∀ b ∈ t.t.refs t.x, F b ∨ b = nid := by
  have carries : ∀ (ρ' : Nat → Value) (I' : Nat → Prop), (∀ b, b < w'.heap.size → cx.I ρ s b → b < w.heap.size → ¬ X b → I' b) → (∀ b, w.heap.size ≤ b → ¬ X b → I' b) →
      Carries cx.P lent w' (fun b => (okSet cx ρ s w lent b ∨ w.heap.size ≤ b) ∧ ¬ X b) ρ' I' := by
    intro ρ' I' h1 h2 t y v hdeep hflat ⟨cc, hcv, hcc⟩
    refine ⟨cc, hcv, ?_⟩
    cases lent with
    | true => exact hcc.flat (hflat rfl)
    | false =>
      refine (hcc.rho (fun b hb => by rw [Ty.deep_refs hdeep] at hb; cases hb)).mono (Pres.refl _ _) fun b hb hi => ?_
      rcases hi.1 with ⟨hlt, hi'⟩ | hi'
      · rcases hi' with hi' | hi'
        · cases hi'
        · exact h1 b hb hi' hlt hi.2
      · exact h2 b hi' hi.2
  by_cases h0 : rs.ows = 0
  · obtain ⟨h1, h1r, h2⟩ := vals0 (lent := lent) nid hv h0 hd hf
    rw [h1]
    have hM' := hM.world hb
    refine ⟨ρ, hM'.widen (fun b h => .inl h), h2 ρ _ (carries ρ _ (fun b _ hi _ _ => hi) (fun b hlt _ => ⟨.inr (.inl (Nat.le_trans hM.size hlt)), fun b' k hk hr => ?_⟩)), fun t ht b hb => by rw [h1r t ht] at hb; cases hb⟩
    have := hM.owned_lt hk hr
    omega
  · obtain ⟨e, tid, l, u, h1, h2, ⟨⟨xs, h3, h3'⟩, h4, h4'⟩, h5, h6⟩ := vals1 (lent := lent) nid hv (by omega) hd hf
    rw [h1]
    have hnew := M.new (k := .row e l tid) (v := u) hM hn s.ok hb (fun r hr => ⟨hX r (h4 r hr), (ownsRow_real h3 hr).2⟩) h4' ⟨xs, ownsRow_base h3 (Nat.zero_le _), by
        cases lent with
        | true => exact h3'.flat (h2 rfl)
        | false =>
          refine h3'.mono (Pres.refl _ _) fun b _ hi => ?_
          rcases hi.1 with ⟨hlt, hi'⟩ | hi'
          · rcases hi' with hi' | hi'
            · cases hi'
            · exact .inl ⟨hi', hlt⟩
          · exact .inr ⟨hi', fun hr => hi.2 (h4 b hr)⟩⟩ (fun b hb => by cases hb)
    refine ⟨_, hnew, h6 _ _ (upd_same _ _ _) (carries _ _ (fun b _ hi hlt hx => ⟨hi.1, fun b' k hk hr => ?_⟩) (fun b hlt hx => ⟨.inr (.inl (Nat.le_trans hM.size hlt)), fun b' k hk hr => ?_⟩)), fun t ht b hb => .inr (h5 t ht b hb)⟩
    · by_cases e : b' = nid
      · subst e
        rw [upd_same] at hr
        exact hx (h4 b hr)
      · change upd s.hp nid _ b' = some k at hk
        rw [upd_ne _ _ e] at hk hr
        exact hi.2 b' k hk hr
    · by_cases e : b' = nid
      · subst e
        rw [upd_same] at hr
        exact hx (h4 b hr)
      · change upd s.hp nid _ b' = some k at hk
        rw [upd_ne _ _ e] at hk hr
        have := hM.owned_lt hk hr
        omega
end

section
variable {cx : Cx} {s : St} {o : Oper} {nid : Nat}

theorem ok_called {rs : Rs} {y : rs.den} {p : Perf} (hp : p.v = rs.av nid y) (hed : p.ed = rs.eds nid y) (ho : rs.ows ≤ 1) (hd : rs.deep = true)
    (h : ∀ (ρ : Nat → Value) (F : Nat → Prop) (a : Act) (w : World), M cx ρ F s a w → p.obP → ∃ lent : Bool, (lent = true → rs.flat = true) ∧ ∃ f args, (execOp a.eval o).run cx.P w = (callFunc f args).run cx.P w ∧
      InvOk cx.P f args w fun v w' => ResOk cx.P w w' (okSet cx ρ s w lent) rs y v ∧ Below w.heap.size w w') : OpOk cx o s nid p := by
  intro ρ F a w next Q hM hnF hob hn
  obtain ⟨lent, hf, f, args, hr, hinv⟩ := h ρ F a w hM hob
  unfold Oper.wp
  rw [hr]
  refine hinv o a next Q fun v w' hv => ?_
  obtain ⟨⟨X, hX, hok⟩, hb⟩ := hv
  have hvals : ∃ vs : List Value, rs.vals cx.P w w' (okSet cx ρ s w lent) X y vs ∧ ∀ (ρ' : Nat → Value) (I' : Nat → Prop), Fits cx.P w' ρ' I' (rs.avs nid y) vs → RV cx.P ρ' w' I' (rs.av nid y) v := by
    cases rs with
    | none =>
      obtain ⟨vs, rfl, hvs⟩ := hok
      exact ⟨vs, hvs, fun ρ' I' hfit => ⟨vs, rfl, hfit.1, hfit.2⟩⟩
    | one r =>
      refine ⟨[v], ⟨v, rfl, hok⟩, fun ρ' I' hfit => ?_⟩
      cases r with
      | dp t => exact hfit.2 0 _ _ rfl rfl
      | ow e tid => exact hfit.2 0 _ _ rfl rfl
      | dn e =>
        have hok : RdV _ (.slice e) ρ0 _ _ y v ∧ (y = ([] : List e.den) → v = .slice none 0 0) := hok
        match y, hok, hfit with
        | [], hok, _ => exact hok.2 rfl
        | a :: l, _, hfit => exact hfit.2 0 _ _ rfl rfl
    | more r rs =>
      obtain ⟨vs, rfl, hvs⟩ := hok
      exact ⟨vs, hvs, fun ρ' I' hfit => ⟨vs, rfl, hfit.1, hfit.2⟩⟩
  obtain ⟨vs, hvs, hfit⟩ := hvals
  obtain ⟨ρ', hM', hF', hrefs⟩ := M.called hM hnF hX hvs hb ho hd hf
  refine hn ρ' v w' ?_
  rw [hp, hed]
  refine hM'.put o.dst (hfit ρ' _ hF') (fun b hb => ?_) s.ok
  have hmem : ∀ t ∈ rs.avs nid y, ∀ b ∈ t.t.refs t.x, F b ∨ b = nid := hrefs
  cases rs with
  | none => cases hb
  | one r =>
    cases r with
    | dp t => exact hmem _ (List.mem_singleton.2 rfl) b hb
    | ow e tid => exact hmem _ (List.mem_singleton.2 rfl) b hb
    | dn e =>
      match y, hmem, hb with
      | [], _, hb => cases hb
      | a :: l, hmem, hb => exact hmem _ (List.mem_singleton.2 rfl) b hb
  | more r rs =>
    obtain ⟨t, ht, hbt⟩ := List.mem_flatMap.1 hb
    exact hmem t ht b hbt
end
end
end Go.Sx
