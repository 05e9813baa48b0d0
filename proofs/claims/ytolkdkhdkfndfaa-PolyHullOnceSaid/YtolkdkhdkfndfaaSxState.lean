/-
  The abstract state of a call: what its slots hold, and the blocks of its own; and that a state fits a frame and a world.
-/
import Derived.Test.YtolkdkhdkfndfaaSxCore
namespace Go.Sx

def Ty.zero : (t : Ty) → t.den
  | .int _ => (0 : Int)
  | .bool => false
  | .nil => ()
  | .unit => ()
  | .pair a b => (a.zero, b.zero)
  | .slice _ => []
  | .arr n e => List.replicate n e.zero
  | .own => (0 : Nat)
  | .ptr => ⟨0, 0, 0, 0, 0⟩
  | .clo => (0, [])
  | .fn _ _ => fun _ => none
  | .fn2 _ _ _ => fun _ => none
  | .ref t => t.zero

/-- The component of kind tgt that begins at cell off. -/
def comp : (t : Ty) → t.den → Nat → (tgt : Ty) → Option tgt.den
  | .pair a b, x, off, tgt =>
    match Nat.beq off 0 && (Ty.pair a b).same tgt with
    | true => Ty.as? (.pair a b) tgt x
    | false => match Nat.blt off a.size with
      | true => comp a x.1 off tgt
      | false => comp b x.2 (off - a.size) tgt
  | t, x, off, tgt => match Nat.beq off 0 with
    | true => Ty.as? t tgt x
    | false => none

def setc : (t : Ty) → t.den → Nat → (tgt : Ty) → tgt.den → Option t.den
  | .pair a b, x, off, tgt, y =>
    match Nat.beq off 0 && (Ty.pair a b).same tgt with
    | true => Ty.as? tgt (.pair a b) y
    | false => match Nat.blt off a.size with
      | true => (setc a x.1 off tgt y).map fun z => (z, x.2)
      | false => (setc b x.2 (off - a.size) tgt y).map fun z => (x.1, z)
  | t, _, off, tgt, y => match Nat.beq off 0 with
    | true => Ty.as? tgt t y
    | false => none

/-- An array component that begins at cell off. -/
structure ArrC where
  n : Nat
  e : Ty
  l : List e.den

def arrc : (t : Ty) → t.den → Nat → Option ArrC
  | .pair a b, x, off =>
    match Nat.blt off a.size with
    | true => arrc a x.1 off
    | false => arrc b x.2 (off - a.size)
  | .arr n e, l, off => match Nat.beq off 0 with
    | true => some ⟨n, e, l⟩
    | false => none
  | _, _, _ => none

def seta : (t : Ty) → t.den → Nat → (e : Ty) → List e.den → Option t.den
  | .pair a b, x, off, e, l =>
    match Nat.blt off a.size with
    | true => (seta a x.1 off e l).map fun z => (z, x.2)
    | false => (seta b x.2 (off - a.size) e l).map fun z => (x.1, z)
  | .arr n e', _, off, e, l => match Nat.beq off 0 with
    | true => Ty.as? (.arr n e) (.arr n e') l
    | false => none
  | _, _, _, _, _ => none

theorem blt_false {a b : Nat} (h : Nat.blt a b = false) : ¬ a < b := by
  intro hh
  have h2 : Nat.ble (a + 1) b = true := by rw [Nat.ble_eq]; exact hh
  rw [show Nat.blt a b = Nat.ble (a + 1) b from rfl, h2] at h
  cases h
theorem blt_true {a b : Nat} (h : Nat.blt a b = true) : a < b := by
  rw [show Nat.blt a b = Nat.ble (a + 1) b from rfl, Nat.ble_eq] at h
  exact h

section
variable {P : Program} {ρ : Nat → Value} {w : World} {I : Nat → Prop}

theorem comp_sound : ∀ {t : Ty} {x : t.den} {off : Nat} {tgt : Ty} {y : tgt.den} {cs : List Value}, Rd P t false ρ w I x cs → comp t x off tgt = some y →
    ∃ pre c post, cs = pre ++ c ++ post ∧ pre.length = off ∧ Rd P tgt false ρ w I y c := by
  intro t
  have base : ∀ (t : Ty) (x : t.den) (off : Nat) (tgt : Ty) (y : tgt.den) (cs : List Value), Rd P t false ρ w I x cs → (match Nat.beq off 0 with | true => Ty.as? t tgt x | false => none) = some y →
      ∃ pre c post, cs = pre ++ c ++ post ∧ pre.length = off ∧ Rd P tgt false ρ w I y c := by
    intro t x off tgt y cs h hc
    split at hc
    · rename_i ho
      obtain ⟨rfl, rfl⟩ := Ty.as?_some hc
      exact ⟨[], cs, [], by simp, by simp [Nat.eq_of_beq_eq_true ho], h⟩
    · cases hc
  induction t with
  | pair a b iha ihb =>
    intro x off tgt y cs h hc
    unfold comp at hc
    split at hc
    · rename_i ho
      simp only [Bool.and_eq_true] at ho
      obtain ⟨rfl, rfl⟩ := Ty.as?_some hc
      exact ⟨[], cs, [], by simp, by simp [Nat.eq_of_beq_eq_true ho.1], h⟩
    · obtain ⟨c1, c2, rfl, h1, h2⟩ := h
      split at hc
      · obtain ⟨pre, c, post, rfl, hl, hr⟩ := iha h1 hc
        exact ⟨pre, c, post ++ c2, by simp, hl, hr⟩
      · rename_i hlt
        obtain ⟨pre, c, post, rfl, hl, hr⟩ := ihb h2 hc
        refine ⟨c1 ++ pre, c, post, by simp, ?_, hr⟩
        have h1l := h1.length
        simp only [List.length_append, hl, h1l]
        have := blt_false hlt
        omega
  | int k => intro x off tgt y cs h hc; exact base _ x off tgt y cs h hc
  | bool => intro x off tgt y cs h hc; exact base _ x off tgt y cs h hc
  | nil => intro x off tgt y cs h hc; exact base _ x off tgt y cs h hc
  | unit => intro x off tgt y cs h hc; exact base _ x off tgt y cs h hc
  | slice e _ => intro x off tgt y cs h hc; exact base _ x off tgt y cs h hc
  | arr n e _ => intro x off tgt y cs h hc; exact base _ x off tgt y cs h hc
  | own => intro x off tgt y cs h hc; exact base _ x off tgt y cs h hc
  | ptr => intro x off tgt y cs h hc; exact base _ x off tgt y cs h hc
  | clo => intro x off tgt y cs h hc; exact base _ x off tgt y cs h hc
  | fn p r _ _ => intro x off tgt y cs h hc; exact base _ x off tgt y cs h hc
  | fn2 p a b _ _ _ => intro x off tgt y cs h hc; exact base _ x off tgt y cs h hc
  | ref t _ => intro x off tgt y cs h hc; exact base _ x off tgt y cs h hc

theorem setc_sound : ∀ {t : Ty} {x x' : t.den} {off : Nat} {tgt : Ty} {y : tgt.den} {cs c' : List Value}, Rd P t false ρ w I x cs → setc t x off tgt y = some x' → Rd P tgt false ρ w I y c' →
    ∃ pre c post, cs = pre ++ c ++ post ∧ pre.length = off ∧ c.length = c'.length ∧ Rd P t false ρ w I x' (pre ++ c' ++ post) := by
  intro t
  have base : ∀ (t : Ty) (x x' : t.den) (off : Nat) (tgt : Ty) (y : tgt.den) (cs c' : List Value), Rd P t false ρ w I x cs → (match Nat.beq off 0 with | true => Ty.as? tgt t y | false => none) = some x' →
      Rd P tgt false ρ w I y c' → ∃ pre c post, cs = pre ++ c ++ post ∧ pre.length = off ∧ c.length = c'.length ∧ Rd P t false ρ w I x' (pre ++ c' ++ post) := by
    intro t x x' off tgt y cs c' h hc hy
    split at hc
    · rename_i ho
      obtain ⟨rfl, rfl⟩ := Ty.as?_some hc
      exact ⟨[], cs, [], by simp, by simp [Nat.eq_of_beq_eq_true ho], by rw [h.length, hy.length], by simpa using hy⟩
    · cases hc
  induction t with
  | pair a b iha ihb =>
    intro x x' off tgt y cs c' h hc hy
    unfold setc at hc
    split at hc
    · rename_i ho
      simp only [Bool.and_eq_true] at ho
      obtain ⟨rfl, rfl⟩ := Ty.as?_some hc
      exact ⟨[], cs, [], by simp, by simp [Nat.eq_of_beq_eq_true ho.1], by rw [h.length, hy.length], by simpa using hy⟩
    · obtain ⟨c1, c2, rfl, h1, h2⟩ := h
      split at hc
      · cases hz : setc a x.1 off tgt y with
        | none => rw [hz] at hc; cases hc
        | some z =>
          rw [hz] at hc
          obtain rfl := Option.some.inj hc
          obtain ⟨pre, c, post, rfl, hl, hl', hr⟩ := iha h1 hz hy
          exact ⟨pre, c, post ++ c2, by simp, hl, hl', ⟨pre ++ c' ++ post, c2, by simp, hr, h2⟩⟩
      · rename_i hlt
        cases hz : setc b x.2 (off - a.size) tgt y with
        | none => rw [hz] at hc; cases hc
        | some z =>
          rw [hz] at hc
          obtain rfl := Option.some.inj hc
          obtain ⟨pre, c, post, rfl, hl, hl', hr⟩ := ihb h2 hz hy
          refine ⟨c1 ++ pre, c, post, by simp, ?_, hl', ⟨c1, pre ++ c' ++ post, by simp, h1, hr⟩⟩
          have h1l := h1.length
          simp only [List.length_append, hl, h1l]
          have := blt_false hlt
          omega
  | int k => intro x x' off tgt y cs c' h hc hy; exact base _ x x' off tgt y cs c' h hc hy
  | bool => intro x x' off tgt y cs c' h hc hy; exact base _ x x' off tgt y cs c' h hc hy
  | nil => intro x x' off tgt y cs c' h hc hy; exact base _ x x' off tgt y cs c' h hc hy
  | unit => intro x x' off tgt y cs c' h hc hy; exact base _ x x' off tgt y cs c' h hc hy
  | slice e _ => intro x x' off tgt y cs c' h hc hy; exact base _ x x' off tgt y cs c' h hc hy
  | arr n e _ => intro x x' off tgt y cs c' h hc hy; exact base _ x x' off tgt y cs c' h hc hy
  | own => intro x x' off tgt y cs c' h hc hy; exact base _ x x' off tgt y cs c' h hc hy
  | ptr => intro x x' off tgt y cs c' h hc hy; exact base _ x x' off tgt y cs c' h hc hy
  | clo => intro x x' off tgt y cs c' h hc hy; exact base _ x x' off tgt y cs c' h hc hy
  | fn p r _ _ => intro x x' off tgt y cs c' h hc hy; exact base _ x x' off tgt y cs c' h hc hy
  | fn2 p a b _ _ _ => intro x x' off tgt y cs c' h hc hy; exact base _ x x' off tgt y cs c' h hc hy
  | ref t _ => intro x x' off tgt y cs c' h hc hy; exact base _ x x' off tgt y cs c' h hc hy

theorem arrc_sound : ∀ {t : Ty} {x : t.den} {off : Nat} {A : ArrC} {cs : List Value}, Rd P t false ρ w I x cs → arrc t x off = some A →
    ∃ pre c post, cs = pre ++ c ++ post ∧ pre.length = off ∧ Rd P (.arr A.n A.e) false ρ w I A.l c ∧
      ∀ l' x' c', seta t x off A.e l' = some x' → Rd P (.arr A.n A.e) false ρ w I l' c' → Rd P t false ρ w I x' (pre ++ c' ++ post) := by
  intro t
  induction t with
  | pair a b iha ihb =>
    intro x off A cs h hc
    unfold arrc at hc
    obtain ⟨c1, c2, rfl, h1, h2⟩ := h
    split at hc
    · rename_i hlt
      obtain ⟨pre, c, post, rfl, hl, hr, hs⟩ := iha h1 hc
      refine ⟨pre, c, post ++ c2, by simp, hl, hr, fun l' x' c' hx' hr' => ?_⟩
      unfold seta at hx'
      rw [hlt] at hx'
      cases hz : seta a x.1 off A.e l' with
      | none => rw [hz] at hx'; cases hx'
      | some z =>
        rw [hz] at hx'
        obtain rfl := Option.some.inj hx'
        exact ⟨pre ++ c' ++ post, c2, by simp, hs l' z c' hz hr', h2⟩
    · rename_i hlt
      obtain ⟨pre, c, post, rfl, hl, hr, hs⟩ := ihb h2 hc
      have h1l := h1.length
      have hnlt := blt_false hlt
      refine ⟨c1 ++ pre, c, post, by simp, by simp only [List.length_append, hl, h1l]; omega, hr, fun l' x' c' hx' hr' => ?_⟩
      unfold seta at hx'
      rw [hlt] at hx'
      cases hz : seta b x.2 (off - a.size) A.e l' with
      | none => rw [hz] at hx'; cases hx'
      | some z =>
        rw [hz] at hx'
        obtain rfl := Option.some.inj hx'
        exact ⟨c1, pre ++ c' ++ post, by simp, h1, hs l' z c' hz hr'⟩
  | arr n e _ =>
    intro x off A cs h hc
    unfold arrc at hc
    split at hc
    · rename_i ho
      obtain rfl := Option.some.inj hc
      refine ⟨[], cs, [], by simp, by simp [Nat.eq_of_beq_eq_true ho], h, fun l' x' c' hx' hr' => ?_⟩
      unfold seta at hx'
      rw [ho] at hx'
      obtain ⟨he, rfl⟩ := Ty.as?_some hx'
      simpa using hr'
    · cases hc
  | _ => intro x off A cs h hc; simp [arrc] at hc
end

structure TV where
  t : Ty
  x : t.den

inductive AV where
  | val (t : Ty) (x : t.den)
  | imm (t : Ty) (x : t.den) (off : Nat)
  | tup (l : List TV)
  | anyb (p : Prop)
  | win (b lo n : Nat)
  /-- What an own row holds from lo on (elements of k cells). -/
  | suf (b lo k : Nat)
  | nil
  | undef

inductive Blk where
  | cells (t : Ty) (x : t.den)
  | row (e : Ty) (l : List e.den) (tid : TypeId)

structure St where
  sl : Nat → AV
  hp : Nat → Option Blk
  ok : Prop

def Blk.isC : Blk → Bool
  | .cells _ _ => true
  | .row _ _ _ => false

def real : Value → Option Nat
  | .pointer (some a) => some a.block
  | .slice (some a) _ (_ + 1) => some a.block
  | _ => none
theorem real_slice {a : Addr} {n cap : Nat} (h : 0 < cap) : real (.slice (some a) n cap) = some a.block := by
  cases cap with
  | zero => omega
  | succ c => rfl
theorem real_some {a : Addr} {n cap r : Nat} (h : real (.slice (some a) n cap) = some r) : a.block = r ∧ 0 < cap := by
  cases cap with
  | zero => cases h
  | succ c => exact ⟨Option.some.inj h, Nat.succ_pos _⟩
theorem real_zero {A : Option Addr} {n : Nat} : real (.slice A n 0) = none := by cases A <;> rfl

/-- A slice that is a row of one's own from its begin on; or that has no room at all. -/
def World.rowOf (w : World) (base : Nat) (e : TypeId) (size : Nat) (v : Value) (n : Nat) (xs : List Value) : Prop :=
  xs.length = n * size ∧ ((∃ A, v = .slice A 0 0 ∧ n = 0) ∨
    ∃ g cap cur, v = .slice (some ⟨g, 0, none⟩) n cap ∧ 0 < cap ∧ base ≤ g ∧ w.heap[g]? = some (.cells cur e (0, 0)) ∧ n ≤ cap ∧ cap ≤ maxLen ∧ cur.size = cap * size ∧ cur.toList.take (n * size) = xs)
theorem World.rowOf_of {w : World} {base : Nat} {e : TypeId} {size : Nat} {v : Value} {n : Nat} {xs : List Value} (h : w.ownsRow base e size v n xs) : World.rowOf w base e size v n xs := by
  refine ⟨h.1, ?_⟩
  rcases h.2 with ⟨h1, h2⟩ | ⟨g, cap, cur, h1, h2, h3, h4, h5⟩
  · exact .inl ⟨none, h1 ▸ rfl, h2⟩
  · cases cap with
    | zero =>
      have : n = 0 := by omega
      exact .inl ⟨_, by rw [h1, this], this⟩
    | succ c => exact .inr ⟨g, c + 1, cur, h1, Nat.succ_pos _, h2, h3, h4, h5⟩

theorem World.row_owns {w : World} {base : Nat} {e : TypeId} {size : Nat} {v : Value} {n : Nat} {xs : List Value} (h : World.rowOf w base e size v n xs) :
    (∃ A, v = .slice A 0 0 ∧ n = 0 ∧ xs = []) ∨ (w.ownsRow base e size v n xs ∧ ∃ g cap, v = .slice (some ⟨g, 0, none⟩) n cap ∧ 0 < cap) := by
  rcases h.2 with ⟨A, h1, h2⟩ | ⟨g, cap, cur, h1, hc, h2⟩
  · exact .inl ⟨A, h1, h2, List.eq_nil_of_length_eq_zero (by rw [h.1, h2, Nat.zero_mul])⟩
  · exact .inr ⟨⟨h.1, .inr ⟨g, cap, cur, h1, h2⟩⟩, g, cap, h1, hc⟩

def sufV : Value → Nat → Nat → Value
  | .slice A n cap, lo, k => .slice (if cap = lo then A else A.map (·.add (lo * k))) (n - lo) (cap - lo)
  | v, _, _ => v

def RV (P : Program) (ρ : Nat → Value) (w : World) (I : Nat → Prop) : AV → Value → Prop
  | .val t x, v => RdV P t ρ w I x v
  | .imm t x off, v => ∃ ad c, v = .pointer (some (ad.add off)) ∧ ad.spot = none ∧ I ad.block ∧ ad.block < w.heap.size ∧ CellsAt w ad c ∧ Rd P t false ρ0 w I x c
  | .tup l, v => ∃ vs : List Value, v = .tuple vs.toArray ∧ vs.length = l.length ∧ ∀ (i : Nat) (t : TV) (u : Value), l[i]? = some t → vs[i]? = some u → RdV P t.t ρ w I t.x u
  | .anyb p, v => ∃ b, v = .bool b ∧ (b = true → p)
  | .suf b lo k, v => v = sufV (ρ b) lo k
  | .win b lo n, v => ∃ (ad : Addr) (cap : Nat), ad.spot = none ∧ (∀ q : Ptr, q.b = b → q.val ρ = .pointer (some (ad.add q.co))) ∧ v = .slice (some (ad.add lo)) n cap ∧ n ≤ cap
  | .nil, v => v = .slice none 0 0
  | .undef, _ => True

def AV.refs : AV → List Nat
  | .val t x => t.refs x
  | .tup l => l.flatMap fun t => t.t.refs t.x
  | .win b _ _ => [b]
  | .suf b _ _ => [b]
  | _ => []

def Blk.refs : Blk → List Nat
  | .cells t x => t.refs x
  | .row _ _ _ => []

def RB (P : Program) (ρ : Nat → Value) (w : World) (I : Nat → Prop) (v : Value) : Blk → Prop
  | .cells t x => ∃ r tid cur, v = .pointer (some ⟨r, 0, none⟩) ∧ w.heap[r]? = some (.cells cur tid (0, 0)) ∧ Rd P t false ρ w I x cur.toList
  | .row e l tid => ∃ xs, World.rowOf w 0 tid e.size v l.length xs ∧ Rd P (.arr l.length e) false ρ0 w I l xs

/-- What stays the same while a call runs. -/
structure Cx where
  P : Program
  w0 : World
  ok : Nat → Prop
  n : Nat
  /-- The blocks below np are lent by the caller: they stay where they are. -/
  np : Nat
  pv : Nat → Value
  /-- Blocks that the caller gave up: the call's own. -/
  gv : Nat → Prop

def Cx.E (cx : Cx) (r : Nat) : Prop := (∃ j, j < cx.np ∧ real (cx.pv j) = some r) ∨ cx.gv r
def Cx.J (cx : Cx) (r : Nat) : Prop := cx.w0.heap.size ≤ r ∨ cx.gv r

def Cx.I (cx : Cx) (ρ : Nat → Value) (s : St) (r : Nat) : Prop := (cx.ok r ∨ cx.J r) ∧ ∀ b k, s.hp b = some k → real (ρ b) ≠ some r

structure M (cx : Cx) (ρ : Nat → Value) (F : Nat → Prop) (s : St) (a : Act) (w : World) : Prop where
  os : w.os = cx.w0.os
  tape : Tp cx.w0 w
  output : w.output = cx.w0.output
  size : cx.w0.heap.size ≤ w.heap.size
  keeps : ∀ r, r < cx.w0.heap.size → ¬ cx.E r → w.heap[r]? = cx.w0.heap[r]?
  slots : ∀ d, RV cx.P ρ w (cx.I ρ s) (s.sl d) (a.tmps.getD d undef)
  blks : ∀ b k, s.hp b = some k → RB cx.P ρ w (cx.I ρ s) (ρ b) k
  sep : ∀ b b' k k' r, s.hp b = some k → s.hp b' = some k' → real (ρ b) = some r → real (ρ b') = some r → b = b'
  fresh : ∀ b k r, s.hp b = some k → real (ρ b) = some r → (cx.J r ∨ (cx.E r ∧ b < cx.np)) ∧ r < w.heap.size
  srefs : ∀ d, ∀ b ∈ (s.sl d).refs, F b
  brefs : ∀ b k, s.hp b = some k → F b ∧ ∀ c ∈ k.refs, F c
  rho : ∀ b, (ρ b).oneCell' = true
  defers : a.defers = []
  tsize : a.tmps.size = cx.n
  pin : ∀ j, j < cx.np → ρ j = cx.pv j ∧ F j

theorem RV.mono {P : Program} {ρ ρ' : Nat → Value} {w w' : World} {I I' : Nat → Prop} {av : AV} {v : Value} (h : RV P ρ w I av v) (hρ : ∀ b ∈ av.refs, ρ' b = ρ b)
    (hp : Pres I w w') (hI : ∀ r, r < w.heap.size → I r → I' r) : RV P ρ' w' I' av v := by
  cases av with
  | val t x =>
    obtain ⟨c, rfl, hc⟩ := h
    exact ⟨c, rfl, (hc.mono hp hI).rho hρ⟩
  | imm t x off =>
    obtain ⟨ad, c, rfl, h1, h2, h3, h4, h5⟩ := h
    exact ⟨ad, c, rfl, h1, hI _ h3 h2, Nat.lt_of_lt_of_le h3 hp.1, h4.pres (hp.2 _ h3 h2), h5.mono hp hI⟩
  | tup l =>
    obtain ⟨vs, rfl, hl, h⟩ := h
    refine ⟨vs, rfl, hl, fun i t u ht hu => ?_⟩
    obtain ⟨c, rfl, hc⟩ := h i t u ht hu
    exact ⟨c, rfl, (hc.mono hp hI).rho fun b hb => hρ b (List.mem_flatMap.2 ⟨t, List.mem_of_getElem? ht, hb⟩)⟩
  | anyb p => exact h
  | suf b lo k =>
    have h : v = sufV (ρ b) lo k := h
    show v = sufV (ρ' b) lo k
    rw [hρ b (List.mem_singleton.2 rfl)]; exact h
  | win b lo n =>
    obtain ⟨ad, cap, h1, h2, h3⟩ := h
    exact ⟨ad, cap, h1, fun q hq => by rw [Ptr.val_congr (ρ := ρ) (ρ' := ρ') (by rw [hq]; exact hρ b (List.mem_singleton.2 rfl))]; exact h2 q hq, h3⟩
  | nil => exact h
  | undef => trivial

theorem RB.mono {P : Program} {ρ ρ' : Nat → Value} {w w' : World} {I I' : Nat → Prop} {k : Blk} {v : Value} (h : RB P ρ w I v k) (hρ : ∀ b ∈ k.refs, ρ' b = ρ b)
    (hp : Pres I w w') (hI : ∀ r, r < w.heap.size → I r → I' r) (hv : ∀ r, real v = some r → w'.heap[r]? = w.heap[r]?) : RB P ρ' w' I' v k := by
  cases k with
  | cells t x =>
    obtain ⟨r, tid, cur, rfl, h1, h2⟩ := h
    exact ⟨r, tid, cur, rfl, (hv r rfl).trans h1, (h2.mono hp hI).rho hρ⟩
  | row e l tid =>
    obtain ⟨xs, ⟨h0, h1⟩, h2⟩ := h
    refine ⟨xs, ⟨h0, ?_⟩, h2.mono hp hI⟩
    rcases h1 with h1 | ⟨g, cap, cur, rfl, hc, hb, hg, h⟩
    · exact .inl h1
    · exact .inr ⟨g, cap, cur, rfl, hc, hb, (hv g (real_slice hc)).trans hg, h⟩

end Go.Sx
