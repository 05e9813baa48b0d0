/-
  Plain functions, and how a function of the program is shown to compute one.
-/
import Derived.Test.YtolkdkhdkfndfaaSxFnH
namespace Go.Sx

/-! The words of the plain functions. -/
def iadd (k : IntKind) (x y : Int) : Int := k.wrap (x + y)
def isub (k : IntKind) (x y : Int) : Int := k.wrap (x - y)
def imul (k : IntKind) (x y : Int) : Int := k.wrap (x * y)
def iquo (k : IntKind) (x y : Int) : Int := k.wrap (x.tdiv y)
def irem (x y : Int) : Int := x.tmod y
def ishl (k : IntKind) (x y : Int) : Int := k.wrap (x * 2 ^ (min y.toNat k.bits))
def ishr (k : IntKind) (x y : Int) : Int := x.fdiv (2 ^ (min y.toNat k.bits))
def icom (k : IntKind) (x : Int) : Int := ibits .xor k (if k.signed then -1 else k.max) x
def icv (k : IntKind) (x : Int) : Int := k.wrap x
def ine (x y : Int) : Bool := decide (¬ x = y)
def ilt (x y : Int) : Bool := decide (x < y)
def ile (x y : Int) : Bool := decide (x ≤ y)
def igt (x y : Int) : Bool := decide (x > y)
def ige (x y : Int) : Bool := decide (x ≥ y)
def bne' (x y : Bool) : Bool := !(x == y)
def nz (x : Int) : Prop := ¬ x = 0
def ng (x : Int) : Prop := 0 ≤ x
def len {α : Type} (l : List α) : Int := (l.length : Int)
def el {α : Type} (z : α) (l : List α) (n : Int) : α := List.getD l n.toNat z
def st {α : Type} (l : List α) (n : Int) (y : α) : List α := l.set n.toNat y
def inL {α : Type} (n : Int) (l : List α) : Prop := inR n (l.length : Int)
def cut {α : Type} (l : List α) (a b : Int) : List α := List.drop a.toNat (List.take b.toNat l)
def cutOk {α : Type} (l : List α) (a b : Int) : Prop := 0 ≤ a ∧ a ≤ b ∧ b ≤ (l.length : Int)
def room {α : Type} (bytes : Nat) (l m : List α) : Prop := roomFor bytes l.length m.length
def mk0 {α : Type} (z : α) (n : Int) : List α := List.replicate n.toNat z
def room0 {α : Type} (bytes : Nat) (m : List α) : Prop := roomFor bytes 0 m.length

instance {α : Type} (l : List α) : Decidable (NE l) := match l with
  | [] => isFalse id
  | _ :: _ => isTrue trivial
instance (x : Int) : Decidable (nz x) := by unfold nz; infer_instance
instance (x : Int) : Decidable (ng x) := by unfold ng; infer_instance
instance (x y : Int) : Decidable (inR x y) := by unfold inR; infer_instance
instance {α : Type} (x : Int) (y : List α) : Decidable (inL x y) := by unfold inL; infer_instance
def tk {α : Type} (l : List α) (b : Int) : List α := List.take b.toNat l
def tkOk {α : Type} (l : List α) (b : Int) : Prop := 0 ≤ b ∧ b ≤ (l.length : Int)
def clr {α : Type} (z : α) (l : List α) (n : Nat) : List α := l.take n ++ List.replicate (l.length - n) z
instance (b : Nat) (n : Int) : Decidable (zAp b n) := by unfold zAp; infer_instance
instance (n : Int) (m : Nat) : Decidable (sufIn n m) := by unfold sufIn; infer_instance
theorem retgP {O : Prop} (o : O) (k : Option Blk) : O ∧ (True ∧ k = k) := ⟨o, trivial, rfl⟩
instance {α : Type} (l : List α) (y : Int) : Decidable (tkOk l y) := by unfold tkOk; infer_instance
instance {α : Type} (l : List α) (x y : Int) : Decidable (cutOk l x y) := by unfold cutOk; infer_instance
instance {α : Type} (b : Nat) (l m : List α) : Decidable (room b l m) := by unfold room roomFor; infer_instance
instance {α : Type} (b : Nat) (m : List α) : Decidable (room0 b m) := by unfold room0 roomFor; infer_instance

def bif' {α : Type} (b : Bool) (x y : Option α) : Option α := match b with
  | true => x
  | false => y
def req {α : Type} (p : Prop) [Decidable p] (x : Option α) : Option α := if p then x else none
def bnd {α β : Type} (x : Option α) (f : α → Option β) : Option β := match x with
  | some y => f y
  | none => none
def two {α β γ : Type} (x : α ⊕ β) (f : α → γ) (g : β → γ) : γ := match x with
  | .inl a => f a
  | .inr b => g b

/-- A list, by its head. -/
def splitL {α : Type} : Option (List α) → Option (Unit ⊕ (α × List α))
  | none => none
  | some [] => some (.inl ())
  | some (a :: l) => some (.inr (a, l))
theorem splitL_nil {α : Type} {o : Option (List α)} {s : Unit ⊕ (α × List α)} {v : Unit} (e : splitL o = some s) (h : s = .inl v) : o = some [] := by
  match o, e with
  | some [], _ => rfl
  | some (a :: l), e => rw [h] at e; cases e
theorem splitL_cons {α : Type} {o : Option (List α)} {s : Unit ⊕ (α × List α)} {v : α × List α} (e : splitL o = some s) (h : s = .inr v) : o = some (v.1 :: v.2) := by
  match o, e with
  | some [], e => rw [h] at e; cases e
  | some (a :: l), e => rw [h] at e; cases e; rfl

/-- Whatever it gives, C holds of it. -/
def Owp {α : Type} (o : Option α) (C : α → Prop) : Prop := ∀ y, o = some y → C y

theorem Owp.none {α : Type} {C : α → Prop} : Owp (none : Option α) C := fun _ h => nomatch h
theorem Owp.some {α : Type} {C : α → Prop} {v : α} (h : C v) : Owp (some v) C := fun _ e => Option.some.inj e ▸ h
theorem Owp.bif {α : Type} {C : α → Prop} {b : Bool} {x y : Option α} (h1 : b = true → Owp x C) (h2 : b = false → Owp y C) : Owp (bif' b x y) C := by
  cases b
  · exact h2 rfl
  · exact h1 rfl
theorem Owp.req {α : Type} {C : α → Prop} {p : Prop} [Decidable p] {x : Option α} (h : p → Owp x C) : Owp (Sx.req p x) C := by
  intro y e
  unfold Sx.req at e
  split at e
  · rename_i hp; exact h hp y e
  · cases e
theorem Owp.bnd {α β : Type} {C : β → Prop} {x : Option α} {f : α → Option β} (h : ∀ v, x = Option.some v → Owp (f v) C) : Owp (Sx.bnd x f) C := by
  intro y e
  cases x with
  | none => cases e
  | some v => exact h v rfl y e
theorem Owp.two {α β γ : Type} {C : γ → Prop} {x : α ⊕ β} {f : α → Option γ} {g : β → Option γ} (h1 : ∀ v, x = .inl v → Owp (f v) C) (h2 : ∀ v, x = .inr v → Owp (g v) C) : Owp (Sx.two x f g) C := by
  cases x with
  | inl a => exact h1 a rfl
  | inr a => exact h2 a rfl
theorem Owp.of {α : Type} {C : α → Prop} {o o' : Option α} (e : o = o') (h : Owp o' C) : Owp o C := e ▸ h
theorem Owp.ap {α : Type} {C : α → Prop} {o : Option α} (h : Owp o C) {y : α} (e : o = Option.some y) : C y := h y e

theorem tt : true = true := rfl
theorem ff : false = false := rfl
theorem exne (i : Nat) : Ex.exit i ≠ Ex.normal := fun h => nomatch h
theorem exne_ret : Ex.ret ≠ Ex.normal := fun h => nomatch h

theorem via {T X : Prop} (p : T) (e : X = T) : X := e.mpr p

def ShowsSelf (g : List (Nat × Nat)) (pre : SL) : Prop :=
  pre.sl.map (fun x => x.2.ren (ren g)) = pre.sl.map (fun x => x.2.ren (ren g)) ∧ pre.hp.map (fun x => some (x.2.ren (ren g))) = pre.hp.map (fun x => some (x.2.ren (ren g)))
theorem showsSelf (g : List (Nat × Nat)) (pre : SL) : ShowsSelf g pre := ⟨rfl, rfl⟩

theorem finP {O : Prop} (o : O) (ex : Ex) (g : List (Nat × Nat)) (post : SL) : O ∧ (ex = ex ∧ (ShowsSelf g post ∧ true = true)) := ⟨o, rfl, showsSelf g post, rfl⟩
theorem cutP {O T K : Prop} (o : O) (g : List (Nat × Nat)) (pre : SL) (t : T) (k : K) : O ∧ ((O ∧ (ShowsSelf g pre ∧ (true = true ∧ T))) ∧ K) := ⟨o, ⟨o, showsSelf g pre, rfl, t⟩, k⟩

def RT.self : (r : RT) → r.den → Prop
  | .dp t, y => AV.val t y = AV.val t y
  | .ow e tid, (l : List e.den) => some (Blk.row e l tid) = some (Blk.row e l tid)
  | .dn _, _ => True
theorem RT.selfP : (r : RT) → (y : r.den) → r.self y
  | .dp _, _ => rfl
  | .ow _ _, _ => rfl
  | .dn _, _ => trivial
def Rs.self : (rs : Rs) → rs.den → Prop
  | .none, _ => ([] : List ResultVar) = []
  | .one r, y => r.self y
  | .more r rs, y => r.self y.1 ∧ rs.self y.2
theorem Rs.selfP : (rs : Rs) → (y : rs.den) → rs.self y
  | .none, _ => rfl
  | .one r, y => r.selfP y
  | .more r rs, y => ⟨r.selfP y.1, rs.selfP y.2⟩
theorem retnP {O : Prop} (o : O) (e : Ty) (l : List e.den) (h : NE l) : O ∧ (True ∧ (AV.val (.slice e) l = AV.val (.slice e) l ∧ NE l)) := ⟨o, trivial, rfl, h⟩
theorem retnilP {O : Prop} (o : O) : O ∧ (True ∧ True) := ⟨o, trivial, trivial⟩
theorem retP {O : Prop} (o : O) (rs : Rs) (y : rs.den) : O ∧ (True ∧ rs.self y) := ⟨o, trivial, rs.selfP y⟩

theorem retwP {O : Prop} (o : O) (t : Ty) (x : t.den) (rs : Rs) (y : rs.den) : O ∧ (True ∧ (some (Blk.cells t x) = some (Blk.cells t x) ∧ rs.self y)) := ⟨o, trivial, rfl, rs.selfP y⟩

/-! Calls that are lent blocks -/
def SelfArgs (g : List (Nat × Nat)) : List HArg → Prop
  | [] => True
  | .lent av :: l => av.ren (ren g) = av.ren (ren g) ∧ SelfArgs g l
  | .dat _ x :: l => some x = some x ∧ SelfArgs g l
theorem selfArgs (g : List (Nat × Nat)) : ∀ l, SelfArgs g l
  | [] => trivial
  | .lent _ :: l => ⟨rfl, selfArgs g l⟩
  | .dat _ _ :: l => ⟨rfl, selfArgs g l⟩
def SelfBlks (g : List (Nat × Nat)) (l : List (Nat × Blk)) : Prop := l.map (fun b => some (b.2.ren (ren g))) = l.map (fun b => some (b.2.ren (ren g)))
theorem callHP (h : HSp) (g : List (Nat × Nat)) (x : h.xs.den) {y : h.ys.den} (e : h.g x = some y) : SelfArgs g (h.args x) ∧ (SelfBlks g (h.pre x) ∧ h.g x = some y) := ⟨selfArgs g _, rfl, e⟩
theorem rethP {O : Prop} (o : O) (l : List (Nat × Blk)) (rs : Rs) (y : rs.den) : O ∧ (True ∧ (l.map (fun b => some b.2) = l.map (fun b => some b.2) ∧ rs.self y)) := ⟨o, trivial, rfl, rs.selfP y⟩

/-- A part of code, by the way to it. -/
def sub : Code → List Nat → Code
  | c, [] => c
  | .seq a b, i :: p => match i with
    | 0 => sub a p
    | _ => sub b p
  | .cond _ a b, i :: p => match i with
    | 0 => sub a p
    | _ => sub b p
  | .block _ b, _ :: p => sub b p
  | .loop b, _ :: p => sub b p
  | c, _ => c
def Func.cd (fn : Func) : Code := match fn.body with
  | some c => c
  | none => .skip

theorem FnsOk.nil {P : Program} {T : List (Nat × Ty)} {e : List (Nat × Ty)} {n p : Nat} {hs : List (Nat × HSp)} {z : Bool} : FnsOk P ⟨T, [], e, n, p, hs, z⟩ := fun _ _ h => by cases h
theorem FnsOk.cons {P : Program} {T : List (Nat × Ty)} {e : List (Nat × Ty)} {n p : Nat} {hs : List (Nat × HSp)} {z : Bool} {f : Nat} {sp : Spec} {l : List (Nat × Spec)} (h : FnOk P f sp) (hl : FnsOk P ⟨T, l, e, n, p, hs, z⟩) : FnsOk P ⟨T, (f, sp) :: l, e, n, p, hs, z⟩ := by
  intro g sp' hm
  rcases List.mem_cons.1 hm with hm | hm
  · obtain ⟨rfl, rfl⟩ := Prod.mk.inj hm
    exact h
  · exact hl g sp' hm

theorem HsOk.nil {P : Program} : ∀ f h, (f, h) ∈ ([] : List (Nat × HSp)) → HOk P f h := fun _ _ h => by cases h
theorem HsOk.cons {P : Program} {f : Nat} {h : HSp} {l : List (Nat × HSp)} (h1 : HOk P f h) (h2 : ∀ f h, (f, h) ∈ l → HOk P f h) : ∀ g k, (g, k) ∈ (f, h) :: l → HOk P g k := by
  intro g k hm
  rcases List.mem_cons.1 hm with hm | hm
  · obtain ⟨rfl, rfl⟩ := Prod.mk.inj hm
    exact h1
  · exact h2 g k hm

def tysB (P : Program) (T : List (Nat × Ty)) : Bool := T.all fun x => tyOk P x.1 x.2
theorem tys_ok {P : Program} {T : List (Nat × Ty)} (h : tysB P T = true) {f : List (Nat × Spec)} {e : List (Nat × Ty)} {n p : Nat} {hs : List (Nat × HSp)} {z : Bool} : TOk P ⟨T, f, e, n, p, hs, z⟩ := fun t ty hm => List.all_eq_true.1 h (t, ty) hm

theorem ctx_ok {P : Program} {T : List (Nat × Ty)} (hT : tysB P T = true) {e : List (Nat × Ty)} (he : ∀ t ty, (t, ty) ∈ e → EqOk P t ty) {n p : Nat} {hs : List (Nat × HSp)} {z : Bool} {f : List (Nat × Spec)} (hf : FnsOk P ⟨T, f, e, n, p, hs, z⟩) (hh : ∀ f h, (f, h) ∈ hs → HOk P f h) : CtxOk P ⟨T, f, e, n, p, hs, z⟩ :=
  ⟨tys_ok hT, hf, hh, he⟩

/-- A loop, round for round. -/
def rounds {V R : Type} (step : (V → Option R) → V → Option R) : Nat → V → Option R
  | 0, _ => none
  | n + 1, v => step (rounds step n) v

theorem Owp.rounds {V R : Type} {step : (V → Option R) → V → Option R} {C : V → R → Prop} (h : ∀ rec, (∀ v, Owp (rec v) (C v)) → ∀ v, Owp (step rec v) (C v)) : ∀ n v, Owp (Sx.rounds step n v) (C v) := by
  intro n
  induction n with
  | zero => intro v y e; cases e
  | succ n ih => intro v; exact h _ ih v
end Go.Sx
