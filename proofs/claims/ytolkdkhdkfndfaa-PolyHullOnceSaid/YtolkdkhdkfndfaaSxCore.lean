/-
  A typed reading of memory: what a value, a row of cells and a call mean in plain Lean data.
-/
import Derived.Below
import Derived.Laws.AppendOwn
import Derived.Orders
import Derived.KernelRfl
namespace Go.Sx

/-- The kinds of plain data. -/
inductive Ty where
  | int (k : IntKind)
  | bool
  | unit
  | nil
  | pair (a b : Ty)
  | slice (e : Ty)
  | arr (n : Nat) (e : Ty)
  | own
  | ptr
  | clo
  | fn (ps r : Ty)
  | fn2 (ps a b : Ty)
  | ref (t : Ty)

def Ty.same : Ty → Ty → Bool
  | .int k, .int k' => decide (k = k')
  | .bool, .bool => true
  | .unit, .unit => true
  | .nil, .nil => true
  | .pair a b, .pair c d => a.same c && b.same d
  | .slice e, .slice e' => e.same e'
  | .arr n e, .arr m e' => Nat.beq n m && e.same e'
  | .own, .own => true
  | .ptr, .ptr => true
  | .clo, .clo => true
  | .fn p r, .fn p' r' => p.same p' && r.same r'
  | .fn2 p a b, .fn2 p' a' b' => p.same p' && (a.same a' && b.same b')
  | .ref t, .ref t' => t.same t'
  | _, _ => false

theorem Ty.same_eq : ∀ {a b : Ty}, a.same b = true → a = b := by
  intro a
  induction a with
  | int k => intro b h; cases b <;> simp [Ty.same] at h; rw [h]
  | bool => intro b h; cases b <;> simp [Ty.same] at h; rfl
  | unit => intro b h; cases b <;> simp [Ty.same] at h; rfl
  | nil => intro b h; cases b <;> simp [Ty.same] at h; rfl
  | pair a b iha ihb => intro c h; cases c <;> simp [Ty.same] at h; rw [iha h.1, ihb h.2]
  | slice e ih => intro c h; cases c <;> simp [Ty.same] at h; rw [ih h]
  | arr n e ih => intro c h; cases c <;> simp [Ty.same] at h; rw [h.1, ih h.2]
  | own => intro b h; cases b <;> simp [Ty.same] at h; rfl
  | ptr => intro b h; cases b <;> simp [Ty.same] at h; rfl
  | clo => intro b h; cases b <;> simp [Ty.same] at h; rfl
  | fn p r ihp ihr => intro c h; cases c <;> simp [Ty.same] at h; rw [ihp h.1, ihr h.2]
  | fn2 p a b ihp iha ihb => intro c h; cases c <;> simp [Ty.same] at h; rw [ihp h.1, iha h.2.1, ihb h.2.2]
  | ref t ih => intro c h; cases c <;> simp [Ty.same] at h; rw [ih h]

/-- A pointer into a block of the call's own: cells from its begin on, and an element of a row or an array. -/
structure Ptr where
  b : Nat
  off : Nat
  i : Int
  es : Nat
  inner : Nat

def Ptr.co (p : Ptr) : Nat := p.off + p.i.toNat * p.es + p.inner

def Ty.den : Ty → Type
  | .int _ => Int
  | .bool => Bool
  | .unit => Unit
  | .nil => Unit
  | .pair a b => a.den × b.den
  | .slice e => List e.den
  | .arr _ e => List e.den
  | .own => Nat
  | .ptr => Ptr
  | .clo => FuncId × List Ptr
  | .fn ps r => ps.den → Option r.den
  | .fn2 ps a b => ps.den → Option (a.den × b.den)
  | .ref t => t.den

def Ty.size : Ty → Nat
  | .pair a b => a.size + b.size
  | .arr n e => n * e.size
  | .unit => 0
  | _ => 1

def Ty.agg : Ty → Bool
  | .pair _ _ => true
  | .arr _ _ => true
  | .unit => true
  | _ => false

def Ty.as? (a b : Ty) (x : a.den) : Option b.den := if h : a.same b = true then some (Ty.same_eq h ▸ x) else none

theorem Ty.as?_some {a b : Ty} {x : a.den} {y : b.den} (h : Ty.as? a b x = some y) : ∃ e : a = b, y = e ▸ x := by
  unfold Ty.as? at h
  split at h
  · rename_i hs
    exact ⟨Ty.same_eq hs, (Option.some.inj h).symm⟩
  · cases h

def mkV (t : Ty) (cs : List Value) : Value := if t.agg then .agg cs.toArray else cs.headD undef

def CellsAt (w : World) (ad : Addr) (cs : List Value) : Prop := ∀ j v, cs[j]? = some v → w.cell? (ad.add j) = some v

def Ptr.val (ρ : Nat → Value) (p : Ptr) : Value :=
  match ρ p.b with
  | .pointer (some a) => .pointer (some (a.add p.co))
  | .slice (some a) _ _ => .pointer (some (a.add p.co))
  | _ => .nilFunc

/-- The block that p speaks of has an address. -/
def Ptr.good (ρ : Nat → Value) (p : Ptr) : Prop := ∃ ad : Addr, ad.spot = none ∧ ∀ q : Ptr, q.b = p.b → q.val ρ = .pointer (some (ad.add q.co))

/-- The letters of data that speak of no block of the call's own. -/
def ρ0 : Nat → Value := fun _ => .nilFunc
theorem ρ0_one (b : Nat) : (ρ0 b).oneCell' = true := rfl

/-- The tape is the same, and no draw is taken back. -/
structure Tp (w w' : World) : Prop where
  eq : w'.tape = w.tape
  le : w.drawn ≤ w'.drawn
theorem Tp.refl (w : World) : Tp w w := ⟨rfl, Nat.le_refl _⟩
theorem Tp.trans {a b c : World} (h' : Tp b c) (h : Tp a b) : Tp a c := ⟨h'.eq.trans h.eq, Nat.le_trans h.le h'.le⟩
/-- Below block number B the world w' is as w was; the streams are as they were; no block has gone, and no draw is taken back. -/
structure Below (B : Nat) (w w' : World) : Prop where
  os : w'.os = w.os
  tape : Tp w w'
  output : w'.output = w.output
  size : w.heap.size ≤ w'.heap.size
  block : ∀ k, k < B → w'.heap[k]? = w.heap[k]?
theorem Below.kit {B : Nat} {w w' : World} (h : Below B w w') : Go.RowKit.Below B w w' := ⟨h.os, h.tape.eq, h.output, h.size, h.block⟩
theorem Below.of {B : Nat} {w w' : World} (h : Go.RowKit.Below B w w') (g : w.drawn ≤ w'.drawn) : Below B w w' := ⟨h.os, ⟨h.tape, g⟩, h.output, h.size, h.block⟩
theorem Below.refl (B : Nat) (w : World) : Below B w w := ⟨rfl, Tp.refl w, rfl, Nat.le_refl _, fun _ _ => rfl⟩
theorem Below.drew {B : Nat} {a w : World} (h : Below B a w) : Below B a w.drew := ⟨h.os, ⟨h.tape.eq, Nat.le_succ_of_le h.tape.le⟩, h.output, h.size, h.block⟩
theorem Below.alloc {B : Nat} {a w : World} (h : Below B a w) (hB : B ≤ w.heap.size) (o : Obj) : Below B a (w.alloc o) := .of (h.kit.alloc hB o) h.tape.le

/-- A call of function f: it returns, and R holds of its result. -/
def InvOk (P : Program) (f : FuncId) (args : Array Value) (w : World) (R : Value → World → Prop) : Prop :=
  ∀ (o : Oper) (a : Act) (next : Act → World → Prop) (Q : Exit → Act → World → Prop), (∀ v w', R v w' → next (a.put o.dst v) w') →
    o.upon P a next Q ((callFunc f args).run P w)

/-- Of the blocks in I nothing has turned. -/
def Pres (I : Nat → Prop) (w w' : World) : Prop := w.heap.size ≤ w'.heap.size ∧ ∀ r, r < w.heap.size → I r → w'.heap[r]? = w.heap[r]?

/-- The cells cs read as x; what they lead to lies in blocks of I. With 'args': a list of arguments. -/
def Rd (P : Program) : (t : Ty) → (args : Bool) → (Nat → Value) → World → (Nat → Prop) → t.den → List Value → Prop
  | .int k, false, _, _, _, n, cs => cs = [.int k n]
  | .bool, false, _, _, _, b, cs => cs = [.bool b]
  | .nil, false, _, _, _, _, cs => cs = [.slice none 0 0]
  | .unit, _, _, _, _, _, cs => cs = []
  | .pair a b, false, ρ, w, I, x, cs => ∃ c1 c2, cs = c1 ++ c2 ∧ Rd P a false ρ w I x.1 c1 ∧ Rd P b false ρ w I x.2 c2
  | .pair a b, true, ρ, w, I, x, cs => ∃ c1 vs, cs = mkV a c1 :: vs ∧ Rd P a false ρ w I x.1 c1 ∧ Rd P b true ρ w I x.2 vs
  | .slice e, false, _, w, I, (l : List e.den), cs => ∃ A cap, cs = [.slice A l.length cap] ∧ l.length ≤ cap ∧
      (l = [] ∨ ∃ ad, A = some ad ∧ ad.spot = none ∧ I ad.block ∧ ad.block < w.heap.size ∧
        ∀ (i : Nat) (x : e.den), l[i]? = some x → ∃ c, CellsAt w (ad.add (i * e.size)) c ∧ Rd P e false ρ0 w I x c)
  | .arr n e, false, ρ, w, I, (l : List e.den), cs => l.length = n ∧ ∃ css : List (List Value), cs = css.flatten ∧ css.length = n ∧
        ∀ (i : Nat) (x : e.den) (c : List Value), l[i]? = some x → css[i]? = some c → Rd P e false ρ w I x c
  | .own, false, ρ, _, _, b, cs => cs = [ρ b]
  | .ptr, false, ρ, _, _, p, cs => cs = [p.val ρ] ∧ p.good ρ
  | .clo, false, ρ, _, _, c, cs => cs = [.func (.func c.1) #[] (c.2.map (·.val ρ)).toArray]
  | .fn ps r, false, _, w, I, g, cs => ∃ f caps, cs = [.func (.func f) #[] caps] ∧
      ∀ w', Pres I w w' → ∀ ok : Nat → Prop, (∀ b, ok b → b < w'.heap.size) → ∀ x y args, Rd P ps true ρ0 w' ok x args → g x = some y →
        InvOk P f (args.toArray ++ caps) w' fun v w'' => (∃ c, v = mkV r c ∧ Rd P r false ρ0 w'' (fun b => ok b ∨ (I b ∧ b < w.heap.size) ∨ w'.heap.size ≤ b) y c) ∧ Below w'.heap.size w' w''
  | .fn2 ps a b, false, _, w, I, g, cs => ∃ f caps, cs = [.func (.func f) #[] caps] ∧
      ∀ w', Pres I w w' → ∀ ok : Nat → Prop, (∀ b, ok b → b < w'.heap.size) → ∀ x y args, Rd P ps true ρ0 w' ok x args → g x = some y →
        InvOk P f (args.toArray ++ caps) w' fun v w'' => (∃ c1 c2, v = .tuple #[mkV a c1, mkV b c2] ∧ Rd P a false ρ0 w'' (fun b => ok b ∨ (I b ∧ b < w.heap.size) ∨ w'.heap.size ≤ b) y.1 c1 ∧
          Rd P b false ρ0 w'' (fun b => ok b ∨ (I b ∧ b < w.heap.size) ∨ w'.heap.size ≤ b) y.2 c2) ∧ Below w'.heap.size w' w''
  | .ref t, false, _, w, I, x, cs => ∃ ad c, cs = [.pointer (some ad)] ∧ ad.spot = none ∧ I ad.block ∧ ad.block < w.heap.size ∧ CellsAt w ad c ∧ Rd P t false ρ0 w I x c
  | _, true, _, _, _, _, _ => False

theorem flatten_len {α β : Type} (m : Nat) (R : α → List β → Prop) (hR : ∀ x c, R x c → c.length = m) : ∀ (l : List α) (css : List (List β)), l.length = css.length →
    (∀ (i : Nat) (x : α) (c : List β), l[i]? = some x → css[i]? = some c → R x c) → css.flatten.length = css.length * m := by
  intro l
  induction l with
  | nil => intro css hcl _; have : css = [] := List.eq_nil_of_length_eq_zero hcl.symm; subst this; simp
  | cons y l ihl =>
    intro css hcl hr
    cases css with
    | nil => simp at hcl
    | cons c css =>
      have h0 := hR _ _ (hr 0 y c rfl rfl)
      have h1 := ihl css (by simpa using hcl) (fun i x c hx hc => hr (i + 1) x c (by simpa using hx) (by simpa using hc))
      simp only [List.flatten_cons, List.length_append, h0, h1, List.length_cons, Nat.add_mul]
      omega

theorem Rd.length {P : Program} : ∀ {t : Ty} {ρ : Nat → Value} {w : World} {I : Nat → Prop} {x : t.den} {cs : List Value}, Rd P t false ρ w I x cs → cs.length = t.size := by
  intro t
  induction t with
  | pair a b iha ihb =>
    intro ρ w I x cs h
    obtain ⟨c1, c2, rfl, h1, h2⟩ := h
    simp [Ty.size, iha h1, ihb h2]
  | arr n e ih =>
    intro ρ w I x cs h
    obtain ⟨hl, css, rfl, hn, hi⟩ := h
    have := flatten_len e.size (fun x c => Rd P e false ρ w I x c) (fun _ _ h => ih h) x css (by rw [hl, hn]) hi
    simpa [Ty.size, hn] using this
  | unit => intro ρ w I x cs h; simp only [Rd] at h; subst h; rfl
  | int k => intro ρ w I x cs h; simp only [Rd] at h; subst h; rfl
  | bool => intro ρ w I x cs h; simp only [Rd] at h; subst h; rfl
  | nil => intro ρ w I x cs h; simp only [Rd] at h; subst h; rfl
  | own => intro ρ w I x cs h; simp only [Rd] at h; subst h; rfl
  | ptr => intro ρ w I x cs h; obtain ⟨rfl, _⟩ := h; rfl
  | clo => intro ρ w I x cs h; simp only [Rd] at h; subst h; rfl
  | slice e _ => intro ρ w I x cs h; obtain ⟨A, cap, rfl, _⟩ := h; rfl
  | fn p r _ _ => intro ρ w I x cs h; obtain ⟨f, caps, rfl, _⟩ := h; rfl
  | fn2 p a b _ _ _ => intro ρ w I x cs h; obtain ⟨f, caps, rfl, _⟩ := h; rfl
  | ref t _ => intro ρ w I x cs h; obtain ⟨ad, c, rfl, _⟩ := h; rfl

theorem CellsAt.pres {w w' : World} {ad : Addr} {c : List Value} (h : CellsAt w ad c) (hb : w'.heap[ad.block]? = w.heap[ad.block]?) : CellsAt w' ad c := by
  intro j v hv
  have h1 := h j v hv
  have hbl : (ad.add j).block = ad.block := by unfold Addr.add; split <;> rfl
  exact (World.cell?_of_block (w := w) (w' := w') (a := ad.add j) (by rw [hbl]; exact hb)).trans h1

theorem Pres.refl (I : Nat → Prop) (w : World) : Pres I w w := ⟨Nat.le_refl _, fun _ _ _ => rfl⟩
theorem Pres.trans {I I' : Nat → Prop} {a b c : World} (h : Pres I a b) (hI : ∀ r, r < a.heap.size → I r → I' r) (h' : Pres I' b c) : Pres I a c :=
  ⟨Nat.le_trans h.1 h'.1, fun r hr hi => (h'.2 r (Nat.lt_of_lt_of_le hr h.1) (hI r hr hi)).trans (h.2 r hr hi)⟩

theorem InvOk.mono {P : Program} {f : FuncId} {args : Array Value} {w : World} {R R' : Value → World → Prop} (h : InvOk P f args w R) (hr : ∀ v w', R v w' → R' v w') : InvOk P f args w R' :=
  fun o a next Q hn => h o a next Q fun v w' hv => hn v w' (hr v w' hv)

theorem Rd.mono {P : Program} : ∀ {t : Ty} {args : Bool} {ρ : Nat → Value} {w w' : World} {I I' : Nat → Prop} {x : t.den} {cs : List Value},
    Rd P t args ρ w I x cs → Pres I w w' → (∀ r, r < w.heap.size → I r → I' r) → Rd P t args ρ w' I' x cs := by
  intro t
  induction t with
  | pair a b iha ihb =>
    intro args ρ w w' I I' x cs h hp hI
    cases args with
    | false => obtain ⟨c1, c2, rfl, h1, h2⟩ := h; exact ⟨c1, c2, rfl, iha h1 hp hI, ihb h2 hp hI⟩
    | true => obtain ⟨c1, c2, rfl, h1, h2⟩ := h; exact ⟨c1, c2, rfl, iha h1 hp hI, ihb h2 hp hI⟩
  | arr n e ih =>
    intro args ρ w w' I I' x cs h hp hI
    cases args with
    | false => obtain ⟨hl, css, rfl, hn, hi⟩ := h; exact ⟨hl, css, rfl, hn, fun i x c hx hc => ih (hi i x c hx hc) hp hI⟩
    | true => exact h.elim
  | slice e ih =>
    intro args ρ w w' I I' x cs h hp hI
    cases args with
    | true => exact h.elim
    | false =>
      obtain ⟨A, cap, rfl, hc, h⟩ := h
      refine ⟨A, cap, rfl, hc, ?_⟩
      rcases h with h | ⟨ad, h1, h2, h3, h4, h5⟩
      · exact .inl h
      · refine .inr ⟨ad, h1, h2, hI _ h4 h3, Nat.lt_of_lt_of_le h4 hp.1, fun i x hx => ?_⟩
        obtain ⟨c, hc, hr⟩ := h5 i x hx
        refine ⟨c, hc.pres ?_, ih hr hp hI⟩
        have hbl : (ad.add (i * e.size)).block = ad.block := by unfold Addr.add; split <;> rfl
        rw [hbl]
        exact hp.2 _ h4 h3
  | fn2 ps a b _ iha ihb =>
    intro args ρ w w' I I' x cs h hp hI
    cases args with
    | true => exact h.elim
    | false =>
      obtain ⟨f, caps, rfl, h⟩ := h
      refine ⟨f, caps, rfl, fun w2 hp2 ok hok x y args hx hy => (h w2 (hp.trans hI hp2) ok hok x y args hx hy).mono ?_⟩
      rintro v w3 ⟨⟨c1, c2, rfl, hc1, hc2⟩, hb⟩
      have key : ∀ q, q < w3.heap.size → (ok q ∨ (I q ∧ q < w.heap.size) ∨ w2.heap.size ≤ q) → (ok q ∨ (I' q ∧ q < w'.heap.size) ∨ w2.heap.size ≤ q) := by
        rintro q _ (hq | ⟨hq, hq'⟩ | hq)
        · exact .inl hq
        · exact .inr (.inl ⟨hI q hq' hq, Nat.lt_of_lt_of_le hq' hp.1⟩)
        · exact .inr (.inr hq)
      exact ⟨⟨c1, c2, rfl, iha hc1 (Pres.refl _ _) key, ihb hc2 (Pres.refl _ _) key⟩, hb⟩
  | fn ps r _ ihr =>
    intro args ρ w w' I I' x cs h hp hI
    cases args with
    | true => exact h.elim
    | false =>
      obtain ⟨f, caps, rfl, h⟩ := h
      refine ⟨f, caps, rfl, fun w2 hp2 ok hok x y args hx hy => (h w2 (hp.trans hI hp2) ok hok x y args hx hy).mono ?_⟩
      rintro v w3 ⟨⟨c, rfl, hc⟩, hb⟩
      refine ⟨⟨c, rfl, ihr hc (Pres.refl _ _) ?_⟩, hb⟩
      rintro q _ (hq | ⟨hq, hq'⟩ | hq)
      · exact .inl hq
      · exact .inr (.inl ⟨hI q hq' hq, Nat.lt_of_lt_of_le hq' hp.1⟩)
      · exact .inr (.inr hq)
  | ref t ih =>
    intro args ρ w w' I I' x cs h hp hI
    cases args with
    | true => exact h.elim
    | false =>
      obtain ⟨ad, c, rfl, h2, h3, h4, h5, h6⟩ := h
      exact ⟨ad, c, rfl, h2, hI _ h4 h3, Nat.lt_of_lt_of_le h4 hp.1, h5.pres (hp.2 _ h4 h3), ih h6 hp hI⟩
  | unit => intro args ρ w w' I I' x cs h hp hI; cases args <;> exact h
  | int k => intro args ρ w w' I I' x cs h hp hI; cases args <;> exact h
  | bool => intro args ρ w w' I I' x cs h hp hI; cases args <;> exact h
  | nil => intro args ρ w w' I I' x cs h hp hI; cases args <;> exact h
  | own => intro args ρ w w' I I' x cs h hp hI; cases args <;> exact h
  | ptr => intro args ρ w w' I I' x cs h hp hI; cases args <;> exact h
  | clo => intro args ρ w w' I I' x cs h hp hI; cases args <;> exact h

/-- Kinds without addresses of the call's own. -/
def Ty.deep : Ty → Bool
  | .own => false
  | .ptr => false
  | .clo => false
  | .pair a b => a.deep && b.deep
  | .arr _ e => e.deep
  | _ => true

/-- The blocks of the call's own that a value speaks of. -/
def Ty.refs : (t : Ty) → t.den → List Nat
  | .own, b => [b]
  | .ptr, p => [p.b]
  | .clo, c => c.2.map (·.b)
  | .pair a b, x => a.refs x.1 ++ b.refs x.2
  | .arr _ e, (l : List e.den) => if e.deep then [] else l.flatMap e.refs
  | _, _ => []

theorem Ptr.val_congr {ρ ρ' : Nat → Value} {p : Ptr} (h : ρ' p.b = ρ p.b) : p.val ρ' = p.val ρ := by unfold Ptr.val; rw [h]

theorem Ty.deep_refs : ∀ {t : Ty} {x : t.den}, t.deep = true → t.refs x = [] := by
  intro t
  induction t with
  | pair a b iha ihb => intro x h; simp [Ty.deep] at h; simp [Ty.refs, iha h.1, ihb h.2]
  | arr n e _ => intro x h; simp only [Ty.deep] at h; simp [Ty.refs, h]
  | own => intro x h; simp [Ty.deep] at h
  | ptr => intro x h; simp [Ty.deep] at h
  | clo => intro x h; simp [Ty.deep] at h
  | _ => intros; rfl

theorem Rd.rho {P : Program} : ∀ {t : Ty} {args : Bool} {ρ ρ' : Nat → Value} {w : World} {I : Nat → Prop} {x : t.den} {cs : List Value},
    Rd P t args ρ w I x cs → (∀ b ∈ t.refs x, ρ' b = ρ b) → Rd P t args ρ' w I x cs := by
  intro t
  induction t with
  | pair a b iha ihb =>
    intro args ρ ρ' w I x cs h hr
    simp only [Ty.refs, List.mem_append] at hr
    cases args with
    | false => obtain ⟨c1, c2, rfl, h1, h2⟩ := h; exact ⟨c1, c2, rfl, iha h1 (fun b hb => hr b (.inl hb)), ihb h2 (fun b hb => hr b (.inr hb))⟩
    | true => obtain ⟨c1, c2, rfl, h1, h2⟩ := h; exact ⟨c1, c2, rfl, iha h1 (fun b hb => hr b (.inl hb)), ihb h2 (fun b hb => hr b (.inr hb))⟩
  | arr n e ih =>
    intro args ρ ρ' w I x cs h hr
    cases args with
    | true => exact h.elim
    | false =>
      obtain ⟨hl, css, rfl, hn, hi⟩ := h
      refine ⟨hl, css, rfl, hn, fun i y c hy hc => ih (hi i y c hy hc) fun b hb => hr b ?_⟩
      simp only [Ty.refs]
      split
      · rename_i hd
        rw [Ty.deep_refs hd] at hb
        cases hb
      · exact List.mem_flatMap.2 ⟨y, List.mem_of_getElem? hy, hb⟩
  | own =>
    intro args ρ ρ' w I x cs h hr
    cases args with
    | true => exact h.elim
    | false => simp only [Rd] at h ⊢; rw [h, hr x (List.mem_singleton.2 rfl)]
  | ptr =>
    intro args ρ ρ' w I x cs h hr
    cases args with
    | true => exact h.elim
    | false =>
      obtain ⟨rfl, ad, hs, hg⟩ := h
      have hx := hr x.b (List.mem_singleton.2 rfl)
      exact ⟨by rw [Ptr.val_congr hx], ad, hs, fun q hq => by rw [Ptr.val_congr (ρ := ρ) (ρ' := ρ') (by rw [hq]; exact hx)]; exact hg q hq⟩
  | clo =>
    intro args ρ ρ' w I x cs h hr
    cases args with
    | true => exact h.elim
    | false =>
      simp only [Rd] at h ⊢
      rw [h]
      congr 3
      exact List.map_congr_left fun p hp => (Ptr.val_congr (hr p.b (by simp only [Ty.refs]; exact List.mem_map_of_mem hp))).symm
  | unit => intro args ρ ρ' w I x cs h hr; cases args <;> exact h
  | int k => intro args ρ ρ' w I x cs h hr; cases args <;> exact h
  | bool => intro args ρ ρ' w I x cs h hr; cases args <;> exact h
  | nil => intro args ρ ρ' w I x cs h hr; cases args <;> exact h
  | slice e _ => intro args ρ ρ' w I x cs h hr; cases args <;> exact h
  | fn ps r _ _ => intro args ρ ρ' w I x cs h hr; cases args <;> exact h
  | fn2 ps a b _ _ _ => intro args ρ ρ' w I x cs h hr; cases args <;> exact h
  | ref t _ => intro args ρ ρ' w I x cs h hr; cases args <;> exact h

/-- A value that reads as x. -/
def RdV (P : Program) (t : Ty) (ρ : Nat → Value) (w : World) (I : Nat → Prop) (x : t.den) (v : Value) : Prop := ∃ c, v = mkV t c ∧ Rd P t false ρ w I x c

theorem Rd.cellsV {P : Program} : ∀ {t : Ty} {ρ : Nat → Value} {w : World} {I : Nat → Prop} {x : t.den} {c : List Value}, Rd P t false ρ w I x c →
    (∀ b, (ρ b).oneCell' = true) → (mkV t c).cells = c.toArray := by
  intro t ρ w I x c h hρ'
  have hρ : ∀ b, (ρ b).cells = #[ρ b] := fun b => by have := hρ' b; revert this; cases ρ b <;> intro h <;> first | rfl | cases h
  unfold mkV
  split
  · rfl
  · rename_i ha
    cases t <;> simp [Ty.agg] at ha
    case int k => simp only [Rd] at h; subst h; rfl
    case bool => simp only [Rd] at h; subst h; rfl
    case nil => simp only [Rd] at h; subst h; rfl
    case slice e => obtain ⟨A, cap, rfl, _⟩ := h; rfl
    case own => simp only [Rd] at h; subst h; exact hρ x
    case ptr =>
      obtain ⟨rfl, _⟩ := h
      show (Ptr.val ρ x).cells = _
      have : ∀ v : Value, v = Ptr.val ρ x → v.cells = #[v] := by
        intro v hv
        unfold Ptr.val at hv
        split at hv <;> subst hv <;> rfl
      exact this _ rfl
    case clo => simp only [Rd] at h; subst h; rfl
    case fn ps r => obtain ⟨f, caps, rfl, _⟩ := h; rfl
    case fn2 ps a b => obtain ⟨f, caps, rfl, _⟩ := h; rfl
    case ref t => obtain ⟨ad, c, rfl, _⟩ := h; rfl

theorem Rd.one {P : Program} : ∀ {t : Ty} {ρ : Nat → Value} {w : World} {I : Nat → Prop} {x : t.den} {c : List Value}, Rd P t false ρ w I x c →
    (∀ b, (ρ b).oneCell' = true) → ∀ v ∈ c, v.oneCell' = true := by
  intro t
  induction t with
  | pair a b iha ihb =>
    intro ρ w I x c h hρ v hv
    obtain ⟨c1, c2, rfl, h1, h2⟩ := h
    rcases List.mem_append.1 hv with hv | hv
    · exact iha h1 hρ v hv
    · exact ihb h2 hρ v hv
  | arr n e ih =>
    intro ρ w I x c h hρ v hv
    obtain ⟨hl, css, rfl, hn, hi⟩ := h
    obtain ⟨c, hc, hv⟩ := List.mem_flatten.1 hv
    obtain ⟨i, hi', hci⟩ := List.mem_iff_getElem.1 hc
    have hlt : i < List.length x := by rw [hl, ← hn]; exact hi'
    exact ih (hi i (List.get x ⟨i, hlt⟩) c (List.getElem?_eq_getElem hlt) (by rw [List.getElem?_eq_getElem hi', hci])) hρ v hv
  | unit => intro ρ w I x c h hρ v hv; simp only [Rd] at h; subst h; cases hv
  | int k => intro ρ w I x c h hρ v hv; simp only [Rd] at h; subst h; obtain rfl := List.mem_singleton.1 hv; rfl
  | bool => intro ρ w I x c h hρ v hv; simp only [Rd] at h; subst h; obtain rfl := List.mem_singleton.1 hv; rfl
  | nil => intro ρ w I x c h hρ v hv; simp only [Rd] at h; subst h; obtain rfl := List.mem_singleton.1 hv; rfl
  | own => intro ρ w I x c h hρ v hv; simp only [Rd] at h; subst h; obtain rfl := List.mem_singleton.1 hv; exact hρ x
  | ptr =>
    intro ρ w I x c h hρ v hv
    obtain ⟨rfl, _⟩ := h
    obtain rfl := List.mem_singleton.1 hv
    unfold Ptr.val
    split <;> rfl
  | clo => intro ρ w I x c h hρ v hv; simp only [Rd] at h; subst h; obtain rfl := List.mem_singleton.1 hv; rfl
  | slice e _ => intro ρ w I x c h hρ v hv; obtain ⟨A, cap, rfl, _⟩ := h; obtain rfl := List.mem_singleton.1 hv; rfl
  | fn p r _ _ => intro ρ w I x c h hρ v hv; obtain ⟨f, caps, rfl, _⟩ := h; obtain rfl := List.mem_singleton.1 hv; rfl
  | fn2 p a b _ _ _ => intro ρ w I x c h hρ v hv; obtain ⟨f, caps, rfl, _⟩ := h; obtain rfl := List.mem_singleton.1 hv; rfl
  | ref t _ => intro ρ w I x c h hρ v hv; obtain ⟨ad, c, rfl, _⟩ := h; obtain rfl := List.mem_singleton.1 hv; rfl

end Go.Sx
