/-
  That what SxPerf tells of an operation is what the machine does: operations that touch no block.
-/
import Derived.Test.YtolkdkhdkfndfaaSxPerf
import Derived.Laws.Rows
import Derived.Laws.Tables
import Derived.Laws.CopyRow
import Derived.Laws.Entries
namespace Go.Sx

def app (hp : Nat → Option Blk) (ed : List (Nat × Option Blk)) : Nat → Option Blk := ed.foldl (fun h e => upd h e.1 e.2) hp

def constAV : Value → AV
  | .int k n => .val (.int k) n
  | .bool b => .val .bool b
  | .slice none 0 0 => .nil
  | _ => .undef

def St.ev (s : St) : Operand → AV
  | .tmp t => s.sl t
  | .const v => constAV v
  | .global _ => .undef
  | .func f => .val .clo (f, [])

def OpOk (cx : Cx) (o : Oper) (s : St) (nid : Nat) (p : Perf) : Prop :=
  ∀ (ρ : Nat → Value) (F : Nat → Prop) (a : Act) (w : World) (next : Act → World → Prop) (Q : Exit → Act → World → Prop), M cx ρ F s a w → ¬ F nid → p.obP →
    (∀ ρ' v w', M cx ρ' (fun b => F b ∨ b = nid) ⟨putS cx.n s.sl o.dst p.v, app s.hp p.ed, s.ok⟩ (a.put o.dst v) w' → next (a.put o.dst v) w') → o.wp cx.P a w next Q

section
variable {cx : Cx} {ρ : Nat → Value} {F : Nat → Prop} {s : St} {a : Act} {w : World} {o : Oper} {nid : Nat}

theorem RV_int {P : Program} {I : Nat → Prop} {k : IntKind} {n : Int} {v : Value} (h : RV P ρ w I (.val (.int k) n) v) : v = .int k n := by
  obtain ⟨c, rfl, hc⟩ := h
  have hc : c = [.int k n] := hc
  subst hc
  rfl
theorem RV_bool {P : Program} {I : Nat → Prop} {b : Bool} {v : Value} (h : RV P ρ w I (.val .bool b) v) : v = .bool b := by
  obtain ⟨c, rfl, hc⟩ := h
  have hc : c = [.bool b] := hc
  subst hc
  rfl
theorem RV_ptr {P : Program} {I : Nat → Prop} {p : Ptr} {v : Value} (h : RV P ρ w I (.val .ptr p) v) : v = p.val ρ := by
  obtain ⟨c, rfl, hc⟩ := h
  obtain ⟨rfl, _⟩ := hc
  rfl
theorem RV_ptr_good {P : Program} {I : Nat → Prop} {p : Ptr} {v : Value} (h : RV P ρ w I (.val .ptr p) v) : p.good ρ := by
  obtain ⟨c, rfl, hc⟩ := h
  exact hc.2
theorem RV_own {P : Program} {I : Nat → Prop} {b : Nat} {v : Value} (h : RV P ρ w I (.val .own b) v) : v = ρ b := by
  obtain ⟨c, rfl, hc⟩ := h
  have hc : c = [ρ b] := hc
  subst hc
  rfl
theorem RV_clo {P : Program} {I : Nat → Prop} {g : FuncId × List Ptr} {v : Value} (h : RV P ρ w I (.val .clo g) v) : v = .func (.func g.1) #[] (g.2.map (·.val ρ)).toArray := by
  obtain ⟨c, rfl, hc⟩ := h
  have hc : c = [.func (.func g.1) #[] (g.2.map (·.val ρ)).toArray] := hc
  subst hc
  rfl
theorem RV_of_int {P : Program} {I : Nat → Prop} {k : IntKind} {n : Int} : RV P ρ w I (.val (.int k) n) (.int k n) := ⟨[.int k n], rfl, rfl⟩
theorem RV_of_bool {P : Program} {I : Nat → Prop} {b : Bool} : RV P ρ w I (.val .bool b) (.bool b) := ⟨[.bool b], rfl, rfl⟩
theorem RV_of_ptr {P : Program} {I : Nat → Prop} {p : Ptr} (h : p.good ρ) : RV P ρ w I (.val .ptr p) (p.val ρ) := ⟨[p.val ρ], rfl, rfl, h⟩
theorem RV_of_own {P : Program} {I : Nat → Prop} {b : Nat} : RV P ρ w I (.val .own b) (ρ b) := ⟨[ρ b], rfl, rfl⟩

theorem RV_const {P : Program} {I : Nat → Prop} (v : Value) : RV P ρ w I (constAV v) v := by
  unfold constAV
  split
  · exact RV_of_int
  · exact RV_of_bool
  · rfl
  · trivial
theorem refs_const (v : Value) : (constAV v).refs = [] := by
  unfold constAV
  split <;> rfl

theorem M.ev (h : M cx ρ F s a w) (x : Operand) : RV cx.P ρ w (cx.I ρ s) (s.ev x) (a.eval x) ∧ ∀ b ∈ (s.ev x).refs, F b := by
  cases x with
  | tmp t => exact ⟨h.slots t, h.srefs t⟩
  | const v => exact ⟨RV_const v, fun b hb => by rw [show s.ev (.const v) = constAV v from rfl, refs_const] at hb; cases hb⟩
  | global g => exact ⟨trivial, fun b hb => by cases hb⟩
  | func f => exact ⟨⟨_, rfl, rfl⟩, fun b hb => by cases hb⟩

/-- An operation that gives a value and leaves the world alone. -/
theorem ok_value {p : Perf} (hed : p.ed = [])
    (h : ∀ (ρ : Nat → Value) (F : Nat → Prop) (a : Act) (w : World), M cx ρ F s a w → p.obP → ∃ v, (execOp a.eval o).run cx.P w = .ok (.value v) w ∧ RV cx.P ρ w (cx.I ρ s) p.v v ∧ ∀ b ∈ p.v.refs, F b) : OpOk cx o s nid p := by
  intro ρ F a w next Q hM _ hob hn
  obtain ⟨v, hr, hv, hf⟩ := h ρ F a w hM hob
  unfold Oper.wp
  rw [hr]
  refine hn ρ v w ?_
  rw [hed]
  exact (hM.put o.dst hv hf s.ok).widen (fun b hb => .inl hb)

theorem ok_move {x : Operand} (ho : o.op = .move x ∨ o.op = .assign x) : OpOk cx o s nid (.of (s.ev x)) := by
  refine ok_value rfl fun ρ F a w hM _ => ⟨a.eval x, ?_, hM.ev x⟩
  rcases ho with ho | ho <;> simp [execOp, ho]

theorem ok_pick {c x y : Operand} {b t : Bool} (ho : o.op = .pick c x y) (hc : s.ev c = .val .bool b) : OpOk cx o s nid ⟨match t with | true => s.ev x | false => s.ev y, [], some (b = t)⟩ := by
  refine ok_value rfl fun ρ F a w hM hob => ?_
  have h1 := (hM.ev c).1
  rw [hc] at h1
  have h1 := RV_bool h1
  change b = t at hob
  subst hob
  cases b with
  | true => exact ⟨a.eval x, by simp [execOp, ho, h1, asBool], hM.ev x⟩
  | false => exact ⟨a.eval y, by simp [execOp, ho, h1, asBool], hM.ev y⟩

theorem run_eqGuard_int {P : Program} (op : BinOp) (t : TypeId) (x y : Operand) (k k' : IntKind) (m n : Int) : (eqGuard op t x y (.int k m) (.int k' n)).run P w = .ok () w := by
  unfold eqGuard
  cases op <;> rfl
theorem run_eqGuard_bool {P : Program} (op : BinOp) (t : TypeId) (x y : Operand) (m n : Bool) : (eqGuard op t x y (.bool m) (.bool n)).run P w = .ok () w := by
  unfold eqGuard
  cases op <;> rfl

theorem run_arith {P : Program} (op : BinOp) (t : TypeId) (k k' : IntKind) (m n : Int) (hk : k = k' ∨ op = .shl ∨ op = .shr) (hob : (arith op k m n).obP) (ρ : Nat → Value) (I : Nat → Prop) :
    ∃ v, (binOp op t (.int k m) (.int k' n)).run P w = .ok v w ∧ RV P ρ w I (arith op k m n).v v ∧ (arith op k m n).v.refs = [] := by
  cases op
  case shl =>
    have hn : ¬ n < 0 := by have : 0 ≤ n := hob; omega
    exact ⟨_, by simp [binOp, Op.shift, hn], RV_of_int, rfl⟩
  case shr =>
    have hn : ¬ n < 0 := by have : 0 ≤ n := hob; omega
    exact ⟨_, by simp [binOp, Op.shift, hn], RV_of_int, rfl⟩
  all_goals
    rcases hk with rfl | hk | hk
    rotate_left
    · cases hk
    · cases hk
  case add => exact ⟨_, by simp [binOp, Op.intArith], RV_of_int, rfl⟩
  case sub => exact ⟨_, by simp [binOp, Op.intArith], RV_of_int, rfl⟩
  case mul => exact ⟨_, by simp [binOp, Op.intArith], RV_of_int, rfl⟩
  case quo => exact ⟨_, by have hn : ¬ n = 0 := hob; simp [binOp, Op.intDiv, hn], RV_of_int, rfl⟩
  case rem => exact ⟨_, by have hn : ¬ n = 0 := hob; simp [binOp, Op.intDiv, hn], RV_of_int, rfl⟩
  case and => exact ⟨_, by simp only [binOp, Op.intBits, ne_eq, not_true_eq_false, if_false]; rfl, RV_of_int, rfl⟩
  case or => exact ⟨_, by simp only [binOp, Op.intBits, ne_eq, not_true_eq_false, if_false]; rfl, RV_of_int, rfl⟩
  case xor => exact ⟨_, by simp only [binOp, Op.intBits, ne_eq, not_true_eq_false, if_false]; rfl, RV_of_int, rfl⟩
  case andNot => exact ⟨_, by simp only [binOp, Op.intBits, ne_eq, not_true_eq_false, if_false]; rfl, RV_of_int, rfl⟩
  case eql =>
    have : (m == n) = decide (m = n) := rfl
    exact ⟨.bool (m == n), by simp [binOp, Op.intCmp], by rw [this]; exact RV_of_bool, rfl⟩
  case neq =>
    have : (m != n) = decide (¬ m = n) := by simp only [bne, show (m == n) = decide (m = n) from rfl]; exact (decide_not (p := m = n)).symm
    exact ⟨.bool (m != n), by simp [binOp, Op.intCmp], by rw [this]; exact RV_of_bool, rfl⟩
  case lss => exact ⟨_, by simp [binOp, Op.intCmp], RV_of_bool, rfl⟩
  case leq => exact ⟨_, by simp [binOp, Op.intCmp], RV_of_bool, rfl⟩
  case gtr => exact ⟨_, by simp [binOp, Op.intCmp], RV_of_bool, rfl⟩
  case geq => exact ⟨_, by simp [binOp, Op.intCmp], RV_of_bool, rfl⟩
end

/-- '==' and '!=' at a struct type are field by field. -/
def EqOk (P : Program) (t : TypeId) (ty : Ty) : Prop :=
  ∀ (ρ : Nat → Value) (w : World) (I : Nat → Prop) (X Y : ty.den) (u v : Value) (x y : Operand), RdV P ty ρ w I X u → RdV P ty ρ w I Y v →
    (do eqGuard .eql t x y u v; binOp .eql t u v : Sem Value).run P w = .ok (.bool (ty.eqb X Y)) w ∧
    (do eqGuard .neq t x y u v; binOp .neq t u v : Sem Value).run P w = .ok (.bool (!ty.eqb X Y)) w

theorem find_mem {α : Type} : ∀ {l : List (Nat × α)} {k : Nat} {x : α}, find l k = some x → (k, x) ∈ l
  | [], _, _, h => by cases h
  | (k', y) :: l, k, x, h => by
    unfold find at h
    split at h
    · rename_i hk
      obtain rfl := Nat.eq_of_beq_eq_true hk
      obtain rfl := Option.some.inj h
      exact List.mem_cons_self
    · exact List.mem_cons_of_mem _ (find_mem h)

section
variable {cx : Cx} {s : St} {o : Oper} {nid : Nat} {c : Ctx}

theorem bad_ok : OpOk cx o s nid .bad := fun _ _ _ _ _ _ _ _ h => h.elim

theorem ok_bin {op : BinOp} {xt yt : TypeId} {x y : Operand} (ho : o.op = .binOp op xt x y yt) (he : ∀ t ty, (t, ty) ∈ c.eqs → EqOk cx.P t ty) :
    OpOk cx o s nid (pBin c op xt (s.ev x) (s.ev y)) := by
  have ints : ∀ (k k' : IntKind) (m n : Int), s.ev x = .val (.int k) m → s.ev y = .val (.int k') n → (k = k' ∨ op = .shl ∨ op = .shr) → OpOk cx o s nid (arith op k m n) := by
    intro k k' m n hx hy hk
    have hed : (arith op k m n).ed = [] := by cases op <;> rfl
    refine ok_value hed fun ρ F a w hM hob => ?_
    have h1 := (hM.ev x).1
    have h2 := (hM.ev y).1
    rw [hx] at h1
    rw [hy] at h2
    have h1 := RV_int h1
    have h2 := RV_int h2
    obtain ⟨v, hr, hv, hf⟩ := run_arith (P := cx.P) (w := w) op xt k k' m n hk hob ρ (cx.I ρ s)
    refine ⟨v, ?_, hv, fun b hb => by rw [hf] at hb; cases hb⟩
    simp only [execOp, ho, h1, h2, Sem.run_bind, run_eqGuard_int, Result.andThen_ok, hr, Sem.run_pure]
  unfold pBin
  split
  · rename_i k m k' n hx hy
    split
    · exact ints k k' m n hx hy (.inr (.inl rfl))
    · exact ints k k' m n hx hy (.inr (.inr rfl))
    · split
      · rename_i hk
        exact ints k k' m n hx hy (.inl (of_decide_eq_true hk))
      · exact bad_ok
  · rename_i tx m t' n _ hx hy
    split
    · rename_i t hf
      split
      · rename_i A B hA hB
        obtain ⟨rfl, rfl⟩ := Ty.as?_some hA
        obtain ⟨rfl, rfl⟩ := Ty.as?_some hB
        have hE := he _ _ (find_mem hf)
        split
        · refine ok_value rfl fun ρ F a w hM _ => ?_
          have h1 := (hM.ev x).1
          have h2 := (hM.ev y).1
          rw [hx] at h1
          rw [hy] at h2
          have hr := (hE ρ w _ _ _ _ _ x y h1 h2).1
          exact ⟨_, by simp only [execOp, ho]; rw [Sem.run_bind, hr]; rfl, RV_of_bool, fun b hb => by cases hb⟩
        · refine ok_value rfl fun ρ F a w hM _ => ?_
          have h1 := (hM.ev x).1
          have h2 := (hM.ev y).1
          rw [hx] at h1
          rw [hy] at h2
          have hr := (hE ρ w _ _ _ _ _ x y h1 h2).2
          exact ⟨_, by simp only [execOp, ho]; rw [Sem.run_bind, hr]; rfl, RV_of_bool, fun b hb => by cases hb⟩
        · exact bad_ok
      · exact bad_ok
    · exact bad_ok
  · exact bad_ok
end
end Go.Sx
