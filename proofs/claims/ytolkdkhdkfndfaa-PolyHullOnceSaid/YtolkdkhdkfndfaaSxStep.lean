/-
  One operation of a region, its guard and all.
-/
import Derived.Test.YtolkdkhdkfndfaaSxCall2
import Derived.Test.YtolkdkhdkfndfaaSxMem6
import Derived.Test.YtolkdkhdkfndfaaSxOwn
namespace Go.Sx

/-- cap of nil -/
def pCapN (P : Program) (t : TypeId) (x : AV) : Perf := match x, P.underlying t with
  | .nil, some (.slice _) => .of (.val (.int .i64) (0 : Int))
  | _, _ => .bad

def pBuiltin (P : Program) (c : Ctx) (hp : Nat → Option Blk) (nid : Nat) (ev : Operand → AV) (b : Builtin) (args : List Operand) (ts : List TypeId) : Perf :=
  match b, args, ts with
  | .len, [x], t :: _ => pLen P hp t (ev x)
  | .min, x :: xs, _ => pMin (ev x) (xs.map ev)
  | .max, x :: xs, _ => pMax (ev x) (xs.map ev)
  | .append, [x, y], [t, t'] => pAppendY P c hp nid t t' (ev x) (ev y)
  | .copy, [x, y], [t, _] => pCopy P hp t (ev x) (ev y)
  | .clear, [x], [t] => pClear P c hp t (ev x)
  | .cap, [x], [t] => pCapN P t (ev x)
  | _, _, _ => .bad

def pPick (c x y : AV) (ans : Ans) : Perf :=
  match c, ans with
  | .val .bool b, .dec t => ⟨match t with | true => x | false => y, [], some (b = t)⟩
  | _, _ => .bad

def pNilCheck (x : AV) : Perf :=
  match x with
  | .imm t y off => .of (.imm t y off)
  | .val .ptr p => .of (.val .ptr p)
  | _ => .bad

theorem eqIn_nil {P : Program} {w : World} (d : Nat) {t e : TypeId} {a : Option Addr} {l c : Nat} (h : P.underlying t = some (.slice e)) : (Op.equalIn (d + 1) t (.slice a l c) (.slice none 0 0)).run P w = .ok a.isNone w := by
  cases a <;> simp [Op.equalIn, run_underlying h]

/-- A slice is compared with nil: whether an empty one is nil is not known, but nil is empty. -/
def nilOf {α : Type} : List α → Perf
  | [] => .of (.anyb True)
  | _ :: _ => .of (.val .bool false)
theorem nilOf_ed {α : Type} (l : List α) : (nilOf l).ed = [] := by cases l <;> rfl
def pBinN (P : Program) (c : Ctx) (op : BinOp) (xt : TypeId) (x y : AV) : Perf :=
  match op, x, y, P.underlying xt with
  | .eql, .val (.slice e) l, .nil, some (.slice _) => nilOf (l : List e.den)
  | .eql, .nil, .nil, some (.slice _) => .of (.val .bool true)
  | _, _, _, _ => pBin c op xt x y

def pConv (P : Program) (src dst : TypeId) (x : AV) : Perf :=
  match (P.underlying src).isSome with
  | true => pConvert P dst x
  | false => .bad

def perf (P : Program) (c : Ctx) (hp : Nat → Option Blk) (nid : Nat) (ev : Operand → AV) (ans : Ans) (op : Op) : Perf :=
  match op with
  | .move x => .of (ev x)
  | .assign x => .of (ev x)
  | .pick q x y => pPick (ev q) (ev x) (ev y) ans
  | .alloc t => pAlloc P c nid t
  | .box t x => pBox c nid t (ev x)
  | .load t x => pLoadX P c hp t (ev x)
  | .store t x y => pStoreX P c hp t (ev x) (ev y)
  | .nilCheck x => pNilCheck (ev x)
  | .binOp b xt x y _ => pBinN P c b xt (ev x) (ev y)
  | .unOp b _ x => pUn b (ev x)
  | .convert src dst x => pConv P src dst (ev x)
  | .fieldAddr t x f => pFieldAddr P t (ev x) f
  | .field t x f => pFieldX P c t (ev x) f
  | .indexAddr t x i => pIndexAddr P hp t (ev x) (ev i)
  | .extract x i => pExtract (ev x) i
  | .makeFunc fn first caps => pMakeFunc fn (first.toList.map ev) (caps.toList.map ev)
  | .call q => match q.callee with
    | .builtin b => pBuiltin P c hp nid ev b q.args.toList q.argTypes.toList
    | .value f => pCall c hp nid (wrOp c f) (ev f) (q.args.toList.map ev) ans
    | .invoke _ _ => .bad
  | .build t parts => pBuildX P c t (parts.toList.map fun p => (p.1, ev p.2))
  | .buildSlice t len parts => pBuildSlice P c nid t len (parts.toList.map fun p => (p.1, ev p.2)) ans
  | .slice t x lo hi mx => pSliceY P c hp nid t (ev x) (lo.map ev) (hi.map ev) mx.isSome
  | .index t x i => pIndex P c t x (ev x) (ev i)
  | .makeSlice t x y => pMakeSlice P c nid t (ev x) (ev y)
  | _ => .bad

structure CtxOk (P : Program) (c : Ctx) : Prop where
  T : TOk P c
  fns : FnsOk P c
  hs : HsOk P c
  eqs : ∀ t ty, (t, ty) ∈ c.eqs → EqOk P t ty

section
variable {cx : Cx} {s : St} {o : Oper} {nid : Nat} {c : Ctx}

theorem ok_capN {t : TypeId} {x : Operand} (ho : o.op = .call { callee := .builtin .cap, args := #[x], argTypes := #[t] }) : OpOk cx o s nid (pCapN cx.P t (s.ev x)) := by
  unfold pCapN
  split
  · rename_i e hx hu
    refine ok_value rfl fun ρ F a w hM _ => ?_
    have h1 := (hM.ev x).1
    rw [hx] at h1
    have h1 : a.eval x = .slice none 0 0 := h1
    exact ⟨.int .i64 (0 : Int), by simp [execOp, ho, resolve, invoke, builtin, Builtin.cap_, h1, run_underlying hu, goInt], RV_of_int, fun b hb => by cases hb⟩
  · exact bad_ok

theorem perf_ok (hc : CtxOk cx.P c) (hE : c.pin = cx.np) {hp : Nat → Option Blk} (hhp : ∀ b k, hp b = some k → s.hp b = some k) (ans : Ans) : OpOk cx o s nid (perf cx.P c hp nid s.ev ans o.op) := by
  cases ho : o.op <;> simp only [perf] <;> first | exact bad_ok | skip
  case move x => exact ok_move (.inl ho)
  case assign x => exact ok_move (.inr ho)
  case pick q x y =>
    unfold pPick
    split
    · rename_i b t hq
      exact ok_pick ho hq
    · exact bad_ok
  case alloc t => exact ok_alloc ho
  case box t x => exact ok_box ho
  case load t x => exact ok_loadX hhp ho hc.T
  case store t x y => exact ok_storeX hhp ho hc.T
  case nilCheck x =>
    unfold pNilCheck
    split
    · rename_i t y off hx
      have := ok_nilCheck (cx := cx) (nid := nid) ho (.inl ⟨t, y, off, hx⟩)
      rw [hx] at this
      exact this
    · rename_i p hx
      have := ok_nilCheck (cx := cx) (nid := nid) ho (.inr ⟨p, hx⟩)
      rw [hx] at this
      exact this
    · exact bad_ok
  case binOp b xt x y yt =>
    unfold pBinN
    split
    · rename_i e l e' hx hy hu
      have run : ∀ (ρ : Nat → Value) (F : Nat → Prop) (a : Act) (w : World), M cx ρ F s a w → ∃ A : Option Addr, (execOp a.eval o).run cx.P w = .ok (.value (.bool A.isNone)) w ∧ (l = ([] : List e.den) ∨ A.isNone = false) := by
        intro ρ F a w hM
        have h1 := (hM.ev x).1
        have h2 := (hM.ev y).1
        rw [hx] at h1
        rw [hy] at h2
        obtain ⟨cc, hv, A, cap, rfl, _, h3⟩ := h1
        have h2 : a.eval y = .slice none 0 0 := h2
        have hv : a.eval x = .slice A (List.length l) cap := hv
        refine ⟨A, ?_, ?_⟩
        · have hg : (eqGuard .eql xt x y (.slice A (List.length l) cap) (.slice none 0 0)).run cx.P w = .ok () w := by
            unfold eqGuard
            rfl
          have he : (Op.equal xt (.slice A (List.length l) cap) (.slice none 0 0)).run cx.P w = .ok A.isNone w := by
            show (Op.equalIn (9999 + 1) xt (.slice A (List.length l) cap) (.slice none 0 0)).run cx.P w = _
            exact eqIn_nil 9999 hu
          simp only [execOp, ho, hv, h2, Sem.run_bind, hg, Result.andThen_ok, binOp, he, Sem.run_pure]
        · rcases h3 with h3 | ⟨ad, hA, _⟩
          · exact .inl h3
          · rw [hA]; exact .inr rfl
      match l, run with
      | [], run =>
        refine ok_value rfl fun ρ F a w hM _ => ?_
        obtain ⟨A, h1, _⟩ := run ρ F a w hM
        exact ⟨.bool A.isNone, h1, ⟨A.isNone, rfl, fun _ => trivial⟩, fun b hb => by cases hb⟩
      | z :: l, run =>
        refine ok_value rfl fun ρ F a w hM _ => ?_
        obtain ⟨A, h1, h2⟩ := run ρ F a w hM
        have h2 := h2.resolve_left (fun h => nomatch h)
        rw [h2] at h1
        exact ⟨.bool false, h1, ⟨[.bool false], rfl, rfl⟩, fun b hb => by cases hb⟩
    · rename_i e' hx hy hu
      refine ok_value rfl fun ρ F a w hM _ => ?_
      have h1 := (hM.ev x).1
      have h2 := (hM.ev y).1
      rw [hx] at h1
      rw [hy] at h2
      have h1 : a.eval x = .slice none 0 0 := h1
      have h2 : a.eval y = .slice none 0 0 := h2
      refine ⟨.bool true, ?_, ⟨[.bool true], rfl, rfl⟩, fun b hb => by cases hb⟩
      have hg : (eqGuard .eql xt x y (.slice none 0 0) (.slice none 0 0)).run cx.P w = .ok () w := by
        unfold eqGuard
        rfl
      have he : (Op.equal xt (.slice none 0 0) (.slice none 0 0)).run cx.P w = .ok true w := by
        show (Op.equalIn (9999 + 1) xt (.slice none 0 0) (.slice none 0 0)).run cx.P w = _
        exact eqIn_nil 9999 hu
      simp only [execOp, ho, h1, h2, Sem.run_bind, hg, Result.andThen_ok, binOp, he, Sem.run_pure]
    · exact ok_bin ho hc.eqs
  case unOp b xt x => exact ok_un ho
  case convert src dst x =>
    unfold pConv
    split
    · rename_i hs
      exact ok_convert ho hs
    · exact bad_ok
  case fieldAddr t x f => exact ok_fieldAddr ho
  case field t x f => exact ok_fieldX ho hc.T
  case indexAddr t x i => exact ok_indexAddr hhp ho
  case extract x i => exact ok_extract ho
  case makeFunc fn first caps => exact ok_makeFunc ho
  case call q =>
    obtain ⟨callee, args, ts⟩ := q
    cases callee with
    | invoke r m => exact bad_ok
    | value f =>
      exact ok_pCall hhp (by rw [ho]) hE hc.fns hc.hs (args := args.toList) (ts := ts) (ans := ans)
    | builtin b =>
      simp only
      unfold pBuiltin
      split
      · rename_i x t ts' hargs hts
        have e1 : args = #[x] := by rw [← Array.toList_inj]; exact hargs
        have e2 : ts = (t :: ts').toArray := by rw [← Array.toList_inj]; exact hts
        subst e1 e2
        exact ok_len hhp ho
      · rename_i x xs hargs
        have e1 : args = (x :: xs).toArray := by rw [← Array.toList_inj]; exact hargs
        subst e1
        exact ok_min ho
      · rename_i x xs hargs
        have e1 : args = (x :: xs).toArray := by rw [← Array.toList_inj]; exact hargs
        subst e1
        exact ok_max ho
      · rename_i x y t t' hargs hts
        have e1 : args = #[x, y] := by rw [← Array.toList_inj]; exact hargs
        have e2 : ts = #[t, t'] := by rw [← Array.toList_inj]; exact hts
        subst e1 e2
        exact ok_appendY hhp ho hc.T hE
      · rename_i x y t t' hargs hts
        have e1 : args = #[x, y] := by rw [← Array.toList_inj]; exact hargs
        have e2 : ts = #[t, t'] := by rw [← Array.toList_inj]; exact hts
        subst e1 e2
        exact ok_copy hhp ho
      · rename_i x t hargs hts
        have e1 : args = #[x] := by rw [← Array.toList_inj]; exact hargs
        have e2 : ts = #[t] := by rw [← Array.toList_inj]; exact hts
        subst e1 e2
        exact ok_clear hhp ho
      · rename_i x t hargs hts
        have e1 : args = #[x] := by rw [← Array.toList_inj]; exact hargs
        have e2 : ts = #[t] := by rw [← Array.toList_inj]; exact hts
        subst e1 e2
        exact ok_capN ho
      · exact bad_ok
  case build t parts => exact ok_buildX ho hc.T
  case buildSlice t len parts => exact ok_buildSlice ho hc.T
  case slice t x lo hi mx => exact ok_sliceY hhp ho hE
  case index t x i => exact ok_index ho hc.T
  case makeSlice t x y => exact ok_makeSlice ho hc.T
end

def view (hide : Nat → Bool) (hp : Nat → Option Blk) (b : Nat) : Option Blk := match hide b with
  | true => none
  | false => hp b

def andO (g p : Option Prop) : Option Prop :=
  match g, p with
  | none, p => p
  | some g, none => some g
  | some g, some q => some (g ∧ q)
theorem andO_iff {g p : Option Prop} : obP (andO g p) ↔ obP g ∧ obP p := by
  cases g <;> cases p <;> simp [andO, obP]
def andP (s : Prop) (o : Option Prop) : Prop :=
  match o with
  | none => s
  | some q => s ∧ q
theorem andP_iff {s : Prop} {o : Option Prop} : andP s o ↔ s ∧ obP o := by
  cases o <;> simp [andP, obP]
def gP (g : Option Prop) (p : Perf) : Perf := ⟨p.v, p.ed, andO g p.ob⟩

def put (n : Nat) (o : Oper) (s : St) (d : Perf) : St := ⟨putS n s.sl o.dst d.v, app s.hp d.ed, andP s.ok d.ob⟩

theorem put_ok {n : Nat} {o : Oper} {s : St} {d : Perf} (h : (put n o s d).ok) : s.ok ∧ d.obP := andP_iff.1 h
theorem put_bad {n : Nat} {o : Oper} {s : St} (h : (put n o s .bad).ok) : False := (put_ok h).2

/-- An operation that is carried out. -/
def act (P : Program) (c : Ctx) (hide : Nat → Bool) (nid : Nat) (o : Oper) (ans : Ans) (g : Option Prop) (s : St) : St :=
  put c.n o s (gP g (perf P c (view hide s.hp) nid s.ev ans o.op))

/-- The slot that an operation's guard asks, and what it must hold. -/
def gslot (ops : Array Oper) (o : Oper) : Option (Option Nat × Bool) := o.guard.map fun g => ((ops[g.1]?).bind (·.dst), g.2)

def ans0 : List Ans → Ans
  | a :: _ => a
  | [] => .dec true

/-- What an operation of a region gives, turns and asks. -/
def delta (P : Program) (c : Ctx) (hide : Nat → Bool) (nid : Nat) (ops : Array Oper) (o : Oper) (anss : List Ans) (s : St) : Perf :=
  match gslot ops o with
  | none => gP none (perf P c (view hide s.hp) nid s.ev (ans0 anss) o.op)
  | some (some d, want) => match s.sl d, anss with
    | .val .bool b, .dec t :: rest => match Bool.xor t want with
      | false => gP (some (b = t)) (perf P c (view hide s.hp) nid s.ev (ans0 rest) o.op)
      | true => ⟨.tup [], [], some (b = t)⟩
    | .tup [], .dec _ :: _ => ⟨.tup [], [], none⟩
    | _, _ => .bad
  | some (none, _) => .bad

def step (P : Program) (c : Ctx) (hide : Nat → Bool) (nid : Nat) (ops : Array Oper) (o : Oper) (anss : List Ans) (s : St) : St :=
  put c.n o s (delta P c hide nid ops o anss s)

theorem step_mono {P : Program} {c : Ctx} {hide : Nat → Bool} {nid : Nat} {ops : Array Oper} {o : Oper} {anss : List Ans} {s : St} (h : (step P c hide nid ops o anss s).ok) : s.ok := (andP_iff.1 h).1

section
variable {cx : Cx} {c : Ctx}

theorem act_sound (hc : CtxOk cx.P c) (hn : c.n = cx.n) (hE : c.pin = cx.np) {ρ : Nat → Value} {F : Nat → Prop} {s : St} {a : Act} {w : World} (hM : M cx ρ F s a w) {hide : Nat → Bool} {nid : Nat} (hnF : ¬ F nid) {o : Oper} {ans : Ans} {g : Option Prop}
    (hok : (act cx.P c hide nid o ans g s).ok) {K : Act → World → Prop} {Q : Exit → Act → World → Prop}
    (hK : ∀ ρ' a' w', M cx ρ' (fun b => F b ∨ b = nid) (act cx.P c hide nid o ans g s) a' w' → K a' w') : o.wp cx.P a w K Q := by
  have hview : ∀ b k, view hide s.hp b = some k → s.hp b = some k := by
    intro b k h
    unfold view at h
    split at h
    · cases h
    · exact h
  refine perf_ok (o := o) (nid := nid) hc hE hview ans ρ F a w K Q hM hnF (andO_iff.1 (andP_iff.1 hok).2).2 fun ρ' v w' hM' => hK ρ' _ w' ?_
  have := hM'.okay (act cx.P c hide nid o ans g s).ok
  rw [← hn] at this
  exact this

theorem wanted_of {ops : Array Oper} {o : Oper} {a : Act} {j d : Nat} {b want : Bool} (hg : o.guard = some (j, want)) (hd : (ops[j]?).bind (·.dst) = some d) (h : a.tmps.getD d undef = .bool b) :
    Region.wanted o (yielded ops a.tmps) = (b == want) := by
  have h1 : a.tmps[d]? = some (.bool b) := by
    rw [Array.getD_eq_getD_getElem?] at h
    cases hq : a.tmps[d]? with
    | none => rw [hq] at h; cases h
    | some v => rw [hq] at h; exact congrArg some h
  have hy : yielded ops a.tmps j = some b := by
    unfold yielded
    rw [hd, Option.bind_some, h1]
  simp [Region.wanted, hg, hy]

theorem skipped_ok {ρ : Nat → Value} {w : World} {I : Nat → Prop} : RV cx.P ρ w I (.tup []) undef := ⟨[], rfl, rfl, fun i t u ht => by simp at ht⟩

theorem wanted_none {ops : Array Oper} {o : Oper} {a : Act} {j d : Nat} {want : Bool} (hg : o.guard = some (j, want)) (hd : (ops[j]?).bind (·.dst) = some d) (h : a.tmps.getD d undef = undef) :
    Region.wanted o (yielded ops a.tmps) = false := by
  have hy : yielded ops a.tmps j = none := by
    unfold yielded
    rw [hd, Option.bind_some]
    rw [Array.getD_eq_getD_getElem?] at h
    cases hq : a.tmps[d]? with
    | none => rfl
    | some v =>
      rw [hq] at h
      have h : v = undef := h
      subst h
      rfl
  simp [Region.wanted, hg, hy]

theorem guard_sound (hc : CtxOk cx.P c) (hn : c.n = cx.n) (hE : c.pin = cx.np) {ρ : Nat → Value} {F : Nat → Prop} {s : St} {a : Act} {w : World} (hM : M cx ρ F s a w) {hide : Nat → Bool} {nid : Nat} (hnF : ¬ F nid) {ops : Array Oper} {o : Oper}
    {rest : List Ans} {t want : Bool} (b : Bool) (hw : Region.wanted o (yielded ops a.tmps) = (b == want))
    (hok : (put c.n o s (match Bool.xor t want with
      | false => gP (some (b = t)) (perf cx.P c (view hide s.hp) nid s.ev (ans0 rest) o.op)
      | true => ⟨.tup [], [], some (b = t)⟩)).ok) {K : Act → World → Prop} {Q : Exit → Act → World → Prop}
    (hK : ∀ ρ' a' w', M cx ρ' (fun b => F b ∨ b = nid) (put c.n o s (match Bool.xor t want with
      | false => gP (some (b = t)) (perf cx.P c (view hide s.hp) nid s.ev (ans0 rest) o.op)
      | true => ⟨.tup [], [], some (b = t)⟩)) a' w' → K a' w') :
    (if Region.wanted o (yielded ops a.tmps) then o.wp cx.P a w K Q ∨ (o.asks cx.P a w ∧ LetsOut Q) else K (a.put o.dst undef) w) := by
  rw [hw]
  cases t <;> cases want <;> simp only [Bool.xor, Bool.bne_false, Bool.bne_true, Bool.not_false, Bool.not_true] at hok hK
  · have hb : b = false := (andO_iff.1 (andP_iff.1 hok).2).1
    subst hb
    exact .inl (act_sound hc hn hE hM hnF hok hK)
  · have hb : b = false := (put_ok hok).2
    subst hb
    refine hK ρ _ w ?_
    rw [hn]
    exact (M.put hM o.dst (av := .tup []) skipped_ok (fun b hb => by cases hb) _).widen (fun b hb => .inl hb)
  · have hb : b = true := (put_ok hok).2
    subst hb
    refine hK ρ _ w ?_
    rw [hn]
    exact (M.put hM o.dst (av := .tup []) skipped_ok (fun b hb => by cases hb) _).widen (fun b hb => .inl hb)
  · have hb : b = true := (andO_iff.1 (andP_iff.1 hok).2).1
    subst hb
    exact .inl (act_sound hc hn hE hM hnF hok hK)

theorem step_sound (hc : CtxOk cx.P c) (hn : c.n = cx.n) (hE : c.pin = cx.np) {ρ : Nat → Value} {F : Nat → Prop} {s : St} {a : Act} {w : World} (hM : M cx ρ F s a w) {hide : Nat → Bool} {nid : Nat} (hnF : ¬ F nid) {ops : Array Oper} {i : Nat} {o : Oper}
    (hi : ops[i]? = some o) {anss : List Ans} (hok : (step cx.P c hide nid ops o anss s).ok) {K : Act → World → Prop} {Q : Exit → Act → World → Prop}
    (hK : ∀ ρ' a' w', M cx ρ' (fun b => F b ∨ b = nid) (step cx.P c hide nid ops o anss s) a' w' → K a' w') : wpOp cx.P ops Q i K a w := by
  unfold wpOp
  simp only [hi]
  unfold step delta at hok hK
  cases hg : o.guard with
  | none =>
    have : gslot ops o = none := by simp [gslot, hg]
    rw [this] at hok hK
    have hw : Region.wanted o (yielded ops a.tmps) = true := by simp [Region.wanted, hg]
    rw [if_pos hw]
    exact .inl (act_sound hc hn hE hM hnF hok hK)
  | some g =>
    obtain ⟨j, want⟩ := g
    cases hd : (ops[j]?).bind (·.dst) with
    | none =>
      have : gslot ops o = some (none, want) := by simp [gslot, hg, hd]
      rw [this] at hok
      exact (put_bad hok).elim
    | some d =>
      have : gslot ops o = some (some d, want) := by simp [gslot, hg, hd]
      rw [this] at hok hK
      simp only at hok hK
      split at hok
      · rename_i b t rest hs
        have hdv : a.tmps.getD d undef = .bool b := by
          have h1 := hM.slots d
          rw [hs] at h1
          exact RV_bool h1
        rw [hs] at hK
        exact guard_sound hc hn hE hM hnF b (wanted_of hg hd hdv) hok hK
      · rename_i t rest hs
        have hdv : a.tmps.getD d undef = undef := by
          have h1 := hM.slots d
          rw [hs] at h1
          obtain ⟨vs, h1, h2, _⟩ := h1
          obtain rfl := List.eq_nil_of_length_eq_zero h2
          exact h1
        rw [hs] at hK
        rw [wanted_none hg hd hdv]
        refine hK ρ _ w ?_
        rw [hn]
        exact (M.put hM o.dst (av := .tup []) skipped_ok (fun b hb => by cases hb) _).widen (fun b hb => .inl hb)
      · exact (put_bad hok).elim
end
end Go.Sx
