/-
  A region of operations, carried out in any order that its edges allow.
-/
import Derived.Test.YtolkdkhdkfndfaaSxStep
namespace Go.Sx

/-- How many answers an operation asks. -/
def need (o : Oper) : Nat := (match o.guard with | some _ => 1 | none => 0) + (match o.op with
  | .pick _ _ _ => 1
  | .buildSlice _ _ _ => 1
  | .call q => match q.callee with
    | .value _ => 1
    | _ => 0
  | _ => 0)

def dist : List Oper → List Ans → List (List Ans)
  | [], _ => []
  | o :: os, l => l.take (need o) :: dist os (l.drop (need o))

def hideOf (n0 n m b : Nat) : Bool := Nat.ble n0 b && (Nat.blt b (n0 + n) && !(Nat.testBit m (b - n0)))

/-- What an operation looks into: nothing of the call's own, one block, two, or who knows. -/
inductive Src where
  | data
  | blk (b : Nat)
  | two (b c : Nat)
  | many (l : List Nat)
  | unk
def srcHide : Src → Nat → Bool
  | .data, _ => true
  | .blk c, b => !(Nat.beq b c)
  | .two c d, b => !(Nat.beq b c) && !(Nat.beq b d)
  | .many l, b => !(l.any (Nat.beq b))
  | .unk, _ => false
def Src.with : Src → Src → Src
  | .data, k => k
  | .blk b, .data => .blk b
  | .blk b, .blk c => .two b c
  | .many l, .data => .many l
  | .many l, .blk c => .many (c :: l)
  | .blk b, .many l => .many (b :: l)
  | .many l, .many m => .many (l ++ m)
  | .two b c, .data => .two b c
  | .two b c, .blk d => .many [b, c, d]
  | .two b c, .many l => .many (b :: c :: l)
  | .blk b, .two c d => .many [b, c, d]
  | .many l, .two b c => .many (b :: c :: l)
  | .two b c, .two d e => .many [b, c, d, e]
  | _, _ => .unk
def apartS : Src → Src → Bool
  | .data, _ => true
  | .blk b, k => srcHide k b
  | .two b c, k => srcHide k b && srcHide k c
  | .many l, k => l.all (srcHide k)
  | .unk, _ => false
theorem apartS_hide {k k' : Src} (h : apartS k k' = true) {b : Nat} (hb : srcHide k b = false) : srcHide k' b = true := by
  cases k with
  | data => simp [srcHide] at hb
  | unk => cases h
  | many l =>
    have h : l.all (srcHide k') = true := h
    simp only [srcHide, Bool.not_eq_false'] at hb
    obtain ⟨c, hc, he⟩ := List.any_eq_true.1 hb
    obtain rfl := Nat.eq_of_beq_eq_true he
    exact List.all_eq_true.1 h b hc
  | blk c =>
    simp only [srcHide, Bool.not_eq_false'] at hb
    obtain rfl := Nat.eq_of_beq_eq_true hb
    exact h
  | two c d =>
    have h : (srcHide k' c && srcHide k' d) = true := h
    simp only [Bool.and_eq_true] at h
    have hb : (!(Nat.beq b c) && !(Nat.beq b d)) = false := hb
    cases e : Nat.beq b c with
    | true =>
      obtain rfl := Nat.eq_of_beq_eq_true e
      exact h.1
    | false =>
      cases e' : Nat.beq b d with
      | true =>
        obtain rfl := Nat.eq_of_beq_eq_true e'
        exact h.2
      | false => rw [e, e'] at hb; cases hb

structure Reg where
  src : List Src
  P : Program
  c : Ctx
  n0 : Nat
  ops : Array Oper
  tbl : List Nat
  anss : List (List Ans)

def Reg.T (R : Reg) (i : Nat) (s : St) : St :=
  match R.ops[i]? with
  | some o => step R.P R.c (fun b => hideOf R.n0 R.ops.size (R.tbl.getD i 0) b || srcHide (R.src.getD i .unk) b) (R.n0 + i) R.ops o (R.anss.getD i []) s
  | none => s

def Reg.run (R : Reg) (D : Nat → Bool) : Nat → St → St
  | 0, s => s
  | n + 1, s => match D n with
    | true => R.T n (R.run D n s)
    | false => R.run D n s

/-- Does an operation look into a block of the call's own? Does it turn one? -/
def touches : Op → Bool
  | .load _ _ => true
  | .store _ _ _ => true
  | .indexAddr _ _ _ => true
  | .slice _ _ _ _ _ => true
  | .call _ => true
  | _ => false
def turns (c : Ctx) : Op → Bool
  | .store _ _ _ => true
  | .slice _ _ _ _ _ => true
  | .call q => match q.callee with
    | .builtin .append => true
    | .builtin .copy => true
    | .builtin .clear => true
    | .value f => wrOp c f
    | _ => false
  | _ => false

def comm (c : Ctx) (ops : Array Oper) (x y : Oper) (k k' : Src) : Bool := x.apart ops y && ((!(turns c x.op && touches y.op) || apartS k k') && (!(turns c y.op && touches x.op) || apartS k' k))

def Reg.chk (R : Reg) : Bool :=
  (List.range R.ops.size).all fun j => match R.ops[j]? with
    | none => true
    | some oj => (oj.after.toList.all fun e => !Region.binds .any e || Nat.blt e.on j) &&
      (List.range j).all fun i => match R.ops[i]? with
        | none => true
        | some oi => match Nat.testBit (R.tbl.getD j 0) i with
          | true => (oj.after.toList.any fun e => Region.binds .any e && (Nat.beq e.on i || Nat.testBit (R.tbl.getD e.on 0) i)) && !(Nat.testBit (R.tbl.getD i 0) j)
          | false => comm R.c R.ops oi oj (R.src.getD i .unk) (R.src.getD j .unk) && !(Nat.testBit (R.tbl.getD i 0) j)

theorem beq_false {a b : Nat} (h : a ≠ b) : Nat.beq a b = false := by
  cases hh : Nat.beq a b with
  | false => rfl
  | true => exact absurd (Nat.eq_of_beq_eq_true hh) h

theorem arith_ed {op : BinOp} {k : IntKind} {m n : Int} {e : Nat × Option Blk} (h : e ∈ (arith op k m n).ed) : False := by cases op <;> cases h

theorem putS_comm (n : Nat) (sl : Nat → AV) {d e : Option Nat} (v u : AV) (h : ∀ x, d = some x → e ≠ some x) : putS n (putS n sl d v) e u = putS n (putS n sl e u) d v := by
  cases d with
  | none => rfl
  | some d => cases e with
    | none => rfl
    | some e =>
      have hne : d ≠ e := fun he => h d rfl (by rw [he])
      funext x
      simp only [putS]
      by_cases h1 : x = d
      · subst h1
        have : Nat.beq x e = false := beq_false hne
        simp [this]
      · have : Nat.beq x d = false := beq_false h1
        simp only [this]

theorem app_other {ed : List (Nat × Option Blk)} : ∀ {hp : Nat → Option Blk} {b : Nat}, (∀ e ∈ ed, e.1 ≠ b) → app hp ed b = hp b := by
  induction ed with
  | nil => intro hp b _; rfl
  | cons e ed ih =>
    intro hp b h
    show app (upd hp e.1 e.2) ed b = _
    rw [ih (fun e' he' => h e' (List.mem_cons_of_mem _ he')), upd_ne _ _ (fun he => h e List.mem_cons_self he.symm)]

theorem app_congr {ed : List (Nat × Option Blk)} : ∀ {hp hp' : Nat → Option Blk} {b : Nat}, hp b = hp' b → app hp ed b = app hp' ed b := by
  induction ed with
  | nil => intro hp hp' b h; exact h
  | cons e ed ih =>
    intro hp hp' b h
    refine ih (hp := upd hp e.1 e.2) (hp' := upd hp' e.1 e.2) ?_
    unfold upd
    split <;> first | rfl | exact h

theorem app_comm {ed ed' : List (Nat × Option Blk)} (hp : Nat → Option Blk) (h : ∀ e ∈ ed, ∀ e' ∈ ed', e.1 ≠ e'.1) : app (app hp ed) ed' = app (app hp ed') ed := by
  funext b
  by_cases hb : ∃ e ∈ ed, e.1 = b
  · obtain ⟨e, he, hb⟩ := hb
    rw [app_other (ed := ed') (fun e' he' hh => h e he e' he' (by rw [hb, hh]))]
    exact app_congr (app_other (ed := ed') (fun e' he' hh => h e he e' he' (by rw [hb, hh]))).symm
  · have hb' : ∀ e ∈ ed, e.1 ≠ b := fun e he hh => hb ⟨e, he, hh⟩
    rw [app_other (ed := ed) (hp := app hp ed') hb']
    exact app_congr (app_other hb')

section
variable {P : Program} {c : Ctx}

theorem perf_hp {op : Op} (h : touches op = false) (hp hp' : Nat → Option Blk) (nid : Nat) (ev : Operand → AV) (ans : Ans) : perf P c hp nid ev ans op = perf P c hp' nid ev ans op := by
  cases op <;> first | rfl | (simp [touches] at h)

theorem perf_ev {op : Op} {ev ev' : Operand → AV} (h : ∀ x ∈ op.operands, ev x = ev' x) (hp : Nat → Option Blk) (nid : Nat) (ans : Ans) : perf P c hp nid ev ans op = perf P c hp nid ev' ans op := by
  have e1 : ∀ (xs : Array Operand), (∀ x ∈ xs, ev x = ev' x) → xs.toList.map ev = xs.toList.map ev' := fun xs hx => List.map_congr_left fun x hx' => hx x (by simpa using hx')
  cases op <;> simp only [perf] <;> try rfl
  case move x => rw [h x (by simp [Op.operands])]
  case assign x => rw [h x (by simp [Op.operands])]
  case pick q x y => rw [h x (by simp [Op.operands]), h y (by simp [Op.operands]), h q (by simp [Op.operands])]
  case box t x => rw [h x (by simp [Op.operands])]
  case load t x => rw [h x (by simp [Op.operands])]
  case store t x y => rw [h x (by simp [Op.operands]), h y (by simp [Op.operands])]
  case nilCheck x => rw [h x (by simp [Op.operands])]
  case binOp b xt x y yt => rw [h x (by simp [Op.operands]), h y (by simp [Op.operands])]
  case unOp b xt x => rw [h x (by simp [Op.operands])]
  case convert s d x => rw [h x (by simp [Op.operands])]
  case makeFunc fn first caps => rw [e1 first (fun x hx => h x (by simp [Op.operands, hx])), e1 caps (fun x hx => h x (by simp [Op.operands, hx]))]
  case fieldAddr t x f => rw [h x (by simp [Op.operands])]
  case field t x f => rw [h x (by simp [Op.operands])]
  case indexAddr t x i => rw [h x (by simp [Op.operands]), h i (by simp [Op.operands])]
  case build t parts =>
    have : (parts.toList.map fun p => (p.1, ev p.2)) = (parts.toList.map fun p => (p.1, ev' p.2)) := List.map_congr_left fun p hp => by rw [h p.2 (by simp only [Op.operands, List.mem_toArray, List.mem_map]; exact ⟨p, hp, rfl⟩)]
    rw [this]
  case buildSlice t len parts =>
    have : (parts.toList.map fun p => (p.1, ev p.2)) = (parts.toList.map fun p => (p.1, ev' p.2)) := List.map_congr_left fun p hp => by rw [h p.2 (by simp only [Op.operands, List.mem_toArray, List.mem_map]; exact ⟨p, hp, rfl⟩)]
    rw [this]
  case index t x i => rw [h x (by simp [Op.operands]), h i (by simp [Op.operands])]
  case makeSlice t x y => rw [h x (by simp [Op.operands]), h y (by simp [Op.operands])]
  case slice t x lo hi mx =>
    have o1 : ∀ (y : Option Operand), (∀ x ∈ y, ev x = ev' x) → y.map ev = y.map ev' := fun y hy => by
      cases y with
      | none => rfl
      | some y => simp only [Option.map_some]; rw [hy y rfl]
    rw [h x (by simp [Op.operands]), o1 lo (fun y hy => h y (by cases hy; simp [Op.operands])), o1 hi (fun y hy => h y (by cases hy; simp [Op.operands]))]
  case extract x i => rw [h x (by simp [Op.operands])]
  case call q =>
    obtain ⟨callee, args, ts⟩ := q
    cases callee with
    | invoke r m => rfl
    | value f =>
      have h1 : ev f = ev' f := h f (by simp [Op.operands, Call.operands])
      have h2 : args.toList.map ev = args.toList.map ev' := e1 args (fun x hx => h x (by simp [Op.operands, Call.operands, hx]))
      simp only [h1, h2]
    | builtin b =>
      have h2 : ∀ x ∈ args, ev x = ev' x := fun x hx => h x (by simp [Op.operands, Call.operands, hx])
      simp only
      unfold pBuiltin
      split
      · rename_i x t ts' hargs _
        rw [h2 x (by rw [← Array.mem_toList_iff, hargs]; simp)]
      · rename_i x xs hargs
        rw [h2 x (by rw [← Array.mem_toList_iff, hargs]; simp), List.map_congr_left fun y hy => h2 y (by rw [← Array.mem_toList_iff, hargs]; simp [hy])]
      · rename_i x xs hargs
        rw [h2 x (by rw [← Array.mem_toList_iff, hargs]; simp), List.map_congr_left fun y hy => h2 y (by rw [← Array.mem_toList_iff, hargs]; simp [hy])]
      · rename_i x y t t' hargs _
        rw [h2 x (by rw [← Array.mem_toList_iff, hargs]; simp), h2 y (by rw [← Array.mem_toList_iff, hargs]; simp)]
      · rename_i x y t t' hargs _
        rw [h2 x (by rw [← Array.mem_toList_iff, hargs]; simp), h2 y (by rw [← Array.mem_toList_iff, hargs]; simp)]
      · rename_i x t hargs _
        rw [h2 x (by rw [← Array.mem_toList_iff, hargs]; simp)]
      · rename_i x t hargs _
        rw [h2 x (by rw [← Array.mem_toList_iff, hargs]; simp)]
      · rfl

theorem bad_ed {e : Nat × Option Blk} (h : e ∈ Perf.bad.ed) : False := by cases h

theorem eds_nid {nid : Nat} : ∀ {rs : Rs} {y : rs.den} {e : Nat × Option Blk}, e ∈ rs.eds nid y → e.1 = nid := by
  have one : ∀ (r : RT) (y : r.den) (e : Nat × Option Blk), e ∈ r.ed nid y → e.1 = nid := by
    intro r y e he
    cases r with
    | dp t => cases he
    | dn e => cases he
    | ow e' tid => obtain rfl := List.mem_singleton.1 he; rfl
  intro rs
  induction rs with
  | none => intro y e he; cases he
  | one r => intro y e he; exact one r y e he
  | more r rs ih =>
    intro y e he
    rcases List.mem_append.1 he with he | he
    · exact one r _ e he
    · exact ih he

theorem append_ed {hp : Nat → Option Blk} {nid : Nat} {t t' : TypeId} {x y : AV} {e : Nat × Option Blk} (he : e ∈ (pAppend P c hp nid t t' x y).ed) : e.1 = nid ∨ hp e.1 ≠ none := by
  unfold pAppend at he
  split at he
  · split at he
    · split at he
      · cases he
      · split at he
        · cases he
        · split at he
          · obtain rfl := List.mem_singleton.1 he; exact .inl rfl
          · rename_i b
            split at he
            · rename_i hb
              split at he
              · rcases List.mem_cons.1 he with he | he
                · subst he; exact .inr (by simp [hb])
                · obtain rfl := List.mem_singleton.1 he; exact .inl rfl
              · cases he
            · cases he
          · cases he
    · cases he
  · cases he

theorem append_edY {hp : Nat → Option Blk} {nid : Nat} {t t' : TypeId} {x y : AV} {e : Nat × Option Blk} (he : e ∈ (pAppendY P c hp nid t t' x y).ed) : e.1 = nid ∨ hp e.1 ≠ none := by
  unfold pAppendY at he
  split at he
  · exact append_ed he
  · unfold pAppendZ at he
    split at he
    · split at he
      · split at he
        · obtain rfl := List.mem_singleton.1 he; exact .inl rfl
        · cases he
      · cases he
    · cases he

theorem load_ed {hp : Nat → Option Blk} {t : TypeId} {x : AV} {e : Nat × Option Blk} (he : e ∈ (pLoad c hp t x).ed) : False := by
  unfold pLoad at he
  split at he
  · cases he
  · split at he
    · split at he
      · split at he <;> cases he
      · cases he
    · split at he
      · split at he <;> cases he
      · cases he
    · cases he
theorem store_ed {hp : Nat → Option Blk} {t : TypeId} {x y : AV} {e : Nat × Option Blk} (he : e ∈ (pStore c hp t x y).ed) : hp e.1 ≠ none := by
  unfold pStore at he
  split at he
  · cases he
  · split at he
    · split at he
      · rename_i k hk
        split at he
        · split at he
          · obtain rfl := List.mem_singleton.1 he
            rw [hk]; simp
          · cases he
        · cases he
      · cases he
    · cases he

/-- Which blocks an operation turns: a new one, or one that it sees. -/
theorem perf_ed {op : Op} {hp : Nat → Option Blk} {nid : Nat} {ev : Operand → AV} {ans : Ans} {e : Nat × Option Blk} (he : e ∈ (perf P c hp nid ev ans op).ed) : e.1 = nid ∨ (turns c op = true ∧ hp e.1 ≠ none) := by
  cases op <;> simp only [perf] at he <;> first | exact (bad_ed he).elim | cases he; done | skip
  case pick q x y => unfold pPick at he; split at he <;> cases he
  case alloc t =>
    unfold pAlloc at he
    split at he
    · cases he
    · split at he
      · obtain rfl := List.mem_singleton.1 he; exact .inl rfl
      · cases he
  case box t x =>
    unfold pBox at he
    split at he
    · obtain rfl := List.mem_singleton.1 he; exact .inl rfl
    · split at he
      · obtain rfl := List.mem_singleton.1 he; exact .inl rfl
      · cases he
    · cases he
  case load t x =>
    unfold pLoadX at he
    split at he
    · split at he
      · split at he
        · split at he
          · split at he <;> cases he
          · cases he
        · exact (load_ed he).elim
      · cases he
    · exact (load_ed he).elim
  case store t x y =>
    unfold pStoreX at he
    split at he
    · split at he
      · rename_i k hk
        split at he
        · unfold pStoreL at he
          split at he
          · split at he
            · split at he
              · split at he
                · obtain rfl := List.mem_singleton.1 he
                  exact .inr ⟨rfl, by rw [hk]; simp⟩
                · cases he
              · cases he
            · cases he
          · cases he
        · exact .inr ⟨rfl, store_ed he⟩
      · cases he
    · exact .inr ⟨rfl, store_ed he⟩
  case nilCheck x => unfold pNilCheck at he; split at he <;> cases he
  case binOp b xt x y yt =>
    unfold pBinN at he
    split at he
    · have he : e ∈ ([] : List (Nat × Option Blk)) := nilOf_ed (α := Ty.den _) _ ▸ he
      cases he
    · cases he
    unfold pBin at he
    split at he
    · split at he
      · exact (arith_ed he).elim
      · exact (arith_ed he).elim
      · split at he
        · exact (arith_ed he).elim
        · cases he
    · split at he
      · split at he
        · split at he <;> cases he
        · cases he
      · cases he
    · cases he
  case unOp b xt x => unfold pUn at he; split at he <;> cases he
  case convert s d x =>
    unfold pConv at he
    split at he
    · unfold pConvert at he; split at he <;> cases he
    · cases he
  case makeFunc fn first caps => unfold pMakeFunc at he; split at he <;> cases he
  case fieldAddr t x f =>
    unfold pFieldAddr at he
    split at he
    · cases he
    · split at he
      · split at he
        · split at he <;> cases he
        · cases he
        · cases he
      · cases he
  case field t x f =>
    unfold pFieldX at he
    split at he
    · repeat' split at he
      all_goals cases he
    unfold pField at he
    split at he
    · cases he
    · split at he
      · cases he
      · split at he
        · split at he <;> cases he
        · cases he
  case indexAddr t x i =>
    unfold pIndexAddr at he
    split at he
    · split at he
      · split at he
        · split at he <;> cases he
        · cases he
      · split at he
        · split at he <;> cases he
        · cases he
      · split at he
        · split at he
          · split at he <;> cases he
          · cases he
        · cases he
      · split at he
        · split at he
          · split at he <;> cases he
          · cases he
        · cases he
      · cases he
    · cases he
  case extract x i =>
    unfold pExtract at he
    split at he
    · split at he <;> cases he
    · cases he
  case call q =>
    obtain ⟨callee, args, ts⟩ := q
    cases callee with
    | invoke r m => cases he
    | value f =>
      simp only at he
      unfold pCall at he
      split at he
      · split at he
        · split at he
          · split at he
            · rename_i h _ _ _ _ x' y' hwr _ _
              unfold pCallHG at he
              split at he
              · unfold pCallH at he
                split at he
                · rename_i hb
                  cases hro : h.ro with
                  | true => rw [hro] at he; cases he
                  | false =>
                    rw [hro, Bool.or_false] at hwr
                    rw [hro] at he
                    simp only [Bool.and_eq_true] at hb
                    obtain ⟨b, hb', rfl⟩ := List.mem_map.1 he
                    have hp2 := hb.2.1
                    simp only [HSp.postB, HSp.fin, hro, Bool.and_eq_true] at hp2
                    have hj := (keysB_mem hp2.1 b hb').2
                    have := List.all_eq_true.1 hb.2.2.2.2.2 b.1 (List.mem_range.2 hj)
                    refine .inr ⟨hwr, ?_⟩
                    intro hnone
                    simp only at hnone
                    rw [hnone] at this
                    cases this
                · cases he
              · unfold pCallG at he
                split at he
                · split at he
                  · rename_i hb
                    simp only [Bool.and_eq_true, Bool.not_eq_true'] at hb
                    have hro := hb.2.2.2.2.2.2.1
                    rw [hro, Bool.or_false] at hwr
                    split at he
                    · rename_i hk0
                      rcases List.mem_cons.1 he with he | he
                      · subst he
                        refine .inr ⟨hwr, ?_⟩
                        intro hnone
                        simp only at hnone
                        rw [hnone] at hk0
                        cases hk0
                      · obtain rfl := List.mem_singleton.1 he
                        exact .inl rfl
                    · cases he
                  · cases he
                · cases he
            · cases he
          · cases he
        · cases he
      · split at he
        · split at he
          · split at he
            · unfold pCallS at he
              split at he
              · unfold pCallBy at he
                split at he
                · split at he
                  · exact .inl (eds_nid he)
                  · cases he
                · cases he
              · rename_i hg
                simp only [Bool.and_eq_true] at hg
                unfold pCallW at he
                split at he
                · split at he
                  · rename_i hk
                    split at he
                    · split at he
                      · obtain rfl := List.mem_singleton.1 he
                        refine .inr ⟨hg.1, ?_⟩
                        rw [hk]; simp
                      · cases he
                    · cases he
                  · cases he
                · cases he
              · cases he
            · cases he
          · cases he
        · split at he
          · unfold pCallFn at he
            split at he
            · split at he <;> cases he
            · cases he
          · cases he
        · split at he
          · unfold pCallFn2 at he
            split at he
            · split at he <;> cases he
            · cases he
          · cases he
        · cases he
      · cases he
    | builtin b =>
      simp only at he
      unfold pBuiltin at he
      split at he
      · unfold pLen at he
        split at he
        · cases he
        · split at he <;> cases he
        · split at he <;> cases he
        · cases he
        · cases he
        · cases he
      · rw [pMin_ed] at he; cases he
      · rw [pMax_ed] at he; cases he
      · rcases append_edY he with he | he
        · exact .inl he
        · exact .inr ⟨rfl, he⟩
      · unfold pCopy at he
        split at he
        · split at he
          · rename_i b _ _ b' _ _ _ _ _ _ _ _
            unfold pCopyB at he
            split at he
            · rename_i hk _
              split at he
              · obtain rfl := List.mem_singleton.1 he
                exact .inr ⟨rfl, by rw [hk]; simp⟩
              · cases he
            · cases he
          · cases he
        · cases he
      · unfold pClear at he
        split at he
        · split at he
          · rename_i hk
            split at he
            · obtain rfl := List.mem_singleton.1 he
              exact .inr ⟨rfl, by rw [hk]; simp⟩
            · cases he
          · cases he
        · cases he
      · unfold pCapN at he
        split at he <;> cases he
      · cases he
  case build t parts =>
    unfold pBuildX at he
    split at he
    · repeat' split at he
      all_goals cases he
    unfold pBuild at he
    repeat' split at he
    all_goals cases he
  case buildSlice t len parts =>
    unfold pBuildSlice at he
    split at he
    · split at he
      · cases he
      · split at he
        · cases he
        · split at he
          · cases he
          · split at he
            · obtain rfl := List.mem_singleton.1 he; exact .inl rfl
            · cases he
            · cases he
    · cases he
  case makeSlice t x y =>
    unfold pMakeSlice at he
    split at he
    · split at he
      · split at he
        · cases he
        · split at he
          · obtain rfl := List.mem_singleton.1 he; exact .inl rfl
          · cases he
      · cases he
    · cases he
  case index t x i =>
    unfold pIndex at he
    split at he
    · split at he
      · split at he <;> cases he
      · unfold pIndexV at he
        repeat' split at he
        all_goals cases he
    · cases he
  case slice t x lo hi mx =>
    unfold pSliceY at he
    split at he
    · split at he
      · unfold pSliceS at he
        repeat' split at he
        all_goals cases he
      · unfold pSliceO at he
        split at he
        · rename_i hk
          split at he
          · split at he
            · rcases List.mem_cons.1 he with he | he
              · subst he
                exact .inr ⟨rfl, by simp only; rw [hk]; simp⟩
              · obtain rfl := List.mem_singleton.1 he
                exact .inl rfl
            · cases he
          · cases he
        · cases he
    · unfold pSliceN at he
      repeat' split at he
      all_goals cases he
    unfold pSliceX at he
    split at he
    · unfold pSliceA at he
      split at he
      · split at he
        · split at he <;> cases he
        · cases he
      · cases he
    unfold pSlice at he
    split at he
    · split at he
      · split at he <;> cases he
      · cases he
    · cases he
end
end Go.Sx
