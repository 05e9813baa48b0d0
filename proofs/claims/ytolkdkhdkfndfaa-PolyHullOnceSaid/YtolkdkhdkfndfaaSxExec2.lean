/-
  Code along one way, loops, and functions.
-/
import Derived.Test.YtolkdkhdkfndfaaSxExec
namespace Go.Sx

def maskOf (o : Oper) (acc : List Nat) : Nat := o.after.toList.foldl (fun m e => match Region.binds .any e with
  | true => m ||| 2 ^ e.on ||| acc.getD e.on 0
  | false => m) 0
def masks : List Oper → List Nat → List Nat
  | [], acc => acc
  | o :: os, acc => masks os (acc ++ [maskOf o acc])

def needs : List Oper → Nat
  | [] => 0
  | o :: os => need o + needs os

/-- What an operand leads to. -/
def srcOf (s : St) (tb : List (Nat × Src)) : Operand → Src
  | .tmp t => match find tb t with
    | some k => k
    | none => match s.sl t with
      | .val .ptr p => .blk p.b
      | .val .own b => .blk b
      | .val _ _ => .data
      | .imm _ _ _ => .data
      | .nil => .data
      | _ => .unk
  | .const _ => .data
  | _ => .unk

def isH (c : Ctx) : Operand → Bool
  | .func f => match find c.hs f with
    | some _ => true
    | none => false
  | _ => false

def refsIn (s : St) (l : List Nat) : List Nat := l.flatMap fun b => match s.hp b with
  | some k => k.refs
  | none => []
def deepL (s : St) (l : List Nat) : List Nat := l ++ (refsIn s l ++ refsIn s (refsIn s l))
/-- Blocks, and what they lead to. -/
def deepS (s : St) : Src → Src
  | .blk b => .many (deepL s [b])
  | .two b c => .many (deepL s [b, c])
  | .many l => .many (deepL s l)
  | k => k

def srcs (c : Ctx) (s : St) : Nat → List Oper → List (Nat × Src) → List Src
  | _, [], _ => []
  | n, o :: os, tb => (match o.op with
      | .load _ x => srcOf s tb x
      | .store _ x _ => srcOf s tb x
      | .indexAddr _ x _ => srcOf s tb x
      | .slice _ x _ _ _ => srcOf s tb x
      | .call q => match q.callee, q.args.toList with
        | .builtin .len, [x] => srcOf s tb x
        | .builtin .append, [x, y] => (srcOf s tb x).with (srcOf s tb y)
        | .value f, x :: xs => match wrOp c f || isH c f with
          | true => deepS s ((x :: xs).foldr (fun y k => (srcOf s tb y).with k) .data)
          | false => .unk
        | _, _ => .unk
      | _ => .unk) :: srcs c s (n + 1) os (match o.dst with
      | none => tb
      | some t => (t, match o.op with
        | .alloc _ => .blk n
        | .box _ _ => .blk n
        | .buildSlice _ _ _ => .blk n
        | .fieldAddr _ x _ => srcOf s tb x
        | .indexAddr _ x _ => srcOf s tb x
        | .nilCheck x => srcOf s tb x
        | .move x => srcOf s tb x
        | .assign x => srcOf s tb x
        | .load _ x => match srcOf s tb x with
          | .blk b => match s.hp b with
            | some k => match k.refs with
              | [] => .data
              | l => .many l
            | none => .data
          | _ => .data
        | _ => .unk) :: tb)

def regOf (P : Program) (c : Ctx) (nx : Nat) (ops : Array Oper) (as : List Ans) (src : List Src) : Reg := ⟨src, P, c, nx, ops, masks ops.toList [], dist ops.toList as⟩

def srcIn (c : Ctx) (draw : Bool) (s : St) (nx : Nat) (ops : Array Oper) : List Src := match draw with
  | true => srcs c s nx ops.toList []
  | false => []

def Ex.to : Ex → Exit
  | .normal => .normal
  | .exit id => .exit id
  | .ret => .ret

/-- From a written state, code comes to a written state. -/
def Triple (P : Program) (c : Ctx) (code : Code) (n0 : Nat) (pre : SL) (ex : Ex) (n1 : Nat) (post : SL) : Prop :=
  ∀ (cx : Cx) (ρ : Nat → Value) (a : Act) (w : World) (Q : Exit → Act → World → Prop), cx.P = P → cx.n = c.n → cx.np = c.pin → M cx ρ (fun b => b < n0) pre.st a w →
    (∀ ρ' a' w', M cx ρ' (fun b => b < n1) post.st a' w' → Q ex.to a' w') → code.wp P Q a w

/-- What a cut asks. -/
def CutOk (P : Program) (c : Ctx) (code : Code) (d : CutD) (nx : Nat) (s : St) : Prop :=
  match runCmds c.n c.pin d.cmds nx s with
  | (_, s') => s'.ok ∧ (Shows d.g d.pre s' ∧ (d.pre.okB d.g d.n0 c.pin = true ∧ Triple P c code d.n0 d.pre d.ex d.n1 d.post))

def inBlock (id : Nat) : Ex → Ex
  | .exit id' => match Nat.beq id' id with
    | true => .normal
    | false => .exit id'
  | ex => ex

/-- The cut of region id, if it is told next. -/
def cutOf (id : Nat) : List Ans → Option (CutD × List Ans)
  | .cutR i d :: as => match Nat.beq i id with
    | true => some (d, as)
    | false => none
  | _ => none

/-- Code along the way that the answers tell. -/
def exec (P : Program) (c : Ctx) : Code → Nat → St → List Ans → (Ex → Nat → St → List Ans → Prop) → Prop
  | .skip, nx, s, as, k => k .normal nx s as
  | .ret, nx, s, as, k => k .ret nx s as
  | .exit id, nx, s, as, k => k (.exit id) nx s as
  | .seq a b, nx, s, as, k => exec P c a nx s as fun ex nx' s' as' => match ex with
    | .normal => exec P c b nx' s' as' k
    | .exit id => k (.exit id) nx' s' as'
    | .ret => k .ret nx' s' as'
  | .block id body, nx, s, as, k => exec P c body nx s as fun ex nx' s' as' => k (inBlock id ex) nx' s' as'
  | .cond q x y, nx, s, as, k => match as with
    | .dec t :: as' => match s.ev q with
      | .val .bool b => match t with
        | true => exec P c x nx ⟨s.sl, s.hp, s.ok ∧ b = true⟩ as' k
        | false => exec P c y nx ⟨s.sl, s.hp, s.ok ∧ b = false⟩ as' k
      | _ => False
    | .cut d :: as' => s.ok ∧ CutOk P c (.cond q x y) d nx s ∧ k d.ex d.n1 d.post.st as'
    | .fork l r :: _ => match s.ev q with
      | .anyb p => (p → exec P c x nx s l k) ∧ exec P c y nx s r k
      | _ => False
    | _ => False
  | .loop body, nx, s, as, k => match as with
    | .cut d :: as' => s.ok ∧ CutOk P c (.loop body) d nx s ∧ k d.ex d.n1 d.post.st as'
    | _ => False
  | .region id ops draw, nx, s, as, k => match cutOf id as with
    | some (d, as') => s.ok ∧ CutOk P c (.region id ops draw) d nx s ∧ k d.ex d.n1 d.post.st as'
    | none => match draw && !(regOf P c nx ops as (srcIn c draw s nx ops)).chk with
      | true => False
      | false => k .normal (nx + ops.size) ((regOf P c nx ops as (srcIn c draw s nx ops)).run (fun _ => true) ops.size s) (as.drop (needs ops.toList))
  | _, _, _, _, _ => False

section
variable {P : Program} {c : Ctx}

theorem CutOk.sound {code : Code} {d : CutD} {nx : Nat} {s : St} (h : CutOk P c code d nx s) {cx : Cx} (hP : cx.P = P) (hn : cx.n = c.n) (hE : cx.np = c.pin) {ρ : Nat → Value} {a : Act} {w : World}
    (hM : M cx ρ (fun b => b < nx) s a w) {Q : Exit → Act → World → Prop} (hQ : ∀ ρ' a' w', M cx ρ' (fun b => b < d.n1) d.post.st a' w' → Q d.ex.to a' w') : code.wp P Q a w := by
  unfold CutOk at h
  rw [← hn, ← hE] at h
  obtain ⟨h1, h2, h3, h4⟩ := h
  obtain ⟨ρ', hM'⟩ := cmds_sound hM h1
  exact h4 cx _ a w Q hP hn hE (hM'.shown h2 h3 rfl) hQ

theorem exec_ok : ∀ (code : Code) {nx : Nat} {s : St} {as : List Ans} {k : Ex → Nat → St → List Ans → Prop}, (∀ ex nx s as, k ex nx s as → s.ok) → exec P c code nx s as k → s.ok := by
  intro code
  induction code with
  | skip => intro nx s as k hk h; exact hk _ _ _ _ h
  | ret => intro nx s as k hk h; exact hk _ _ _ _ h
  | exit id => intro nx s as k hk h; exact hk _ _ _ _ h
  | seq x y ihx ihy =>
    intro nx s as k hk h
    refine ihx (fun ex nx' s' as' h' => ?_) h
    cases ex with
    | normal => exact ihy hk h'
    | exit id => exact hk _ _ _ _ h'
    | ret => exact hk _ _ _ _ h'
  | block id body ih => intro nx s as k hk h; exact ih (fun ex nx' s' as' h' => hk _ _ _ _ h') h
  | cond q x y ihx ihy =>
    intro nx s as k hk h
    simp only [exec] at h
    split at h
    · split at h
      · split at h
        · exact (ihx hk h).1
        · exact (ihy hk h).1
      · exact h.elim
    · exact h.1
    · split at h
      · exact ihy hk h.2
      · exact h.elim
    · exact h.elim
  | loop body _ =>
    intro nx s as k hk h
    simp only [exec] at h
    split at h
    · exact h.1
    · exact h.elim
  | region id ops draw =>
    intro nx s as k hk h
    simp only [exec] at h
    split at h
    · exact h.1
    · split at h
      · exact h.elim
      · exact Reg.run_mono (hk _ _ _ _ h)
  | _ => intro nx s as k hk h; simp only [exec] at h

theorem inBlock_sound (id : Nat) (ex : Ex) {Q : Exit → Act → World → Prop} {a : Act} {w : World} (h : Q (inBlock id ex).to a w) : Exit.inBlock id Q ex.to a w := by
  cases ex with
  | normal => exact h
  | ret => exact h
  | exit id' =>
    show (if id' = id then Q .normal a w else Q (.exit id') a w)
    by_cases e : id' = id
    · subst e
      simp only [inBlock] at h
      rw [if_pos rfl]
      have : Nat.beq id' id' = true := Nat.beq_refl _
      rw [this] at h
      exact h
    · rw [if_neg e]
      simp only [inBlock, beq_false e] at h
      exact h

theorem exec_sound (hc : CtxOk P c) (hmix : P.follows .mixedOrders = true) {cx : Cx} (hP : cx.P = P) (hn : cx.n = c.n) (hE : cx.np = c.pin) : ∀ (code : Code) {nx : Nat} {s : St} {as : List Ans} {k : Ex → Nat → St → List Ans → Prop}
    {ρ : Nat → Value} {a : Act} {w : World} {Q : Exit → Act → World → Prop}, (∀ ex nx s as, k ex nx s as → s.ok) → exec P c code nx s as k → M cx ρ (fun b => b < nx) s a w →
    (∀ ex nx' s' as' ρ' a' w', k ex nx' s' as' → M cx ρ' (fun b => b < nx') s' a' w' → Q ex.to a' w') → code.wp P Q a w := by
  subst hP
  intro code
  induction code with
  | skip => intro nx s as k ρ a w Q hk h hM hQ; exact wp_skip (hQ _ _ _ _ _ _ _ h hM)
  | ret => intro nx s as k ρ a w Q hk h hM hQ; exact wp_ret (hQ _ _ _ _ _ _ _ h hM)
  | exit id => intro nx s as k ρ a w Q hk h hM hQ; exact wp_exit (hQ _ _ _ _ _ _ _ h hM)
  | seq x y ihx ihy =>
    intro nx s as k ρ a w Q hk h hM hQ
    have hk' : ∀ (ex : Ex) (nx' : Nat) (s' : St) (as' : List Ans), (match ex with | .normal => exec cx.P c y nx' s' as' k | .exit id => k (.exit id) nx' s' as' | .ret => k .ret nx' s' as') → s'.ok := by
      intro ex nx' s' as' h'
      cases ex with
      | normal => exact exec_ok y hk h'
      | exit id => exact hk _ _ _ _ h'
      | ret => exact hk _ _ _ _ h'
    refine wp_seq (ihx hk' h hM fun ex nx' s' as' ρ' a' w' h' hM' => ?_)
    cases ex with
    | normal => exact ihy hk h' hM' hQ
    | exit id => exact hQ _ _ _ _ _ _ _ h' hM'
    | ret => exact hQ _ _ _ _ _ _ _ h' hM'
  | block id body ih =>
    intro nx s as k ρ a w Q hk h hM hQ
    exact wp_block (ih (fun ex nx' s' as' h' => hk _ _ _ _ h') h hM fun ex nx' s' as' ρ' a' w' h' hM' => inBlock_sound id ex (hQ _ _ _ _ _ _ _ h' hM'))
  | cond q x y ihx ihy =>
    intro nx s as k ρ a w Q hk h hM hQ
    simp only [exec] at h
    split at h
    · rename_i t as'
      split at h
      · rename_i b hq
        have hb : a.eval q = .bool b := by have := (hM.ev q).1; rw [hq] at this; exact RV_bool this
        split at h
        · have hbt : b = true := (exec_ok x hk h).2
          subst hbt
          exact wp_cond hb (ihx hk h (hM.okay _) hQ)
        · have hbt : b = false := (exec_ok y hk h).2
          subst hbt
          exact wp_cond hb (ihy hk h (hM.okay _) hQ)
      · exact h.elim
    · exact CutOk.sound h.2.1 rfl hn hE hM fun ρ' a' w' hM' => hQ _ _ _ _ _ _ _ h.2.2 hM'
    · split at h
      · rename_i p hq
        have h1 := (hM.ev q).1
        rw [hq] at h1
        obtain ⟨b, hb, hp⟩ := h1
        cases b with
        | true => exact wp_cond hb (ihx hk (h.1 (hp rfl)) hM hQ)
        | false => exact wp_cond hb (ihy hk h.2 hM hQ)
      · exact h.elim
    · exact h.elim
  | loop body _ =>
    intro nx s as k ρ a w Q hk h hM hQ
    simp only [exec] at h
    split at h
    · exact CutOk.sound h.2.1 rfl hn hE hM fun ρ' a' w' hM' => hQ _ _ _ _ _ _ _ h.2.2 hM'
    · exact h.elim
  | region id ops draw =>
    intro nx s as k ρ a w Q hk h hM hQ
    simp only [exec] at h
    split at h
    · exact CutOk.sound h.2.1 rfl hn hE hM fun ρ' a' w' hM' => hQ _ _ _ _ _ _ _ h.2.2 hM'
    · split at h
      · exact h.elim
      · rename_i hch
        refine Reg.wp (R := regOf cx.P c nx ops as (srcIn c draw s nx ops)) rfl hc hn.symm hE.symm hmix (fun hd => ?_) (hk _ _ _ _ h) hM (fun ρ' a' w' hM' => hQ _ _ _ _ _ _ _ h hM') id
        subst hd
        simpa using hch
  | _ => intro nx s as k ρ a w Q hk h hM hQ; simp only [exec] at h

/-- The end of a way: the state is as written. -/
def Fin (c : Ctx) (cmds : List Cmd) (g : List (Nat × Nat)) (ex : Ex) (n1 : Nat) (post : SL) (ex' : Ex) (nx : Nat) (s : St) (_ : List Ans) : Prop :=
  match runCmds c.n c.pin cmds nx s with
  | (_, s') => s'.ok ∧ (ex' = ex ∧ (Shows g post s' ∧ post.okB g n1 c.pin = true))

theorem Fin.ok {cmds : List Cmd} {g : List (Nat × Nat)} {ex : Ex} {n1 : Nat} {post : SL} {ex' : Ex} {nx : Nat} {s : St} {as : List Ans} (h : Fin c cmds g ex n1 post ex' nx s as) : s.ok := cmds_mono (n := c.n) (np := c.pin) (qs := cmds) (nx := nx) h.1

theorem Fin.sound {cmds : List Cmd} {g : List (Nat × Nat)} {ex : Ex} {n1 : Nat} {post : SL} {ex' : Ex} {nx : Nat} {s : St} {as : List Ans} (h : Fin c cmds g ex n1 post ex' nx s as) {cx : Cx} (hn : cx.n = c.n) (hE : cx.np = c.pin)
    {ρ : Nat → Value} {a : Act} {w : World} (hM : M cx ρ (fun b => b < nx) s a w) : ex' = ex ∧ ∃ ρ', M cx ρ' (fun b => b < n1) post.st a w := by
  unfold Fin at h
  rw [← hn, ← hE] at h
  obtain ⟨h1, h2, h3, h4⟩ := h
  obtain ⟨ρ', hM'⟩ := cmds_sound hM h1
  exact ⟨h2, _, hM'.shown h3 h4 rfl⟩

/-- A way through code without more. -/
theorem triple_way (hc : CtxOk P c) (hmix : P.follows .mixedOrders = true) {code : Code} {n0 n1 : Nat} {pre post : SL} {ex : Ex} (as : List Ans) (cmds : List Cmd) (g : List (Nat × Nat))
    (h : exec P c code n0 pre.st as (Fin c cmds g ex n1 post)) : Triple P c code n0 pre ex n1 post := by
  intro cx ρ a w Q hP hn hE hM hQ
  refine exec_sound hc hmix hP hn hE code (fun _ _ _ _ h => Fin.ok h) h hM fun ex' nx' s' as' ρ' a' w' h' hM' => ?_
  obtain ⟨rfl, ρ2, hM2⟩ := h'.sound hn hE hM'
  exact hQ ρ2 a' w' hM2

/-- From the begin of a loop's round. -/
def LoopWp (P : Program) (body : Code) (Q : Exit → Act → World → Prop) (a : Act) (w : World) : Prop :=
  ∀ (b : Frame) (k : List Item) (cs : List Frame), ∃ e a' w', Q e a' w' ∧ Arrives P (lone (b.at a (.code body :: .inLoop body :: k)) cs w) b k cs e a' w'

theorem LoopWp.loop {body : Code} {Q : Exit → Act → World → Prop} {a : Act} {w : World} (h : LoopWp P body Q a w) : (Code.loop body).wp P Q a w := by
  intro b k cs
  obtain ⟨e, a', w', hq, harr⟩ := h b k cs
  exact ⟨e, a', w', hq, .of_steps (.one step_loop) harr⟩

theorem LoopWp.once {body : Code} {Q : Exit → Act → World → Prop} {a : Act} {w : World} (h : body.wp P (Exit.then (fun a' w' => LoopWp P body Q a' w') Q) a w) : LoopWp P body Q a w := by
  intro b k cs
  obtain ⟨e, a₁, w₁, hq, harr⟩ := h b (.inLoop body :: k) cs
  cases e with
  | normal =>
    obtain ⟨e2, a2, w2, hq2, harr2⟩ := hq b k cs
    exact ⟨e2, a2, w2, hq2, .of_steps (Steps.trans harr (.one step_inLoop)) harr2⟩
  | exit id => exact ⟨_, a₁, w₁, hq, .pass (x := .inLoop body) rfl (fun _ _ => .inl (by simp)) harr⟩
  | goto l => exact ⟨_, a₁, w₁, hq, .pass (x := .inLoop body) rfl (fun _ _ => .inl (by simp)) harr⟩
  | ret => exact ⟨_, a₁, w₁, hq, .pass (x := .inLoop body) rfl (fun _ _ => .inl (by simp)) harr⟩
  | panic ch => exact ⟨_, a₁, w₁, hq, .pass (x := .inLoop body) rfl (fun _ _ => .inl (by simp)) harr⟩
  | outgrown => exact ⟨_, a₁, w₁, hq, .pass (x := .inLoop body) rfl (fun _ _ => .inl (by simp)) harr⟩

/-- From a written state, a loop comes to a written state. -/
def LTriple (P : Program) (c : Ctx) (body : Code) (n0 : Nat) (pre : SL) (ex : Ex) (n1 : Nat) (post : SL) : Prop :=
  ∀ (cx : Cx) (ρ : Nat → Value) (a : Act) (w : World) (Q : Exit → Act → World → Prop), cx.P = P → cx.n = c.n → cx.np = c.pin → M cx ρ (fun b => b < n0) pre.st a w →
    (∀ ρ' a' w', M cx ρ' (fun b => b < n1) post.st a' w' → Q ex.to a' w') → LoopWp P body Q a w

theorem LTriple.triple {body : Code} {n0 n1 : Nat} {pre post : SL} {ex : Ex} (h : LTriple P c body n0 pre ex n1 post) : Triple P c (.loop body) n0 pre ex n1 post :=
  fun cx ρ a w Q hP hn hE hM hQ => by subst hP; exact (h cx ρ a w Q rfl hn hE hM hQ).loop

/-- A round, and the loop from where it ends. -/
theorem loop_back (hc : CtxOk P c) (hmix : P.follows .mixedOrders = true) {body : Code} {n0 n1 : Nat} {pre post : SL} {ex : Ex} (n0' : Nat) (pre' : SL) (as : List Ans) (cmds : List Cmd) (g : List (Nat × Nat))
    (h : exec P c body n0 pre.st as (Fin c cmds g .normal n0' pre')) (hl : LTriple P c body n0' pre' ex n1 post) : LTriple P c body n0 pre ex n1 post := by
  intro cx ρ a w Q hP hn hE hM hQ
  subst hP
  refine LoopWp.once (exec_sound hc hmix rfl hn hE body (fun _ _ _ _ h => Fin.ok h) h hM fun ex' nx' s' as' ρ' a' w' h' hM' => ?_)
  obtain ⟨rfl, ρ2, hM2⟩ := h'.sound hn hE hM'
  exact hl cx ρ2 a' w' Q rfl hn hE hM2 hQ

/-- A round that leaves the loop. -/
theorem loop_exit (hc : CtxOk P c) (hmix : P.follows .mixedOrders = true) {body : Code} {n0 n1 : Nat} {pre post : SL} {ex : Ex} (as : List Ans) (cmds : List Cmd) (g : List (Nat × Nat)) (hex : ex ≠ .normal)
    (h : exec P c body n0 pre.st as (Fin c cmds g ex n1 post)) : LTriple P c body n0 pre ex n1 post := by
  intro cx ρ a w Q hP hn hE hM hQ
  subst hP
  refine LoopWp.once (exec_sound hc hmix rfl hn hE body (fun _ _ _ _ h => Fin.ok h) h hM fun ex' nx' s' as' ρ' a' w' h' hM' => ?_)
  obtain ⟨rfl, ρ2, hM2⟩ := h'.sound hn hE hM'
  have hq := hQ ρ2 a' w' hM2
  cases ex' with
  | normal => exact absurd rfl hex
  | exit id => exact hq
  | ret => exact hq

/-- The values that a function hands back. -/
def retAV (c : Ctx) (s : St) : ResultVar → Option AV
  | .tmp t => some (s.sl t)
  | .cell ad t => match s.sl ad with
    | .val .ptr p => match s.hp p.b, find c.T t with
      | some k, some ty => match getP k p ty with
        | (some y, none) => some (.val ty y)
        | _ => none
      | _, _ => none
    | _ => none

def RetV (np : Nat) (s : St) : (r : RT) → r.den → AV → Prop
  | .dp t, y, av => av = .val t y
  | .ow e tid, l, av => match av with
    | .val .own b => match Nat.ble np b with
      | true => s.hp b = some (.row e l tid)
      | false => False
    | _ => False
  | .dn e, (l : List e.den), av => match av with
    | .nil => NN l
    | av => av = .val (.slice e) l ∧ NE l

def RetVs (c : Ctx) (s : St) : (rs : Rs) → rs.den → List ResultVar → Prop
  | .none, _, vs => vs = []
  | .one r, y, [v] => match retAV c s v with
    | some av => RetV c.pin s r y av
    | none => False
  | .more r rs, y, v :: vs => match retAV c s v with
    | some av => RetV c.pin s r y.1 av ∧ RetVs c s rs y.2 vs
    | none => False
  | _, _, _ => False

/-- The end of a function. -/
def Ret (c : Ctx) (fn : Func) (cmds : List Cmd) (rs : Rs) (y : rs.den) (ex : Ex) (nx : Nat) (s : St) (_ : List Ans) : Prop :=
  match runCmds c.n c.pin cmds nx s with
  | (_, s') => s'.ok ∧ ((match ex with | .exit _ => False | _ => True) ∧ RetVs c s' rs y fn.results.toList)
end
end Go.Sx
