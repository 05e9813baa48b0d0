/-
  What one operation does to an abstract state.
-/
import Derived.Test.YtolkdkhdkfndfaaSxM
namespace Go.Sx

/-- A list is not empty, or is. -/
def NE {α : Type} : List α → Prop
  | [] => False
  | _ :: _ => True
def NN {α : Type} : List α → Prop
  | [] => True
  | _ :: _ => False

/-- Results: a value that reads as data, a row that the caller gets as its own, or a slice that reads as data and is nil if it is empty. -/
inductive RT where
  | dp (t : Ty)
  | ow (e : Ty) (tid : TypeId)
  | dn (e : Ty)
def RT.den : RT → Type
  | .dp t => t.den
  | .ow e _ => List e.den
  | .dn e => List e.den
inductive Rs where
  | none
  | one (r : RT)
  | more (r : RT) (rs : Rs)
def Rs.den : Rs → Type
  | .none => Unit
  | .one r => r.den
  | .more r rs => r.den × rs.den

/-- What a function computes. -/
structure Spec where
  ps : Ty
  rs : Rs
  f : ps.den → Option rs.den
  /-- The first parameter points to a block that is written; the first result is what it holds then. -/
  wr : Bool

/-- A parameter of a function that is lent blocks of the caller's own: it leads to them, or it is data. -/
inductive HArg where
  | lent (av : AV)
  | dat (t : Ty) (x : t.den)

/-- What a function computes that is lent blocks of the caller's own: np of them, in the numbers below np. -/
structure HSp where
  xs : Ty
  ys : Ty
  np : Nat
  args : xs.den → List HArg
  pre : xs.den → List (Nat × Blk)
  g : xs.den → Option ys.den
  post : xs.den → ys.den → List (Nat × Blk)
  rs : Rs
  res : ys.den → rs.den
  /-- It writes nothing of what it is lent. -/
  ro : Bool
  /-- It is given the row of its first parameter for good, and hands back a row. -/
  gv : Bool

def HSp.fin (h : HSp) (x : h.xs.den) (y : h.ys.den) : List (Nat × Blk) := match h.ro with
  | true => h.pre x
  | false => h.post x y

structure Ctx where
  T : List (Nat × Ty)
  fns : List (Nat × Spec)
  eqs : List (Nat × Ty)
  n : Nat
  /-- How many blocks are lent by the caller: those below. -/
  pin : Nat
  hs : List (Nat × HSp)
  /-- Slices that are not set yet are known to be nil. -/
  nz : Bool

/-- A state, written out. -/
structure SL where
  sl : List (Nat × AV)
  hp : List (Nat × Blk)

inductive Ex where
  | normal
  | exit (id : Nat)
  | ret

/-- What is done to a state at a cut: a nil slice becomes a row of the call's own, or data; a row is given up to be read alone. -/
inductive Cmd where
  | own (d : Nat) (e : Ty) (tid : TypeId)
  | deep (d : Nat) (e : Ty)
  | freeze (d : Nat)
  /-- of a block's field: from nil to an own row, from nil to data, from an own row to data -/
  | ownF (b off : Nat) (e : Ty) (tid : TypeId)
  | deepF (b off : Nat) (e : Ty)
  | frzF (b off : Nat)
  /-- a struct with own rows becomes data -/
  | melt (d : Nat) (t : Ty)

structure CutD where
  cmds : List Cmd
  g : List (Nat × Nat)
  pre : SL
  n0 : Nat
  ex : Ex
  post : SL
  n1 : Nat

/-- Answers that are told: which way a test goes, what a call returns, where a walk is cut (a region apart from a loop or a test). -/
inductive Ans where
  | dec (b : Bool)
  | res (rs : Rs) (y : rs.den)
  | hres (g : List (Nat × Nat)) (xs : Ty) (x : xs.den) (ys : Ty) (y : ys.den)
  | cut (d : CutD)
  | cutR (id : Nat) (d : CutD)
  | fork (l r : List Ans)

def find {α : Type} : List (Nat × α) → Nat → Option α
  | [], _ => none
  | (k, x) :: l, n => match Nat.beq k n with
    | true => some x
    | false => find l n

def tyOk (P : Program) (t : TypeId) (ty : Ty) : Bool :=
  match P.info? t with
  | none => false
  | some i => Nat.beq i.size ty.size && match P.underlying t with
    | some (.struct _) => ty.agg
    | some (.array _ _) => ty.agg
    | some _ => !ty.agg
    | none => false

def isInt0 (k : IntKind) : Value → Bool
  | .int k' n => decide (k = k') && decide (n = 0)
  | _ => false

def zInt (k : IntKind) : List Value → Option (List Value)
  | .int k' n :: r => match decide (k = k') && decide (n = 0) with
    | true => some r
    | false => none
  | _ => none
def zBool : List Value → Option (List Value)
  | .bool false :: r => some r
  | _ => none
def zSlice : List Value → Option (List Value)
  | .slice none 0 0 :: r => some r
  | _ => none

def zrest : Ty → List Value → Option (List Value)
  | .int k, l => zInt k l
  | .bool, l => zBool l
  | .unit, r => some r
  | .pair a b, r => (zrest a r).bind (zrest b)
  | .slice _, l => zSlice l
  | .nil, l => zSlice l
  | .arr n e, r => Nat.rec (some r) (fun _ q => q.bind (zrest e)) n
  | _, _ => none

def zeroOk (P : Program) (t : TypeId) (ty : Ty) : Bool :=
  match (P.info? t).bind (·.zero) with
  | some z => match zrest ty z.cells.toList with
    | some [] => true
    | _ => false
  | none => false

def fieldOf (P : Program) (s : TypeId) (f : Nat) : Option (Nat × TypeId) :=
  match P.underlying s with
  | some (.struct fs) => (fs[f]?).map fun x => (x.offset, x.type)
  | _ => none

/-- Slices that are nil. -/
def Ty.nilz : Bool → Ty → Ty
  | true, .slice _ => .nil
  | true, .pair a b => .pair (a.nilz true) (b.nilz true)
  | _, t => t

structure Perf where
  v : AV
  ed : List (Nat × Option Blk)
  ob : Option Prop

def obP : Option Prop → Prop
  | none => True
  | some q => q
def Perf.obP (p : Perf) : Prop := Sx.obP p.ob
def Perf.bad : Perf := ⟨.undef, [], some False⟩
def Perf.of (v : AV) : Perf := ⟨v, [], none⟩

/-- A value as data of kind t. -/
def coe (t : Ty) (av : AV) : Option t.den :=
  match av with
  | .val t' x => Ty.as? t' t x
  | .nil => match t with
    | .slice _ => some []
    | .nil => some ()
    | _ => none
  | _ => none

def ibits (op : BinOp) (k : IntKind) (x y : Int) : Int :=
  let a := BitVec.ofInt k.bits x
  let b := BitVec.ofInt k.bits y
  match op with
  | .and => k.wrap (a &&& b).toNat
  | .or => k.wrap (a ||| b).toNat
  | .xor => k.wrap (a ^^^ b).toNat
  | _ => k.wrap (a &&& ~~~b).toNat

def arith (op : BinOp) (k : IntKind) (x y : Int) : Perf :=
  match op with
  | .add => .of (.val (.int k) (k.wrap (x + y)))
  | .sub => .of (.val (.int k) (k.wrap (x - y)))
  | .mul => .of (.val (.int k) (k.wrap (x * y)))
  | .quo => ⟨.val (.int k) (k.wrap (x.tdiv y)), [], some (¬ y = 0)⟩
  | .rem => ⟨.val (.int k) (x.tmod y), [], some (¬ y = 0)⟩
  | .and => .of (.val (.int k) (ibits .and k x y))
  | .or => .of (.val (.int k) (ibits .or k x y))
  | .xor => .of (.val (.int k) (ibits .xor k x y))
  | .andNot => .of (.val (.int k) (ibits .andNot k x y))
  | .shl => ⟨.val (.int k) (k.wrap (x * 2 ^ (min y.toNat k.bits))), [], some (0 ≤ y)⟩
  | .shr => ⟨.val (.int k) (x.fdiv (2 ^ (min y.toNat k.bits))), [], some (0 ≤ y)⟩
  | .eql => .of (.val .bool (decide (x = y)))
  | .neq => .of (.val .bool (decide (¬ x = y)))
  | .lss => .of (.val .bool (decide (x < y)))
  | .leq => .of (.val .bool (decide (x ≤ y)))
  | .gtr => .of (.val .bool (decide (x > y)))
  | .geq => .of (.val .bool (decide (x ≥ y)))

def inR (n len : Int) : Prop := 0 ≤ n ∧ n < len
def imin (x y : Int) : Int := if y < x then y else x
def imax (x y : Int) : Int := if y > x then y else x
def ieq (x y : Int) : Bool := decide (x = y)
def beqb (x y : Bool) : Bool := x == y
def ineg (k : IntKind) (n : Int) : Int := k.wrap (0 - n)

def eqbs {α : Type} (f : α → α → Bool) : List α → List α → Bool
  | x :: l, y :: m => f x y && eqbs f l m
  | _, _ => true

/-- Equality of data without addresses. -/
def Ty.eqb : (t : Ty) → t.den → t.den → Bool
  | .int _, x, y => ieq x y
  | .bool, x, y => beqb x y
  | .pair a b, x, y => a.eqb x.1 y.1 && b.eqb x.2 y.2
  | .unit, _, _ => true
  | .arr _ e, x, y => eqbs e.eqb x y
  | _, _, _ => false

def pBin (c : Ctx) (op : BinOp) (xt : TypeId) (x y : AV) : Perf :=
  match x, y with
  | .val (.int k) a, .val (.int k') b =>
    match op with
    | .shl => arith .shl k a b
    | .shr => arith .shr k a b
    | op => match decide (k = k') with
      | true => arith op k a b
      | false => .bad
  | .val tx a, .val t' b => match find c.eqs xt with
    | some t => match Ty.as? tx t a, Ty.as? t' t b with
      | some a, some b => match op with
        | .eql => .of (.val .bool (t.eqb a b))
        | .neq => .of (.val .bool (!(t.eqb a b)))
        | _ => .bad
      | _, _ => .bad
    | none => .bad
  | _, _ => .bad

def pUn (op : UnOp) (x : AV) : Perf :=
  match op, x with
  | .neg, .val (.int k) n => .of (.val (.int k) (ineg k n))
  | .not, .val .bool b => .of (.val .bool (!b))
  | .xor, .val (.int k) n => .of (.val (.int k) (ibits .xor k (if k.signed then -1 else k.max) n))
  | _, _ => .bad

def pConvert (P : Program) (dst : TypeId) (x : AV) : Perf :=
  match P.underlying dst, x with
  | some (.int k), .val (.int _) n => .of (.val (.int k) (k.wrap n))
  | _, _ => .bad

/-- A part of a block, by a pointer. -/
def getP (k : Blk) (p : Ptr) (t : Ty) : Option t.den × Option Prop :=
  match k with
  | .cells ty x => match Nat.beq p.es 0 with
    | true => (comp ty x (p.off + p.inner) t, none)
    | false => match arrc ty x p.off with
      | some A => match Nat.beq A.e.size p.es with
        | true => (comp A.e (A.l.getD p.i.toNat A.e.zero) p.inner t, some (inR p.i (A.n : Int)))
        | false => (none, some False)
      | none => (none, some False)
  | .row e l _ => match Nat.beq e.size p.es && Nat.beq p.off 0 && t.deep with
    | true => (comp e (l.getD p.i.toNat e.zero) p.inner t, some (inR p.i (l.length : Int)))
    | false => (none, some False)

def setP (k : Blk) (p : Ptr) (t : Ty) (y : t.den) : Option Blk × Option Prop :=
  match k with
  | .cells ty x => match Nat.beq p.es 0 with
    | true => ((setc ty x (p.off + p.inner) t y).map (Blk.cells ty), none)
    | false => match arrc ty x p.off with
      | some A => match Nat.beq A.e.size p.es with
        | true => ((setc A.e (A.l.getD p.i.toNat A.e.zero) p.inner t y).bind fun z => (seta ty x p.off A.e (A.l.set p.i.toNat z)).map (Blk.cells ty), some (inR p.i (A.n : Int)))
        | false => (none, some False)
      | none => (none, some False)
  | .row e l tid => match Nat.beq e.size p.es && Nat.beq p.off 0 && t.deep with
    | true => ((setc e (l.getD p.i.toNat e.zero) p.inner t y).map fun z => Blk.row e (l.set p.i.toNat z) tid, some (inR p.i (l.length : Int)))
    | false => (none, some False)

def pLoad (c : Ctx) (hp : Nat → Option Blk) (t : TypeId) (x : AV) : Perf :=
  match find c.T t with
  | none => .bad
  | some ty => match x with
    | .val .ptr p => match hp p.b with
      | some k => match getP k p ty with
        | (some y, ob) => ⟨.val ty y, [], ob⟩
        | (none, _) => .bad
      | none => .bad
    | .imm t' y off => match ty.deep with
      | true => match comp t' y off ty with
        | some z => .of (.val ty z)
        | none => .bad
      | false => .bad
    | _ => .bad

def pStore (c : Ctx) (hp : Nat → Option Blk) (t : TypeId) (x y : AV) : Perf :=
  match find c.T t with
  | none => .bad
  | some ty => match x with
    | .val .ptr p => match hp p.b with
      | some k => match coe ty y with
        | some z => match setP k p ty z with
          | (some k', ob) => ⟨.undef, [(p.b, some k')], ob⟩
          | (none, _) => .bad
        | none => .bad
      | none => .bad
    | _ => .bad

def pAlloc (P : Program) (c : Ctx) (nid : Nat) (t : TypeId) : Perf :=
  match find c.T t with
  | none => .bad
  | some ty => match zeroOk P t (ty.nilz c.nz) with
    | true => ⟨.val .ptr ⟨nid, 0, 0, 0, 0⟩, [(nid, some (.cells (ty.nilz c.nz) (ty.nilz c.nz).zero))], none⟩
    | false => .bad

def pBox (c : Ctx) (nid : Nat) (t : TypeId) (x : AV) : Perf :=
  match x with
  | .val ty y => ⟨.val .ptr ⟨nid, 0, 0, 0, 0⟩, [(nid, some (.cells ty y))], none⟩
  | .nil => match find c.T t with
    | some (.slice e) => ⟨.val .ptr ⟨nid, 0, 0, 0, 0⟩, [(nid, some (.cells (.slice e) []))], none⟩
    | _ => .bad
  | _ => .bad

def pFieldAddr (P : Program) (s : TypeId) (x : AV) (f : Nat) : Perf :=
  match fieldOf P s f with
  | none => .bad
  | some (off, ft) => match (P.info? ft).map (·.size) with
    | some (_ + 1) => match x with
      | .val .ptr p => match Nat.beq p.es 0 with
        | true => .of (.val .ptr ⟨p.b, p.off + off, p.i, p.es, p.inner⟩)
        | false => .of (.val .ptr ⟨p.b, p.off, p.i, p.es, p.inner + off⟩)
      | .imm t y o => .of (.imm t y (o + off))
      | _ => .bad
    | _ => .bad

def pField (P : Program) (c : Ctx) (s : TypeId) (x : AV) (f : Nat) : Perf :=
  match fieldOf P s f with
  | none => .bad
  | some (off, ft) => match find c.T ft with
    | none => .bad
    | some ty => match x with
      | .val (.pair p q) y => match comp (.pair p q) y off ty with
        | some z => .of (.val ty z)
        | none => .bad
      | _ => .bad

/-- A place of x[lo:], counted from the begin of x. -/
def ofs (lo : Nat) (n : Int) : Int := (lo : Int) + n

def pIndexAddr (P : Program) (hp : Nat → Option Blk) (t : TypeId) (x i : AV) : Perf :=
  match i with
  | .val (.int _) n => match P.underlying t, x with
    | some (.array len elem), .val .ptr p => match Nat.beq p.es 0 && Nat.beq p.inner 0 with
      | true => match (P.info? elem).map (·.size) with
        | some (m + 1) => ⟨.val .ptr ⟨p.b, p.off, n, m + 1, 0⟩, [], some (inR n (len : Int))⟩
        | _ => .bad
      | false => .bad
    | some (.slice elem), .val (.slice e) l => match (P.info? elem).map (·.size) with
      | some (m + 1) => match Nat.beq e.size (m + 1) with
        | true => ⟨.imm e (List.getD l n.toNat e.zero) 0, [], some (inR n (List.length l : Int))⟩
        | false => .bad
      | _ => .bad
    | some (.slice elem), .val .own b => match hp b with
      | some (.row e l _) => match (P.info? elem).map (·.size) with
        | some (m + 1) => match Nat.beq e.size (m + 1) with
          | true => ⟨.val .ptr ⟨b, 0, n, m + 1, 0⟩, [], some (inR n (l.length : Int))⟩
          | false => .bad
        | _ => .bad
      | _ => .bad
    | some (.slice elem), .suf b lo k => match hp b with
      | some (.row e l _) => match (P.info? elem).map (·.size) with
        | some (m + 1) => match Nat.beq e.size (m + 1) && Nat.beq k (m + 1) with
          | true => ⟨.val .ptr ⟨b, 0, ofs lo n, m + 1, 0⟩, [], some (inR n ((l.length - lo : Nat) : Int))⟩
          | false => .bad
        | _ => .bad
      | _ => .bad
    | _, _ => .bad
  | _ => .bad

def pLen (P : Program) (hp : Nat → Option Blk) (t : TypeId) (x : AV) : Perf :=
  match P.underlying t, x with
  | some (.slice _), .val (.slice _) l => .of (.val (.int .i64) (List.length l : Int))
  | some (.slice _), .val .own b => match hp b with
    | some (.row _ l _) => .of (.val (.int .i64) (l.length : Int))
    | _ => .bad
  | some (.slice _), .suf b lo _ => match hp b with
    | some (.row _ l _) => .of (.val (.int .i64) ((l.length - lo : Nat) : Int))
    | _ => .bad
  | some (.slice _), .nil => .of (.val (.int .i64) (0 : Int))
  | some (.array n _), _ => .of (.val (.int .i64) (n : Int))
  | _, _ => .bad

/-- min and max of whole numbers, from the left. -/
def pMin : AV → List AV → Perf
  | .val (.int k) x, [] => .of (.val (.int k) x)
  | .val (.int k) x, .val (.int _) y :: l => pMin (.val (.int k) (imin x y)) l
  | _, _ => .bad
def pMax : AV → List AV → Perf
  | .val (.int k) x, [] => .of (.val (.int k) x)
  | .val (.int k) x, .val (.int _) y :: l => pMax (.val (.int k) (imax x y)) l
  | _, _ => .bad

def capPtrs : List AV → Option (List Ptr)
  | [] => some []
  | .val .ptr p :: l => (capPtrs l).map (p :: ·)
  | _ :: _ => none

/-- The parts of a struct, set one by one. -/
def pParts (c : Ctx) (fs : Array Field) (t : Ty) : t.den → List (Nat × AV) → Option t.den
  | x, [] => some x
  | x, (i, av) :: r => match fs[i]? with
    | some f => match find c.T f.type with
      | some ft => match coe ft av with
        | some y => match setc t x f.offset ft y with
          | some x' => pParts c fs t x' r
          | none => none
        | none => none
      | none => none
    | none => none

def pElems (e : Ty) (n : Nat) : List e.den → List (Nat × AV) → Option (List e.den)
  | l, [] => some l
  | l, (i, av) :: r => match Nat.blt i n with
    | true => match coe e av with
      | some y => pElems e n (l.set i y) r
      | none => none
    | false => none

def placesOf (P : Program) (fs : List Field) : Option (List (Nat × Nat)) := fs.mapM fun f => (P.info? f.type).map fun i => (f.offset, i.size)

def pBuild (P : Program) (c : Ctx) (t : TypeId) (parts : List (Nat × AV)) : Perf :=
  match find c.T t with
  | none => .bad
  | some ty => match zeroOk P t ty with
    | false => .bad
    | true => match P.underlying t with
      | some (.struct fs) => match placesOf P fs.toList with
        | none => .bad
        | some _ => match pParts c fs ty ty.zero parts with
          | some y => .of (.val ty y)
          | none => .bad
      | some (.array _ et) => match ty with
        | .arr n e => match tyOk P et e with
          | true => match pElems e n (List.replicate n e.zero) parts with
            | some l => .of (.val (.arr n e) l)
            | none => .bad
          | false => .bad
        | _ => .bad
      | _ => .bad

def pBuildSlice (P : Program) (c : Ctx) (nid : Nat) (t : TypeId) (len : Nat) (parts : List (Nat × AV)) (ans : Ans) : Perf :=
  match P.underlying t with
  | some (.slice et) => match find c.T et with
    | none => .bad
    | some e => match zeroOk P et e && (Nat.blt 0 e.size && (Nat.ble (len * e.size) 16777216 && (Nat.ble len 9000000000000000000 && e.deep))) with
      | false => .bad
      | true => match pElems e len (List.replicate len e.zero) parts with
        | none => .bad
        | some l => match ans with
          | .dec true => ⟨.val .own nid, [(nid, some (.row e l et))], none⟩
          | .dec false => .of (.val (.slice e) l)
          | _ => .bad
  | _ => .bad

def mkOk (bytes : Nat) (n m : Int) : Prop := m = n ∧ (0 ≤ n ∧ (n ≤ 9000000000000000000 ∧ (bytes : Int) * n ≤ 140737488355328))
instance (b : Nat) (n m : Int) : Decidable (mkOk b n m) := by unfold mkOk; infer_instance
/-- make of a list: as many zeros. -/
def pMakeSlice (P : Program) (c : Ctx) (nid : Nat) (t : TypeId) (x y : AV) : Perf :=
  match P.underlying t with
  | some (.slice et) => match find c.T et, P.info? et with
    | some e, some i => match zeroOk P et e && (Nat.blt 0 e.size && e.deep) with
      | false => .bad
      | true => match x, y with
        | .val (.int _) n, .val (.int _) m => ⟨.val .own nid, [(nid, some (.row e (List.replicate n.toNat e.zero) et))], some (mkOk i.bytes n m)⟩
        | _, _ => .bad
    | _, _ => .bad
  | _ => .bad

def roomFor (bytes n m : Nat) : Prop := (n + m) * bytes ≤ 140737488355328

/-- What append adds. -/
def addends (hp : Nat → Option Blk) (e : Ty) (y : AV) : Option (List e.den) :=
  match y with
  | .nil => some []
  | .val .own b => match hp b with
    | some (.row e' l _) => Ty.as? (.slice e') (.slice e) l
    | _ => none
  | .val t l => Ty.as? t (.slice e) l
  | _ => none

def pAppend (P : Program) (c : Ctx) (hp : Nat → Option Blk) (nid : Nat) (t t' : TypeId) (x y : AV) : Perf :=
  match Nat.beq t t', P.underlying t with
  | true, some (.slice et) => match find c.T et, P.info? et with
    | some e, some i => match zeroOk P et e && (Nat.blt 0 e.size && (Nat.blt 0 i.bytes && e.deep)) with
      | false => .bad
      | true => match addends hp e y with
        | none => .bad
        | some m => match x with
          | .nil => ⟨.val .own nid, [(nid, some (.row e m et))], some (roomFor i.bytes 0 m.length)⟩
          | .val .own b => match hp b with
            | some (.row e' l et') => match Nat.beq et et' && Nat.ble c.pin b, Ty.as? (.slice e') (.slice e) l with
              | true, some (l : List e.den) => ⟨.val .own nid, [(b, none), (nid, some (.row e (l ++ m) et))], some (roomFor i.bytes l.length m.length)⟩
              | _, _ => .bad
            | _ => .bad
          | _ => .bad
    | _, _ => .bad
  | _, _ => .bad

/-- append(nil, make([]T, n)...) -/
def zAp (bytes : Nat) (n : Int) : Prop := 0 < n ∧ n * (bytes : Int) ≤ 140737488355328
def pAppendZ (P : Program) (c : Ctx) (nid : Nat) (t t' : TypeId) (x y : AV) : Perf :=
  match x, y, P.underlying t, P.underlying t' with
  | .nil, .val (.int _) n, some (.slice et), some (.int _) => match find c.T et, P.info? et with
    | some e, some i => match zeroOk P et e && (Nat.blt 0 e.size && (Nat.blt 0 i.bytes && e.deep)) with
      | true => ⟨.val .own nid, [(nid, some (.row e (List.replicate (Int.toNat n) e.zero) et))], some (zAp i.bytes n)⟩
      | false => .bad
    | _, _ => .bad
  | _, _, _, _ => .bad
def pAppendY (P : Program) (c : Ctx) (hp : Nat → Option Blk) (nid : Nat) (t t' : TypeId) (x y : AV) : Perf := match Nat.beq t t' with
  | true => pAppend P c hp nid t t' x y
  | false => pAppendZ P c nid t t' x y

def cutIx (n : Int) (hi : Option AV) : Option Int :=
  match hi with
  | none => some n
  | some (.val (.int _) h) => some h
  | _ => none

/-- A part of a slice that is data. -/
def pSlice (P : Program) (t : TypeId) (x : AV) (lo hi : Option AV) (mx : Bool) : Perf :=
  match mx, P.underlying t, x with
  | false, some (.slice et), .val (.slice e) l => match (P.info? et).map (·.size), cutIx 0 lo, cutIx (List.length l : Int) hi with
    | some m, some a, some b => match Nat.beq e.size m with
      | true => ⟨.val (.slice e) (List.drop a.toNat (List.take b.toNat l)), [], some (0 ≤ a ∧ a ≤ b ∧ b ≤ (List.length l : Int))⟩
      | false => .bad
    | _, _, _ => .bad
  | _, _, _ => .bad

/-- A byte of a string. -/
def strAt (s : ByteArray) (n : Int) : Int := ((s.data.getD n.toNat 0).toNat : Int)

/-- An element of an array that is a value. -/
def pIndexV (P : Program) (c : Ctx) (t : TypeId) (x : AV) (n : Int) : Perf :=
  match x with
  | .val (.arr m e) l => match P.underlying t with
    | some (.array len elem) => match Nat.beq len m with
      | true => match find c.T elem with
        | some ty => match Ty.as? (.arr m e) (.arr m ty) l with
          | some (l' : List ty.den) => ⟨.val ty (l'.getD n.toNat ty.zero), [], some (inR n (m : Int))⟩
          | none => .bad
        | none => .bad
      | false => .bad
    | _ => .bad
  | _ => .bad
def pIndex (P : Program) (c : Ctx) (t : TypeId) (x : Operand) (xv : AV) (i : AV) : Perf :=
  match i with
  | .val (.int _) n => match x with
    | .const (.string s) => match P.underlying t with
      | some .string => ⟨.val (.int .u8) (strAt s n), [], some (inR n (s.size : Int))⟩
      | _ => .bad
    | _ => pIndexV P c t xv n
  | _ => .bad

end Go.Sx
