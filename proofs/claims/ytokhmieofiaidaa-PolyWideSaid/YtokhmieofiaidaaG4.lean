import Derived.Test.YtokhmieofiaidaaG3
namespace Go.Proofs.T1
open Go Go.Sx Go.Proofs
set_option maxRecDepth 100000
set_option linter.unusedVariables false
/-! tourney/tourref2.Inside -/
noncomputable def tourref2_Inside.code : Code := Func.cd Try.f22
def tourref2_Inside.c2 (k : Nat) (a0 : (List V24)) (a1 : V24) (v4 : Int) : Option (Bool) :=
  req (inL 0 a0) <|
  req (inL (isub .i64 v4 1) a0) <|
  bnd (tourref2_left k (el Z24 a0 0) (el Z24 a0 (isub .i64 v4 1)) a1) fun y8 =>
  bif' (ige y8 0)
  (req (inL v4 a0) <|
   bnd (tourref2_left k (el Z24 a0 (isub .i64 v4 1)) (el Z24 a0 v4) a1) fun y12 =>
   bif' (ige y12 0)
   (bnd (tourref2_left k (el Z24 a0 v4) (el Z24 a0 0) a1) fun y15 =>
    some (ige y15 0))
   (some false))
  (some false)
def tourref2_Inside.c1 (k : Nat) (a0 : (List V24)) (a1 : V24) : Nat → Int → Option (Unit ⊕ Unit)
  | 0, _ => none
  | n + 1, v4 =>
   bif' (ilt v4 (len a0))
   (bnd (tourref2_Inside.c2 k a0 a1 v4) fun o17 =>
    bif' o17
    (some (.inl ()))
    (tourref2_Inside.c1 k a0 a1 n (iadd .i64 v4 1)))
   (some (.inr ()))
def tourref2_Inside (k : Nat) (a0 : (List V24)) (a1 : V24) : Option Bool :=
  bnd (tourref2_coord k a1 65536000) fun y1 =>
  bif' y1
  (bnd (tourref2_Inside.c1 k a0 a1 k 2) fun o20 =>
   two o20 (fun y22 =>
   some true) (fun y24 =>
   some false))
  (some false)
noncomputable def tourref2_Inside.sp (k : Nat) : Go.Sx.Spec := ⟨(.pair T22 (.pair T24 .unit)), (.one (.dp T4)), fun x => tourref2_Inside k x.1 x.2.1, false⟩
noncomputable def tourref2_Inside.cx (k : Nat) : Go.Sx.Ctx := ⟨tys, [(70, tourref2_coord.sp k), (71, tourref2_left.sp k)], eqs, 52, false⟩
theorem tourref2_Inside.cok (k : Nat) : CtxOk PR (tourref2_Inside.cx k) := ctx_ok tysOk eqsOk (FnsOk.cons (tourref2_coord.ok k) (FnsOk.cons (tourref2_left.ok k) FnsOk.nil))
noncomputable def tourref2_Inside.c2p (a0 : (List V24)) (a1 : V24) (v4 : Int) : SL := ⟨[(0, (.val T22 a0)), (3, (.val .ptr ⟨0, 0, (0 : Int), 0, 0⟩)), (5, (.val T3 v4))], [(0, .cells T24 a1)]⟩
noncomputable def tourref2_Inside.c2q (a0 : (List V24)) (a1 : V24) (v4 : Int) (o : Bool) : SL := (fun v => ⟨[(0, (.val T22 a0)), (3, (.val .ptr ⟨0, 0, (0 : Int), 0, 0⟩)), (5, (.val T3 v4)), (51, (.val T4 v))], [(0, .cells T24 a1)]⟩) o
noncomputable def tourref2_Inside.c2x (o : Bool) : Ex := (fun _ => .normal) o
noncomputable def tourref2_Inside.c2n (o : Bool) : Nat := (fun _ => 1) o
theorem tourref2_Inside.c2_ok (k : Nat) (a0 : (List V24)) (a1 : V24) (v4 : Int) : Owp (tourref2_Inside.c2 k a0 a1 v4) fun o => Triple PR (tourref2_Inside.cx k) (sub tourref2_Inside.code [1, 1, 0, 1, 0, 0, 1, 0, 0, 0]) 1 (tourref2_Inside.c2p a0 a1 v4) (tourref2_Inside.c2x o) (tourref2_Inside.c2n o) (tourref2_Inside.c2q a0 a1 v4 o) := by
  unfold tourref2_Inside.c2; exact
   Owp.req fun h6 =>
   Owp.req fun h7 =>
   Owp.bnd fun y8 e9 =>
   Owp.bif (fun e10 =>
   Owp.req fun h11 =>
    Owp.bnd fun y12 e13 =>
    Owp.bif (fun e14 =>
    Owp.bnd fun y15 e16 =>
     Owp.some (triple_way (tourref2_Inside.cok k) hmix [.res (.one (.dp T3)) y8, .dec true, .dec true, .dec true, .dec true, .dec true, .dec true, .dec true, .dec true, .dec true, .dec true, .dec true, .res (.one (.dp T3)) y12, .dec true, .dec true, .dec true, .dec true, .dec true, .dec true, .dec true, .dec true, .dec true, .dec true, .dec true, .res (.one (.dp T3)) y15, .dec true, .dec true] [] [(0, 0)] (via (finP (And.intro (And.intro (And.intro (And.intro (And.intro (And.intro (And.intro (And.intro (And.intro (And.intro (And.intro (And.intro (And.intro (And.intro (And.intro (And.intro (And.intro (And.intro (And.intro (And.intro (And.intro (And.intro (And.intro (And.intro (And.intro (And.intro (And.intro trivial h6) h7) e9) e10) e10) e10) (And.intro e10 h7)) e10) e10) e10) (And.intro e10 h11)) e10) e10) (And.intro e10 e13)) e10) e10) e14) e14) (And.intro e14 h11)) e14) e14) (And.intro e14 h6)) e14) e14) (And.intro e14 e16)) e14) e14) .normal [(0, 0)] (tourref2_Inside.c2q a0 a1 v4 (ige y15 (0 : Int)))) (by kernel_rfl)))) (fun e14 =>
    Owp.some (triple_way (tourref2_Inside.cok k) hmix [.res (.one (.dp T3)) y8, .dec true, .dec true, .dec true, .dec true, .dec true, .dec true, .dec true, .dec true, .dec true, .dec true, .dec true, .res (.one (.dp T3)) y12, .dec true, .dec true, .dec false, .dec false, .dec false, .dec false, .dec false, .dec false, .dec false, .dec false, .dec false, .dec true, .dec false, .dec false] [] [(0, 0)] (via (finP (And.intro (And.intro (And.intro (And.intro (And.intro (And.intro (And.intro (And.intro (And.intro (And.intro (And.intro (And.intro (And.intro (And.intro (And.intro (And.intro (And.intro (And.intro (And.intro (And.intro (And.intro (And.intro (And.intro (And.intro (And.intro (And.intro (And.intro trivial h6) h7) e9) e10) e10) e10) (And.intro e10 h7)) e10) e10) e10) (And.intro e10 h11)) e10) e10) (And.intro e10 e13)) e10) e10) e14) e14) e14) e14) e14) e14) e14) e14) e14) e14) e14) .normal [(0, 0)] (tourref2_Inside.c2q a0 a1 v4 false)) (by kernel_rfl))))) (fun e10 =>
   Owp.some (triple_way (tourref2_Inside.cok k) hmix [.res (.one (.dp T3)) y8, .dec false, .dec false, .dec false, .dec false, .dec false, .dec false, .dec false, .dec false, .dec false, .dec false, .dec false, .dec true, .dec false, .dec false, .dec false, .dec false, .dec false, .dec false, .dec false, .dec false, .dec false, .dec false, .dec false, .dec true, .dec false, .dec false] [] [(0, 0)] (via (finP (And.intro (And.intro (And.intro (And.intro (And.intro (And.intro (And.intro (And.intro (And.intro (And.intro (And.intro (And.intro (And.intro (And.intro (And.intro (And.intro (And.intro (And.intro (And.intro (And.intro (And.intro (And.intro (And.intro (And.intro (And.intro (And.intro (And.intro trivial h6) h7) e9) e10) e10) e10) e10) e10) e10) e10) e10) e10) e10) e10) e10) e10) ff) ff) ff) ff) ff) ff) ff) ff) ff) ff) ff) .normal [(0, 0)] (tourref2_Inside.c2q a0 a1 v4 false)) (by kernel_rfl))))
noncomputable def tourref2_Inside.c1p (a0 : (List V24)) (a1 : V24) (v4 : Int) : SL := ⟨[(0, (.val T22 a0)), (3, (.val .ptr ⟨0, 0, (0 : Int), 0, 0⟩)), (5, (.val T3 v4))], [(0, .cells T24 a1)]⟩
noncomputable def tourref2_Inside.c1q (o : Unit ⊕ Unit) : SL := (fun o => two o (fun v => ⟨[(4, (.val T4 true))], []⟩) (fun v => ⟨[], []⟩)) o
noncomputable def tourref2_Inside.c1x (o : Unit ⊕ Unit) : Ex := (fun o => two o (fun _ => .ret) (fun _ => (.exit 0))) o
noncomputable def tourref2_Inside.c1n (o : Unit ⊕ Unit) : Nat := (fun o => two o (fun _ => 0) (fun _ => 0)) o
theorem tourref2_Inside.c1_ok (k : Nat) (a0 : (List V24)) (a1 : V24) : ∀ (n : Nat) (v4 : Int), Owp (tourref2_Inside.c1 k a0 a1 n v4) fun o => LTriple PR (tourref2_Inside.cx k) (sub tourref2_Inside.code [1, 1, 0, 1, 0, 0]) 1 (tourref2_Inside.c1p a0 a1 v4) (tourref2_Inside.c1x o) (tourref2_Inside.c1n o) (tourref2_Inside.c1q o)
  | 0, _ => fun _ h => nomatch h
  | n + 1, v4 => Owp.of (tourref2_Inside.c1.eq_2 ..) (
   Owp.bif (fun e5 =>
   Owp.bnd fun o17 e18 =>
    Owp.bif (fun e19 =>
    Owp.some (loop_exit (tourref2_Inside.cok k) hmix [.dec true, .cutR 6 ⟨[], [(0, 0)], (tourref2_Inside.c2p a0 a1 v4), 1, .normal, (tourref2_Inside.c2q a0 a1 v4 o17), 1⟩, .dec true] [] [] exne_ret (via (cutP (And.intro trivial e5) [(0, 0)] (tourref2_Inside.c2p a0 a1 v4) (((tourref2_Inside.c2_ok k a0 a1 v4).ap e18)) (finP (And.intro trivial e19) .ret [] (tourref2_Inside.c1q (.inl ())))) (by kernel_rfl)))) (fun e19 =>
    fun y hy => loop_back (tourref2_Inside.cok k) hmix 1 (tourref2_Inside.c1p a0 a1 (iadd .i64 v4 (1 : Int))) [.dec true, .cutR 6 ⟨[], [(0, 0)], (tourref2_Inside.c2p a0 a1 v4), 1, .normal, (tourref2_Inside.c2q a0 a1 v4 o17), 1⟩, .dec false] [] [(0, 0)] (via (cutP (And.intro trivial e5) [(0, 0)] (tourref2_Inside.c2p a0 a1 v4) (((tourref2_Inside.c2_ok k a0 a1 v4).ap e18)) (finP (And.intro trivial e19) .normal [(0, 0)] (tourref2_Inside.c1p a0 a1 (iadd .i64 v4 (1 : Int))))) (by kernel_rfl)) ((tourref2_Inside.c1_ok k a0 a1 n (iadd .i64 v4 (1 : Int))).ap hy))) (fun e5 =>
   Owp.some (loop_exit (tourref2_Inside.cok k) hmix [.dec false] [] [] (exne 0) (via (finP (And.intro trivial e5) (.exit 0) [] (tourref2_Inside.c1q (.inr ()))) (by kernel_rfl)))))
theorem tourref2_Inside.way (k : Nat) (a0 : (List V24)) (a1 : V24) : Owp (tourref2_Inside k a0 a1) fun y => ∃ answers cmds, exec PR (tourref2_Inside.cx k) tourref2_Inside.code 0 (entry (.pair T22 (.pair T24 .unit)) (a0, a1, ())).st answers (Ret (tourref2_Inside.cx k) Try.f22 cmds (.one (.dp T4)) y) := by
  unfold tourref2_Inside; exact
   Owp.bnd fun y1 e2 =>
   Owp.bif (fun e3 =>
   Owp.bnd fun o20 e21 =>
    Owp.two (fun y22 e23 =>
    Owp.some (⟨[.res (.one (.dp T4)) y1, .dec false, .cut ⟨[], [(0, 0)], (tourref2_Inside.c1p a0 a1 (2 : Int)), 1, .ret, (tourref2_Inside.c1q (.inl ())), 0⟩], [], via (cutP (And.intro (And.intro trivial e2) (congrArg not e3)) [(0, 0)] (tourref2_Inside.c1p a0 a1 (2 : Int)) (((tourref2_Inside.c1_ok k a0 a1 k (2 : Int)).ap (e21.trans (congrArg some e23))).triple) (retP trivial (.one (.dp T4)) (true : Bool))) (by kernel_rfl)⟩)) (fun y24 e25 =>
    Owp.some (⟨[.res (.one (.dp T4)) y1, .dec false, .cut ⟨[], [(0, 0)], (tourref2_Inside.c1p a0 a1 (2 : Int)), 1, (.exit 0), (tourref2_Inside.c1q (.inr ())), 0⟩], [], via (cutP (And.intro (And.intro trivial e2) (congrArg not e3)) [(0, 0)] (tourref2_Inside.c1p a0 a1 (2 : Int)) (((tourref2_Inside.c1_ok k a0 a1 k (2 : Int)).ap (e21.trans (congrArg some e25))).triple) (retP trivial (.one (.dp T4)) (false : Bool))) (by kernel_rfl)⟩))) (fun e3 =>
   Owp.some (⟨[.res (.one (.dp T4)) y1, .dec true], [], via (retP (And.intro (And.intro trivial e2) (congrArg not e3)) (.one (.dp T4)) (false : Bool)) (by kernel_rfl)⟩))
theorem tourref2_Inside.ok (k : Nat) : FnOk PR 22 (tourref2_Inside.sp k) :=
  fn_ok (tourref2_Inside.cok k) hmix Try.func22 (code := tourref2_Inside.code) (by kernel_rfl) (by kernel_rfl) (by kernel_rfl) rfl (by kernel_rfl) (by kernel_rfl) (by kernel_rfl) (fun x => Nat.le_of_ble_eq_true (by kernel_rfl)) fun x y hy => (tourref2_Inside.way k x.1 x.2.1).ap hy

/-! tourney/tourref2.Dot -/
noncomputable def tourref2_Dot.code : Code := Func.cd Try.f42
def tourref2_Dot (k : Nat) (a0 : V24) (a1 : V24) : Option (List Int) :=
  bnd (tourref2_Of k a0.1) fun y1 =>
  bnd (tourref2_Of k a1.1) fun y3 =>
  bnd (tourref2_Big_Mul k y1 y3) fun y5 =>
  bnd (tourref2_Of k a0.2.1) fun y7 =>
  bnd (tourref2_Of k a1.2.1) fun y9 =>
  bnd (tourref2_Big_Mul k y7 y9) fun y11 =>
  bnd (tourref2_Big_Add k y5 y11) fun y13 =>
  some y13
noncomputable def tourref2_Dot.sp (k : Nat) : Go.Sx.Spec := ⟨(.pair T24 (.pair T24 .unit)), (.one (.dp T52)), fun x => tourref2_Dot k x.1 x.2.1, false⟩
noncomputable def tourref2_Dot.cx (k : Nat) : Go.Sx.Ctx := ⟨tys, [(36, tourref2_Of.sp k), (37, tourref2_Big_Mul.sp k), (39, tourref2_Big_Add.sp k)], eqs, 20, false⟩
theorem tourref2_Dot.cok (k : Nat) : CtxOk PR (tourref2_Dot.cx k) := ctx_ok tysOk eqsOk (FnsOk.cons (tourref2_Of.ok k) (FnsOk.cons (tourref2_Big_Mul.ok k) (FnsOk.cons (tourref2_Big_Add.ok k) FnsOk.nil)))
theorem tourref2_Dot.way (k : Nat) (a0 : V24) (a1 : V24) : Owp (tourref2_Dot k a0 a1) fun y => ∃ answers cmds, exec PR (tourref2_Dot.cx k) tourref2_Dot.code 0 (entry (.pair T24 (.pair T24 .unit)) (a0, a1, ())).st answers (Ret (tourref2_Dot.cx k) Try.f42 cmds (.one (.dp T52)) y) := by
  unfold tourref2_Dot; exact
   Owp.bnd fun y1 e2 =>
   Owp.bnd fun y3 e4 =>
   Owp.bnd fun y5 e6 =>
   Owp.bnd fun y7 e8 =>
   Owp.bnd fun y9 e10 =>
   Owp.bnd fun y11 e12 =>
   Owp.bnd fun y13 e14 =>
   Owp.some (⟨[.res (.one (.dp T52)) y1, .res (.one (.dp T52)) y3, .res (.one (.dp T52)) y5, .res (.one (.dp T52)) y7, .res (.one (.dp T52)) y9, .res (.one (.dp T52)) y11, .res (.one (.dp T52)) y13], [], via (retP (And.intro (And.intro (And.intro (And.intro (And.intro (And.intro (And.intro trivial e2) e4) e6) e8) e10) e12) e14) (.one (.dp T52)) (y13 : (List Int))) (by kernel_rfl)⟩)
theorem tourref2_Dot.ok (k : Nat) : FnOk PR 42 (tourref2_Dot.sp k) :=
  fn_ok (tourref2_Dot.cok k) hmix Try.func42 (code := tourref2_Dot.code) (by kernel_rfl) (by kernel_rfl) (by kernel_rfl) rfl (by kernel_rfl) (by kernel_rfl) (by kernel_rfl) (fun x => Nat.le_of_ble_eq_true (by kernel_rfl)) fun x y hy => (tourref2_Dot.way k x.1 x.2.1).ap hy

/-! tourney/tourref2.Far -/
noncomputable def tourref2_Far.code : Code := Func.cd Try.f23
def tourref2_Far.c2 (k : Nat) (a0 : (List V24)) (a1 : V24) (v1 : Int) : Nat → Bool → Int → Option (Bool)
  | 0, _, _ => none
  | n + 1, v4, v5 =>
   bif' (ilt v5 (len a0))
   (req (inL v5 a0) <|
    bnd (tourref2_Dot k (el Z24 a0 v5) a1) fun y8 =>
    bnd (tourref2_Dot k (el Z24 a0 v1) a1) fun y10 =>
    bnd (tourref2_Big_Cmp k y8 y10) fun y12 =>
    bif' v4
    (bif' (ilt y12 0)
     (tourref2_Far.c2 k a0 a1 v1 n true (iadd .i64 v5 1))
     (bif' (ieq y12 0)
      (tourref2_Far.c2 k a0 a1 v1 n (ige v5 v1) (iadd .i64 v5 1))
      (tourref2_Far.c2 k a0 a1 v1 n false (iadd .i64 v5 1))))
    (tourref2_Far.c2 k a0 a1 v1 n false (iadd .i64 v5 1)))
   (some v4)
def tourref2_Far.c1 (k : Nat) (a0 : (List V24)) (a1 : V24) : Nat → Int → Option (Int ⊕ Unit)
  | 0, _ => none
  | n + 1, v1 =>
   bif' (ilt v1 (len a0))
   (req (inL v1 a0) <|
    bnd (tourref2_Far.c2 k a0 a1 v1 k true 0) fun o17 =>
    bif' o17
    (some (.inl v1))
    (tourref2_Far.c1 k a0 a1 n (iadd .i64 v1 1)))
   (some (.inr ()))
def tourref2_Far (k : Nat) (a0 : (List V24)) (a1 : V24) : Option Int :=
  bnd (tourref2_Far.c1 k a0 a1 k 0) fun o20 =>
  two o20 (fun y22 =>
  some y22) (fun y24 =>
  some (-1))
noncomputable def tourref2_Far.sp (k : Nat) : Go.Sx.Spec := ⟨(.pair T22 (.pair T24 .unit)), (.one (.dp T3)), fun x => tourref2_Far k x.1 x.2.1, false⟩
noncomputable def tourref2_Far.cx (k : Nat) : Go.Sx.Ctx := ⟨tys, [(42, tourref2_Dot.sp k), (41, tourref2_Big_Cmp.sp k)], eqs, 50, false⟩
theorem tourref2_Far.cok (k : Nat) : CtxOk PR (tourref2_Far.cx k) := ctx_ok tysOk eqsOk (FnsOk.cons (tourref2_Dot.ok k) (FnsOk.cons (tourref2_Big_Cmp.ok k) FnsOk.nil))
noncomputable def tourref2_Far.c2p (a0 : (List V24)) (a1 : V24) (v1 : Int) (v4 : Bool) (v5 : Int) : SL := ⟨[(0, (.val T22 a0)), (3, (.val .ptr ⟨0, 0, (0 : Int), 0, 0⟩)), (5, (.val T3 v1)), (6, (.val .ptr ⟨1, 0, (0 : Int), 0, 0⟩)), (7, (.val T4 v4)), (11, (.val T22 a0)), (12, (.val T3 (len a0))), (13, (.val T3 v1)), (18, (.val T22 a0)), (19, (.val T3 (len a0))), (20, (.val T3 v5))], [(0, .cells T24 a1), (1, .cells T24 (el Z24 a0 v1))]⟩
noncomputable def tourref2_Far.c2q (a0 : (List V24)) (a1 : V24) (v1 : Int) (o : Bool) : SL := (fun v => ⟨[(0, (.val T22 a0)), (3, (.val .ptr ⟨0, 0, (0 : Int), 0, 0⟩)), (5, (.val T3 v1)), (7, (.val T4 v)), (11, (.val T22 a0)), (12, (.val T3 (len a0))), (13, (.val T3 v1))], [(0, .cells T24 a1)]⟩) o
noncomputable def tourref2_Far.c2x (o : Bool) : Ex := (fun _ => (.exit 2)) o
noncomputable def tourref2_Far.c2n (o : Bool) : Nat := (fun _ => 1) o
theorem tourref2_Far.c2_ok (k : Nat) (a0 : (List V24)) (a1 : V24) (v1 : Int) : ∀ (n : Nat) (v4 : Bool) (v5 : Int), Owp (tourref2_Far.c2 k a0 a1 v1 n v4 v5) fun o => LTriple PR (tourref2_Far.cx k) (sub tourref2_Far.code [1, 0, 1, 0, 0, 1, 1, 0, 0, 1, 1, 0, 1, 0, 0]) 2 (tourref2_Far.c2p a0 a1 v1 v4 v5) (tourref2_Far.c2x o) (tourref2_Far.c2n o) (tourref2_Far.c2q a0 a1 v1 o)
  | 0, _, _ => fun _ h => nomatch h
  | n + 1, v4, v5 => Owp.of (tourref2_Far.c2.eq_2 ..) (
   Owp.bif (fun e6 =>
   Owp.req fun h7 =>
    Owp.bnd fun y8 e9 =>
    Owp.bnd fun y10 e11 =>
    Owp.bnd fun y12 e13 =>
    Owp.bif (fun e14 =>
    Owp.bif (fun e15 =>
     fun y hy => loop_back (tourref2_Far.cok k) hmix 2 (tourref2_Far.c2p a0 a1 v1 true (iadd .i64 v5 (1 : Int))) [.dec true, .res (.one (.dp T52)) y8, .res (.one (.dp T52)) y10, .res (.one (.dp T3)) y12, .dec true, .dec true, .dec true, .dec true, .dec true, .dec true, .dec true, .dec true, .dec true, .dec true, .dec true, .dec true, .dec true, .dec true] [] [(0, 0), (1, 1)] (via (finP (And.intro (And.intro (And.intro (And.intro (And.intro (And.intro (And.intro (And.intro (And.intro (And.intro (And.intro (And.intro (And.intro (And.intro trivial e6) h7) e9) e11) e13) e14) e14) e14) e15) e15) e15) e15) (And.intro e14 e15)) e14) .normal [(0, 0), (1, 1)] (tourref2_Far.c2p a0 a1 v1 true (iadd .i64 v5 (1 : Int)))) (by kernel_rfl)) ((tourref2_Far.c2_ok k a0 a1 v1 n true (iadd .i64 v5 (1 : Int))).ap hy)) (fun e15 =>
     Owp.bif (fun e16 =>
      fun y hy => loop_back (tourref2_Far.cok k) hmix 2 (tourref2_Far.c2p a0 a1 v1 (ige v5 v1) (iadd .i64 v5 (1 : Int))) [.dec true, .res (.one (.dp T52)) y8, .res (.one (.dp T52)) y10, .res (.one (.dp T3)) y12, .dec true, .dec true, .dec true, .dec false, .dec false, .dec false, .dec true, .dec true, .dec true, .dec false, .dec true, .dec true, .dec false, .dec true] [] [(0, 0), (1, 1)] (via (finP (And.intro (And.intro (And.intro (And.intro (And.intro (And.intro (And.intro (And.intro (And.intro (And.intro (And.intro (And.intro (And.intro (And.intro (And.intro (And.intro (And.intro trivial e6) h7) e9) e11) e13) e14) e14) e14) e15) e15) e15) e16) e16) e16) (And.intro e15 e16)) (And.intro e14 e15)) e14) .normal [(0, 0), (1, 1)] (tourref2_Far.c2p a0 a1 v1 (ige v5 v1) (iadd .i64 v5 (1 : Int)))) (by kernel_rfl)) ((tourref2_Far.c2_ok k a0 a1 v1 n (ige v5 v1) (iadd .i64 v5 (1 : Int))).ap hy)) (fun e16 =>
      fun y hy => loop_back (tourref2_Far.cok k) hmix 2 (tourref2_Far.c2p a0 a1 v1 false (iadd .i64 v5 (1 : Int))) [.dec true, .res (.one (.dp T52)) y8, .res (.one (.dp T52)) y10, .res (.one (.dp T3)) y12, .dec true, .dec true, .dec true, .dec false, .dec false, .dec false, .dec false, .dec false, .dec false, .dec false, .dec false, .dec true, .dec false, .dec true] [] [(0, 0), (1, 1)] (via (finP (And.intro (And.intro (And.intro (And.intro (And.intro (And.intro (And.intro (And.intro (And.intro (And.intro (And.intro (And.intro (And.intro (And.intro (And.intro (And.intro (And.intro trivial e6) h7) e9) e11) e13) e14) e14) e14) e15) e15) e15) e16) e16) e16) (And.intro e15 e16)) (And.intro e14 e15)) e14) .normal [(0, 0), (1, 1)] (tourref2_Far.c2p a0 a1 v1 false (iadd .i64 v5 (1 : Int)))) (by kernel_rfl)) ((tourref2_Far.c2_ok k a0 a1 v1 n false (iadd .i64 v5 (1 : Int))).ap hy)))) (fun e14 =>
    fun y hy => loop_back (tourref2_Far.cok k) hmix 2 (tourref2_Far.c2p a0 a1 v1 false (iadd .i64 v5 (1 : Int))) [.dec true, .res (.one (.dp T52)) y8, .res (.one (.dp T52)) y10, .res (.one (.dp T3)) y12, .dec false, .dec false, .dec false, .dec true, .dec true, .dec true, .dec true, .dec true, .dec true, .dec true, .dec true, .dec false, .dec true, .dec false] [] [(0, 0), (1, 1)] (via (finP (And.intro (And.intro (And.intro (And.intro (And.intro (And.intro (And.intro (And.intro (And.intro (And.intro trivial e6) h7) e9) e11) e13) e14) e14) e14) e14) e14) .normal [(0, 0), (1, 1)] (tourref2_Far.c2p a0 a1 v1 false (iadd .i64 v5 (1 : Int)))) (by kernel_rfl)) ((tourref2_Far.c2_ok k a0 a1 v1 n false (iadd .i64 v5 (1 : Int))).ap hy))) (fun e6 =>
   Owp.some (loop_exit (tourref2_Far.cok k) hmix [.dec false] [] [(0, 0)] (exne 2) (via (finP (And.intro trivial e6) (.exit 2) [(0, 0)] (tourref2_Far.c2q a0 a1 v1 v4)) (by kernel_rfl)))))
noncomputable def tourref2_Far.c1p (a0 : (List V24)) (a1 : V24) (v1 : Int) : SL := ⟨[(0, (.val T22 a0)), (3, (.val .ptr ⟨0, 0, (0 : Int), 0, 0⟩)), (11, (.val T22 a0)), (12, (.val T3 (len a0))), (13, (.val T3 v1))], [(0, .cells T24 a1)]⟩
noncomputable def tourref2_Far.c1q (o : Int ⊕ Unit) : SL := (fun o => two o (fun v => ⟨[(4, (.val T3 v))], []⟩) (fun v => ⟨[], []⟩)) o
noncomputable def tourref2_Far.c1x (o : Int ⊕ Unit) : Ex := (fun o => two o (fun _ => .ret) (fun _ => (.exit 0))) o
noncomputable def tourref2_Far.c1n (o : Int ⊕ Unit) : Nat := (fun o => two o (fun _ => 0) (fun _ => 0)) o
theorem tourref2_Far.c1_ok (k : Nat) (a0 : (List V24)) (a1 : V24) : ∀ (n : Nat) (v1 : Int), Owp (tourref2_Far.c1 k a0 a1 n v1) fun o => LTriple PR (tourref2_Far.cx k) (sub tourref2_Far.code [1, 0, 1, 0, 0]) 1 (tourref2_Far.c1p a0 a1 v1) (tourref2_Far.c1x o) (tourref2_Far.c1n o) (tourref2_Far.c1q o)
  | 0, _ => fun _ h => nomatch h
  | n + 1, v1 => Owp.of (tourref2_Far.c1.eq_2 ..) (
   Owp.bif (fun e2 =>
   Owp.req fun h3 =>
    Owp.bnd fun o17 e18 =>
    Owp.bif (fun e19 =>
    Owp.some (loop_exit (tourref2_Far.cok k) hmix [.dec true, .cut ⟨[], [(0, 0), (1, 5)], (tourref2_Far.c2p a0 a1 v1 true (0 : Int)), 2, (.exit 2), (tourref2_Far.c2q a0 a1 v1 o17), 1⟩, .dec true] [] [] exne_ret (via (cutP (And.intro (And.intro trivial e2) h3) [(0, 0), (1, 5)] (tourref2_Far.c2p a0 a1 v1 true (0 : Int)) (((tourref2_Far.c2_ok k a0 a1 v1 k true (0 : Int)).ap e18).triple) (finP (And.intro trivial e19) .ret [] (tourref2_Far.c1q (.inl v1)))) (by kernel_rfl)))) (fun e19 =>
    fun y hy => loop_back (tourref2_Far.cok k) hmix 1 (tourref2_Far.c1p a0 a1 (iadd .i64 v1 (1 : Int))) [.dec true, .cut ⟨[], [(0, 0), (1, 5)], (tourref2_Far.c2p a0 a1 v1 true (0 : Int)), 2, (.exit 2), (tourref2_Far.c2q a0 a1 v1 o17), 1⟩, .dec false] [] [(0, 0)] (via (cutP (And.intro (And.intro trivial e2) h3) [(0, 0), (1, 5)] (tourref2_Far.c2p a0 a1 v1 true (0 : Int)) (((tourref2_Far.c2_ok k a0 a1 v1 k true (0 : Int)).ap e18).triple) (finP (And.intro trivial e19) .normal [(0, 0)] (tourref2_Far.c1p a0 a1 (iadd .i64 v1 (1 : Int))))) (by kernel_rfl)) ((tourref2_Far.c1_ok k a0 a1 n (iadd .i64 v1 (1 : Int))).ap hy))) (fun e2 =>
   Owp.some (loop_exit (tourref2_Far.cok k) hmix [.dec false] [] [] (exne 0) (via (finP (And.intro trivial e2) (.exit 0) [] (tourref2_Far.c1q (.inr ()))) (by kernel_rfl)))))
theorem tourref2_Far.way (k : Nat) (a0 : (List V24)) (a1 : V24) : Owp (tourref2_Far k a0 a1) fun y => ∃ answers cmds, exec PR (tourref2_Far.cx k) tourref2_Far.code 0 (entry (.pair T22 (.pair T24 .unit)) (a0, a1, ())).st answers (Ret (tourref2_Far.cx k) Try.f23 cmds (.one (.dp T3)) y) := by
  unfold tourref2_Far; exact
   Owp.bnd fun o20 e21 =>
   Owp.two (fun y22 e23 =>
   Owp.some (⟨[.cut ⟨[], [(0, 0)], (tourref2_Far.c1p a0 a1 (0 : Int)), 1, .ret, (tourref2_Far.c1q (.inl y22)), 0⟩], [], via (cutP trivial [(0, 0)] (tourref2_Far.c1p a0 a1 (0 : Int)) (((tourref2_Far.c1_ok k a0 a1 k (0 : Int)).ap (e21.trans (congrArg some e23))).triple) (retP trivial (.one (.dp T3)) (y22 : Int))) (by kernel_rfl)⟩)) (fun y24 e25 =>
   Owp.some (⟨[.cut ⟨[], [(0, 0)], (tourref2_Far.c1p a0 a1 (0 : Int)), 1, (.exit 0), (tourref2_Far.c1q (.inr ())), 0⟩], [], via (cutP trivial [(0, 0)] (tourref2_Far.c1p a0 a1 (0 : Int)) (((tourref2_Far.c1_ok k a0 a1 k (0 : Int)).ap (e21.trans (congrArg some e25))).triple) (retP trivial (.one (.dp T3)) ((-1 : Int) : Int))) (by kernel_rfl)⟩))
theorem tourref2_Far.ok (k : Nat) : FnOk PR 23 (tourref2_Far.sp k) :=
  fn_ok (tourref2_Far.cok k) hmix Try.func23 (code := tourref2_Far.code) (by kernel_rfl) (by kernel_rfl) (by kernel_rfl) rfl (by kernel_rfl) (by kernel_rfl) (by kernel_rfl) (fun x => Nat.le_of_ble_eq_true (by kernel_rfl)) fun x y hy => (tourref2_Far.way k x.1 x.2.1).ap hy

/-! tourney/tourlaw2.PolyChecks -/
noncomputable def tourlaw2_PolyChecks.code : Code := Func.cd Try.f3
def tourlaw2_PolyChecks.c1 (k : Nat) (a0 : (List V24)) (y4 : Int) (y6 : (Int × Int)) : Option (Bool) :=
  bnd (poly_Check k a0) fun y8 =>
  bif' (ine y8 y4)
  (some true)
  (some (ine y6.2 y4))
def tourlaw2_PolyChecks.c2 (k : Nat) (a0 : (List V24)) (a1 : V24) (a2 : V24) (y6 : (Int × Int)) : Option (Bool) :=
  bif' (ieq y6.1 0)
  (bnd (poly_Has k a0 a1) fun y16 =>
   bif' y16
   (some false)
   (bnd (poly_Support k a0 a2) fun y19 =>
    some (ieq y19 (-1))))
  (some false)
def tourlaw2_PolyChecks (k : Nat) (a0 : (List V24)) (a1 : V24) (a2 : V24) : Option Bool :=
  bnd (tourlaw2_polyBegun k) fun y1 =>
  bif' y1
  (bnd (tourref2_Poly k a0) fun y4 =>
   bnd (poly_Area k a0) fun y6 =>
   bnd (tourlaw2_PolyChecks.c1 k a0 y4 y6) fun o11 =>
   bif' o11
   (some false)
   (bif' (ine y4 0)
    (bnd (tourlaw2_PolyChecks.c2 k a0 a1 a2 y6) fun o21 =>
     some o21)
    (bnd (tourref2_Area k a0) fun y23 =>
     bif' (ieq y6.1 y23)
     (bnd (poly_Has k a0 a1) fun y26 =>
      bnd (tourref2_Inside k a0 a1) fun y28 =>
      bif' (Ty.eqb T4 y26 y28)
      (bnd (poly_Support k a0 a2) fun y31 =>
       bnd (tourref2_Far k a0 a2) fun y33 =>
       some (ieq y31 y33))
      (some false))
     (some false))))
  (some false)
noncomputable def tourlaw2_PolyChecks.sp (k : Nat) : Go.Sx.Spec := ⟨(.pair T22 (.pair T24 (.pair T24 .unit))), (.one (.dp T4)), fun x => tourlaw2_PolyChecks k x.1 x.2.1 x.2.2.1, false⟩
noncomputable def tourlaw2_PolyChecks.cx (k : Nat) : Go.Sx.Ctx := ⟨tys, [(15, tourlaw2_polyBegun.sp k), (16, tourref2_Poly.sp k), (17, poly_Area.sp k), (18, poly_Check.sp k), (19, poly_Has.sp k), (20, poly_Support.sp k), (21, tourref2_Area.sp k), (22, tourref2_Inside.sp k), (23, tourref2_Far.sp k)], eqs, 66, false⟩
theorem tourlaw2_PolyChecks.cok (k : Nat) : CtxOk PR (tourlaw2_PolyChecks.cx k) := ctx_ok tysOk eqsOk (FnsOk.cons (tourlaw2_polyBegun.ok k) (FnsOk.cons (tourref2_Poly.ok k) (FnsOk.cons (poly_Area.ok k) (FnsOk.cons (poly_Check.ok k) (FnsOk.cons (poly_Has.ok k) (FnsOk.cons (poly_Support.ok k) (FnsOk.cons (tourref2_Area.ok k) (FnsOk.cons (tourref2_Inside.ok k) (FnsOk.cons (tourref2_Far.ok k) FnsOk.nil)))))))))
noncomputable def tourlaw2_PolyChecks.c1p (a0 : (List V24)) (a1 : V24) (a2 : V24) (y4 : Int) (y6 : (Int × Int)) : SL := ⟨[(0, (.val T22 a0)), (4, (.val .ptr ⟨0, 0, (0 : Int), 0, 0⟩)), (5, (.val .ptr ⟨1, 0, (0 : Int), 0, 0⟩)), (7, (.val T3 y4)), (8, (.val T3 y6.1)), (9, (.val T3 y6.2))], [(0, .cells T24 a1), (1, .cells T24 a2)]⟩
noncomputable def tourlaw2_PolyChecks.c1q (a0 : (List V24)) (a1 : V24) (a2 : V24) (y4 : Int) (y6 : (Int × Int)) (o : Bool) : SL := (fun v => ⟨[(0, (.val T22 a0)), (4, (.val .ptr ⟨0, 0, (0 : Int), 0, 0⟩)), (5, (.val .ptr ⟨1, 0, (0 : Int), 0, 0⟩)), (7, (.val T3 y4)), (8, (.val T3 y6.1)), (27, (.val T4 v))], [(0, .cells T24 a1), (1, .cells T24 a2)]⟩) o
noncomputable def tourlaw2_PolyChecks.c1x (o : Bool) : Ex := (fun _ => .normal) o
noncomputable def tourlaw2_PolyChecks.c1n (o : Bool) : Nat := (fun _ => 2) o
theorem tourlaw2_PolyChecks.c1_ok (k : Nat) (a0 : (List V24)) (a1 : V24) (a2 : V24) (y4 : Int) (y6 : (Int × Int)) : Owp (tourlaw2_PolyChecks.c1 k a0 y4 y6) fun o => Triple PR (tourlaw2_PolyChecks.cx k) (sub tourlaw2_PolyChecks.code [1, 1, 1, 1, 0, 0]) 2 (tourlaw2_PolyChecks.c1p a0 a1 a2 y4 y6) (tourlaw2_PolyChecks.c1x o) (tourlaw2_PolyChecks.c1n o) (tourlaw2_PolyChecks.c1q a0 a1 a2 y4 y6 o) := by
  unfold tourlaw2_PolyChecks.c1; exact
   Owp.bnd fun y8 e9 =>
   Owp.bif (fun e10 =>
   Owp.some (triple_way (tourlaw2_PolyChecks.cok k) hmix [.res (.one (.dp T3)) y8, .dec true, .dec true, .dec true, .dec true] [] [(0, 0), (1, 1)] (via (finP (And.intro (And.intro (And.intro (And.intro (And.intro trivial e9) e10) e10) e10) e10) .normal [(0, 0), (1, 1)] (tourlaw2_PolyChecks.c1q a0 a1 a2 y4 y6 true)) (by kernel_rfl)))) (fun e10 =>
   Owp.some (triple_way (tourlaw2_PolyChecks.cok k) hmix [.res (.one (.dp T3)) y8, .dec false, .dec false, .dec false, .dec false] [] [(0, 0), (1, 1)] (via (finP (And.intro (And.intro (And.intro (And.intro (And.intro trivial e9) e10) e10) e10) e10) .normal [(0, 0), (1, 1)] (tourlaw2_PolyChecks.c1q a0 a1 a2 y4 y6 (ine y6.2 y4))) (by kernel_rfl))))
noncomputable def tourlaw2_PolyChecks.c2p (a0 : (List V24)) (a1 : V24) (a2 : V24) (y6 : (Int × Int)) : SL := ⟨[(0, (.val T22 a0)), (4, (.val .ptr ⟨0, 0, (0 : Int), 0, 0⟩)), (5, (.val .ptr ⟨1, 0, (0 : Int), 0, 0⟩)), (8, (.val T3 y6.1))], [(0, .cells T24 a1), (1, .cells T24 a2)]⟩
noncomputable def tourlaw2_PolyChecks.c2q (o : Bool) : SL := (fun v => ⟨[(6, (.val T4 v))], []⟩) o
noncomputable def tourlaw2_PolyChecks.c2x (o : Bool) : Ex := (fun _ => .normal) o
noncomputable def tourlaw2_PolyChecks.c2n (o : Bool) : Nat := (fun _ => 0) o
theorem tourlaw2_PolyChecks.c2_ok (k : Nat) (a0 : (List V24)) (a1 : V24) (a2 : V24) (y6 : (Int × Int)) : Owp (tourlaw2_PolyChecks.c2 k a0 a1 a2 y6) fun o => Triple PR (tourlaw2_PolyChecks.cx k) (sub tourlaw2_PolyChecks.code [1, 1, 1, 1, 1, 0, 1, 0, 0]) 2 (tourlaw2_PolyChecks.c2p a0 a1 a2 y6) (tourlaw2_PolyChecks.c2x o) (tourlaw2_PolyChecks.c2n o) (tourlaw2_PolyChecks.c2q o) := by
  unfold tourlaw2_PolyChecks.c2; exact
   Owp.bif (fun e15 =>
   Owp.bnd fun y16 e17 =>
    Owp.bif (fun e18 =>
    Owp.some (triple_way (tourlaw2_PolyChecks.cok k) hmix [.dec true, .dec true, .dec true, .res (.one (.dp T4)) y16, .dec true, .dec true, .dec false, .dec false, .dec false, .dec true, .dec false, .dec false] [] [] (via (finP (And.intro (And.intro (And.intro (And.intro (And.intro (And.intro (And.intro (And.intro (And.intro (And.intro trivial e15) e15) (And.intro e15 e17)) e15) e15) (congrArg not e18)) (congrArg not e18)) (congrArg not e18)) (congrArg not e18)) (congrArg not e18)) .normal [] (tourlaw2_PolyChecks.c2q false)) (by kernel_rfl)))) (fun e18 =>
    Owp.bnd fun y19 e20 =>
     Owp.some (triple_way (tourlaw2_PolyChecks.cok k) hmix [.dec true, .dec true, .dec true, .res (.one (.dp T4)) y16, .dec true, .dec true, .dec true, .dec true, .dec true, .res (.one (.dp T3)) y19, .dec true, .dec true] [] [] (via (finP (And.intro (And.intro (And.intro (And.intro (And.intro (And.intro (And.intro (And.intro (And.intro (And.intro trivial e15) e15) (And.intro e15 e17)) e15) e15) (congrArg not e18)) (congrArg not e18)) (And.intro (congrArg not e18) e20)) (congrArg not e18)) (congrArg not e18)) .normal [] (tourlaw2_PolyChecks.c2q (ieq y19 (-1 : Int)))) (by kernel_rfl))))) (fun e15 =>
   Owp.some (triple_way (tourlaw2_PolyChecks.cok k) hmix [.dec false, .dec false, .dec false, .dec true, .dec false, .dec false, .dec false, .dec false, .dec false, .dec true, .dec false, .dec false] [] [] (via (finP (And.intro (And.intro (And.intro (And.intro (And.intro (And.intro (And.intro (And.intro (And.intro (And.intro trivial e15) e15) e15) e15) e15) ff) ff) ff) ff) ff) .normal [] (tourlaw2_PolyChecks.c2q false)) (by kernel_rfl))))
theorem tourlaw2_PolyChecks.way (k : Nat) (a0 : (List V24)) (a1 : V24) (a2 : V24) : Owp (tourlaw2_PolyChecks k a0 a1 a2) fun y => ∃ answers cmds, exec PR (tourlaw2_PolyChecks.cx k) tourlaw2_PolyChecks.code 0 (entry (.pair T22 (.pair T24 (.pair T24 .unit))) (a0, a1, a2, ())).st answers (Ret (tourlaw2_PolyChecks.cx k) Try.f3 cmds (.one (.dp T4)) y) := by
  unfold tourlaw2_PolyChecks; exact
   Owp.bnd fun y1 e2 =>
   Owp.bif (fun e3 =>
   Owp.bnd fun y4 e5 =>
    Owp.bnd fun y6 e7 =>
    Owp.bnd fun o11 e12 =>
    Owp.bif (fun e13 =>
    Owp.some (⟨[.res (.one (.dp T4)) y1, .dec false, .res (.one (.dp T3)) y4, .res (.more (.dp T3) (.one (.dp T3))) y6, .cutR 5 ⟨[], [(0, 0), (1, 1)], (tourlaw2_PolyChecks.c1p a0 a1 a2 y4 y6), 2, .normal, (tourlaw2_PolyChecks.c1q a0 a1 a2 y4 y6 o11), 2⟩, .dec true], [], via (cutP (And.intro (And.intro (And.intro (And.intro trivial e2) (congrArg not e3)) e5) e7) [(0, 0), (1, 1)] (tourlaw2_PolyChecks.c1p a0 a1 a2 y4 y6) (((tourlaw2_PolyChecks.c1_ok k a0 a1 a2 y4 y6).ap e12)) (retP (And.intro trivial e13) (.one (.dp T4)) (false : Bool))) (by kernel_rfl)⟩)) (fun e13 =>
    Owp.bif (fun e14 =>
     Owp.bnd fun o21 e22 =>
      Owp.some (⟨[.res (.one (.dp T4)) y1, .dec false, .res (.one (.dp T3)) y4, .res (.more (.dp T3) (.one (.dp T3))) y6, .cutR 5 ⟨[], [(0, 0), (1, 1)], (tourlaw2_PolyChecks.c1p a0 a1 a2 y4 y6), 2, .normal, (tourlaw2_PolyChecks.c1q a0 a1 a2 y4 y6 o11), 2⟩, .dec false, .dec true, .cutR 8 ⟨[], [(0, 0), (1, 1)], (tourlaw2_PolyChecks.c2p a0 a1 a2 y6), 2, .normal, (tourlaw2_PolyChecks.c2q o21), 0⟩], [], via (cutP (And.intro (And.intro (And.intro (And.intro trivial e2) (congrArg not e3)) e5) e7) [(0, 0), (1, 1)] (tourlaw2_PolyChecks.c1p a0 a1 a2 y4 y6) (((tourlaw2_PolyChecks.c1_ok k a0 a1 a2 y4 y6).ap e12)) (cutP (And.intro (And.intro trivial e13) e14) [(0, 0), (1, 1)] (tourlaw2_PolyChecks.c2p a0 a1 a2 y6) (((tourlaw2_PolyChecks.c2_ok k a0 a1 a2 y6).ap e22)) (retP trivial (.one (.dp T4)) (o21 : Bool)))) (by kernel_rfl)⟩)) (fun e14 =>
     Owp.bnd fun y23 e24 =>
      Owp.bif (fun e25 =>
      Owp.bnd fun y26 e27 =>
       Owp.bnd fun y28 e29 =>
       Owp.bif (fun e30 =>
       Owp.bnd fun y31 e32 =>
        Owp.bnd fun y33 e34 =>
        Owp.some (⟨[.res (.one (.dp T4)) y1, .dec false, .res (.one (.dp T3)) y4, .res (.more (.dp T3) (.one (.dp T3))) y6, .cutR 5 ⟨[], [(0, 0), (1, 1)], (tourlaw2_PolyChecks.c1p a0 a1 a2 y4 y6), 2, .normal, (tourlaw2_PolyChecks.c1q a0 a1 a2 y4 y6 o11), 2⟩, .dec false, .dec false, .res (.one (.dp T3)) y23, .dec true, .dec true, .dec true, .res (.one (.dp T4)) y26, .dec true, .dec true, .dec true, .res (.one (.dp T4)) y28, .dec true, .dec true, .dec true, .dec true, .dec true, .res (.one (.dp T3)) y31, .dec true, .dec true, .dec true, .res (.one (.dp T3)) y33, .dec true, .dec true], [], via (cutP (And.intro (And.intro (And.intro (And.intro trivial e2) (congrArg not e3)) e5) e7) [(0, 0), (1, 1)] (tourlaw2_PolyChecks.c1p a0 a1 a2 y4 y6) (((tourlaw2_PolyChecks.c1_ok k a0 a1 a2 y4 y6).ap e12)) (retP (And.intro (And.intro (And.intro (And.intro (And.intro (And.intro (And.intro (And.intro (And.intro (And.intro (And.intro (And.intro (And.intro (And.intro (And.intro (And.intro (And.intro (And.intro (And.intro trivial e13) e14) e24) e25) e25) (And.intro e25 e27)) e25) e25) (And.intro e25 e29)) e25) e25) e30) e30) (And.intro e30 e32)) e30) e30) (And.intro e30 e34)) e30) e30) (.one (.dp T4)) ((ieq y31 y33) : Bool))) (by kernel_rfl)⟩)) (fun e30 =>
       Owp.some (⟨[.res (.one (.dp T4)) y1, .dec false, .res (.one (.dp T3)) y4, .res (.more (.dp T3) (.one (.dp T3))) y6, .cutR 5 ⟨[], [(0, 0), (1, 1)], (tourlaw2_PolyChecks.c1p a0 a1 a2 y4 y6), 2, .normal, (tourlaw2_PolyChecks.c1q a0 a1 a2 y4 y6 o11), 2⟩, .dec false, .dec false, .res (.one (.dp T3)) y23, .dec true, .dec true, .dec true, .res (.one (.dp T4)) y26, .dec true, .dec true, .dec true, .res (.one (.dp T4)) y28, .dec true, .dec true, .dec false, .dec false, .dec false, .dec true, .dec false, .dec false, .dec false, .dec true, .dec false, .dec false], [], via (cutP (And.intro (And.intro (And.intro (And.intro trivial e2) (congrArg not e3)) e5) e7) [(0, 0), (1, 1)] (tourlaw2_PolyChecks.c1p a0 a1 a2 y4 y6) (((tourlaw2_PolyChecks.c1_ok k a0 a1 a2 y4 y6).ap e12)) (retP (And.intro (And.intro (And.intro (And.intro (And.intro (And.intro (And.intro (And.intro (And.intro (And.intro (And.intro (And.intro (And.intro (And.intro (And.intro (And.intro (And.intro (And.intro (And.intro trivial e13) e14) e24) e25) e25) (And.intro e25 e27)) e25) e25) (And.intro e25 e29)) e25) e25) e30) e30) e30) e30) e30) e30) e30) e30) (.one (.dp T4)) (false : Bool))) (by kernel_rfl)⟩))) (fun e25 =>
      Owp.some (⟨[.res (.one (.dp T4)) y1, .dec false, .res (.one (.dp T3)) y4, .res (.more (.dp T3) (.one (.dp T3))) y6, .cutR 5 ⟨[], [(0, 0), (1, 1)], (tourlaw2_PolyChecks.c1p a0 a1 a2 y4 y6), 2, .normal, (tourlaw2_PolyChecks.c1q a0 a1 a2 y4 y6 o11), 2⟩, .dec false, .dec false, .res (.one (.dp T3)) y23, .dec false, .dec false, .dec false, .dec true, .dec false, .dec false, .dec false, .dec true, .dec false, .dec false, .dec false, .dec false, .dec false, .dec true, .dec false, .dec false, .dec false, .dec true, .dec false, .dec false], [], via (cutP (And.intro (And.intro (And.intro (And.intro trivial e2) (congrArg not e3)) e5) e7) [(0, 0), (1, 1)] (tourlaw2_PolyChecks.c1p a0 a1 a2 y4 y6) (((tourlaw2_PolyChecks.c1_ok k a0 a1 a2 y4 y6).ap e12)) (retP (And.intro (And.intro (And.intro (And.intro (And.intro (And.intro (And.intro (And.intro (And.intro (And.intro (And.intro (And.intro (And.intro (And.intro (And.intro (And.intro (And.intro (And.intro (And.intro trivial e13) e14) e24) e25) e25) e25) e25) e25) e25) e25) e25) ff) ff) ff) ff) ff) ff) ff) ff) (.one (.dp T4)) (false : Bool))) (by kernel_rfl)⟩))))) (fun e3 =>
   Owp.some (⟨[.res (.one (.dp T4)) y1, .dec true], [], via (retP (And.intro (And.intro trivial e2) (congrArg not e3)) (.one (.dp T4)) (false : Bool)) (by kernel_rfl)⟩))
theorem tourlaw2_PolyChecks.ok (k : Nat) : FnOk PR 3 (tourlaw2_PolyChecks.sp k) :=
  fn_ok (tourlaw2_PolyChecks.cok k) hmix Try.func3 (code := tourlaw2_PolyChecks.code) (by kernel_rfl) (by kernel_rfl) (by kernel_rfl) rfl (by kernel_rfl) (by kernel_rfl) (by kernel_rfl) (fun x => Nat.le_of_ble_eq_true (by kernel_rfl)) fun x y hy => (tourlaw2_PolyChecks.way k x.1 x.2.1 x.2.2.1).ap hy

/-! tourney/tourmake.Below -/
noncomputable def tourmake_Below.code : Code := Func.cd Try.f30
def tourmake_Below (k : Nat) (a0 : Int) (a1 : Int) : Option Int :=
  req (nz a1) <|
  bif' (ilt (irem a0 a1) 0)
  (some (iadd .i64 (irem a0 a1) a1))
  (some (irem a0 a1))
noncomputable def tourmake_Below.sp (k : Nat) : Go.Sx.Spec := ⟨T24, (.one (.dp T3)), fun x => tourmake_Below k x.1 x.2.1, false⟩
noncomputable def tourmake_Below.cx (k : Nat) : Go.Sx.Ctx := ⟨tys, [], eqs, 14, false⟩
theorem tourmake_Below.cok (k : Nat) : CtxOk PR (tourmake_Below.cx k) := ctx_ok tysOk eqsOk FnsOk.nil
theorem tourmake_Below.way (k : Nat) (a0 : Int) (a1 : Int) : Owp (tourmake_Below k a0 a1) fun y => ∃ answers cmds, exec PR (tourmake_Below.cx k) tourmake_Below.code 0 (entry T24 (a0, a1, ())).st answers (Ret (tourmake_Below.cx k) Try.f30 cmds (.one (.dp T3)) y) := by
  unfold tourmake_Below; exact
   Owp.req fun h1 =>
   Owp.bif (fun e2 =>
   Owp.some (⟨[.dec true], [], via (retP (And.intro (And.intro trivial h1) e2) (.one (.dp T3)) ((iadd .i64 (irem a0 a1) a1) : Int)) (by kernel_rfl)⟩)) (fun e2 =>
   Owp.some (⟨[.dec false], [], via (retP (And.intro (And.intro trivial h1) e2) (.one (.dp T3)) ((irem a0 a1) : Int)) (by kernel_rfl)⟩))
theorem tourmake_Below.ok (k : Nat) : FnOk PR 30 (tourmake_Below.sp k) :=
  fn_ok (tourmake_Below.cok k) hmix Try.func30 (code := tourmake_Below.code) (by kernel_rfl) (by kernel_rfl) (by kernel_rfl) rfl (by kernel_rfl) (by kernel_rfl) (by kernel_rfl) (fun x => Nat.le_of_ble_eq_true (by kernel_rfl)) fun x y hy => (tourmake_Below.way k x.1 x.2.1).ap hy

/-! (*tourney/tourmake.Stream).Next -/
noncomputable def tourmake_Stream_Next.code : Code := Func.cd Try.f109
def tourmake_Stream_Next.c1 (k : Nat) (a0 : ((List Int) × Unit)) (a1 : Int) : Option (Bool) :=
  bif' (ieq (len a0.1) 0)
  (some true)
  (some (ilt a1 1))
def tourmake_Stream_Next (k : Nat) (a0 : ((List Int) × Unit)) (a1 : Int) : Option (((List Int) × Unit) × Int) :=
  bnd (tourmake_Stream_Next.c1 k a0 a1) fun o2 =>
  bif' o2
  (some (a0, 0))
  (req (inL 0 a0.1) <|
   req (cutOk a0.1 1 (List.length a0.1 : Int)) <|
   bnd (tourmake_Below k (el 0 a0.1 0) a1) fun y7 =>
   some (((cut a0.1 1 (List.length a0.1 : Int)), ()), y7))
noncomputable def tourmake_Stream_Next.sp (k : Nat) : Go.Sx.Spec := ⟨(.pair (.ref (.pair T34 .unit)) (.pair T3 .unit)), (.more (.dp (.pair T34 .unit)) (.one (.dp T3))), fun x => tourmake_Stream_Next k x.1 x.2.1, true⟩
noncomputable def tourmake_Stream_Next.cx (k : Nat) : Go.Sx.Ctx := ⟨tys, [(30, tourmake_Below.sp k)], eqs, 33, true⟩
theorem tourmake_Stream_Next.cok (k : Nat) : CtxOk PR (tourmake_Stream_Next.cx k) := ctx_ok tysOk eqsOk (FnsOk.cons (tourmake_Below.ok k) FnsOk.nil)
noncomputable def tourmake_Stream_Next.c1p (a0 : ((List Int) × Unit)) (a1 : Int) : SL := ⟨[(0, (.val .ptr ⟨0, 0, (0 : Int), 0, 0⟩)), (1, (.val T3 a1))], [(0, .cells (.pair T34 .unit) a0)]⟩
noncomputable def tourmake_Stream_Next.c1q (a0 : ((List Int) × Unit)) (a1 : Int) (o : Bool) : SL := (fun v => ⟨[(0, (.val .ptr ⟨0, 0, (0 : Int), 0, 0⟩)), (1, (.val T3 a1)), (15, (.val T4 v))], [(0, .cells (.pair T34 .unit) a0)]⟩) o
noncomputable def tourmake_Stream_Next.c1x (o : Bool) : Ex := (fun _ => .normal) o
noncomputable def tourmake_Stream_Next.c1n (o : Bool) : Nat := (fun _ => 1) o
theorem tourmake_Stream_Next.c1_ok (k : Nat) (a0 : ((List Int) × Unit)) (a1 : Int) : Owp (tourmake_Stream_Next.c1 k a0 a1) fun o => Triple PR (tourmake_Stream_Next.cx k) (sub tourmake_Stream_Next.code [1, 0, 0]) 1 (tourmake_Stream_Next.c1p a0 a1) (tourmake_Stream_Next.c1x o) (tourmake_Stream_Next.c1n o) (tourmake_Stream_Next.c1q a0 a1 o) := by
  unfold tourmake_Stream_Next.c1; exact
   Owp.bif (fun e1 =>
   Owp.some (triple_way (tourmake_Stream_Next.cok k) hmix [.dec true, .dec true, .dec true] [] [(0, 0)] (via (finP (And.intro (And.intro (And.intro trivial e1) e1) e1) .normal [(0, 0)] (tourmake_Stream_Next.c1q a0 a1 true)) (by kernel_rfl)))) (fun e1 =>
   Owp.some (triple_way (tourmake_Stream_Next.cok k) hmix [.dec false, .dec false, .dec false] [] [(0, 0)] (via (finP (And.intro (And.intro (And.intro trivial e1) e1) e1) .normal [(0, 0)] (tourmake_Stream_Next.c1q a0 a1 (ilt a1 (1 : Int)))) (by kernel_rfl))))
@[irreducible] noncomputable def tourmake_Stream_Next.P (k : Nat) (a0 : ((List Int) × Unit)) (a1 : Int) (y : (((List Int) × Unit) × Int)) (answers : List Ans) (cmds : List Cmd) : Prop := exec PR (tourmake_Stream_Next.cx k) tourmake_Stream_Next.code 1 (entryW (.pair T34 .unit) (.pair T3 .unit) (a0, (a1, ()))).st answers (RetW (tourmake_Stream_Next.cx k) Try.f109 cmds (.pair T34 .unit) (.one (.dp T3)) y)
theorem tourmake_Stream_Next.way (k : Nat) (a0 : ((List Int) × Unit)) (a1 : Int) : Owp (tourmake_Stream_Next k a0 a1) fun y => ∃ answers cmds, tourmake_Stream_Next.P k a0 a1 y answers cmds := by
  unfold tourmake_Stream_Next; exact
   Owp.bnd fun o2 e3 =>
   Owp.bif (fun e4 =>
   Owp.some (⟨[.cutR 1 ⟨[], [(0, 0)], (tourmake_Stream_Next.c1p a0 a1), 1, .normal, (tourmake_Stream_Next.c1q a0 a1 o2), 1⟩, .dec true], [], via (cutP trivial [(0, 0)] (tourmake_Stream_Next.c1p a0 a1) (((tourmake_Stream_Next.c1_ok k a0 a1).ap e3)) (retwP (And.intro trivial e4) (.pair T34 .unit) (a0 : ((List Int) × Unit)) (.one (.dp T3)) ((0 : Int) : Int))) (by kernel_rfl)⟩)) (fun e4 =>
   Owp.req fun h5 =>
    Owp.req fun h6 =>
    Owp.bnd fun y7 e8 =>
    Owp.some (⟨[.cutR 1 ⟨[], [(0, 0)], (tourmake_Stream_Next.c1p a0 a1), 1, .normal, (tourmake_Stream_Next.c1q a0 a1 o2), 1⟩, .dec false, .res (.one (.dp T3)) y7], [], via (cutP trivial [(0, 0)] (tourmake_Stream_Next.c1p a0 a1) (((tourmake_Stream_Next.c1_ok k a0 a1).ap e3)) (retwP (And.intro (And.intro (And.intro (And.intro trivial e4) h5) h6) e8) (.pair T34 .unit) (((cut a0.1 (1 : Int) (List.length a0.1 : Int)), ()) : ((List Int) × Unit)) (.one (.dp T3)) (y7 : Int))) (by kernel_rfl)⟩))
theorem tourmake_Stream_Next.ok (k : Nat) : FnOk PR 109 (tourmake_Stream_Next.sp k) :=
  fnW_ok (t := (.pair T34 .unit)) (ps := (.pair T3 .unit)) (t' := (.pair T34 .unit)) (rs := (.one (.dp T3))) (g := fun x => tourmake_Stream_Next k x.1 x.2.1) (tourmake_Stream_Next.cok k) hmix Try.func109 (code := tourmake_Stream_Next.code) (by kernel_rfl) (by kernel_rfl) (by kernel_rfl) (by kernel_rfl) (by kernel_rfl) (by kernel_rfl) (by kernel_rfl) (by kernel_rfl) (by kernel_rfl) (fun x => Nat.le_of_ble_eq_true (by kernel_rfl)) fun x y hy => match (tourmake_Stream_Next.way k x.1 x.2.1).ap hy with | ⟨ans, cmds, h⟩ => ⟨ans, cmds, via h (by kernel_rfl)⟩

/-! tourney/tourmake.poly -/
noncomputable def tourmake_poly.code : Code := Func.cd Try.f76
def tourmake_poly (k : Nat) (a0 : ((List Int) × Unit)) : Option (((List Int) × Unit) × (List V24)) :=
  bnd (tourmake_Stream_Next k a0 4) fun y1 =>
  bnd (tourmake_Stream_Next k y1.1 4) fun y3 =>
  bnd (tourmake_Stream_Next k y3.1 4) fun y5 =>
  bif' (ieq y5.2 0)
  (some (y5.1, [((ineg .i64 (imul .i64 (iadd .i64 1 y1.2) 65536)), (ineg .i64 (imul .i64 (iadd .i64 1 y3.2) 65536)), ()), ((imul .i64 (iadd .i64 1 y1.2) 65536), (ineg .i64 (imul .i64 (iadd .i64 1 y3.2) 65536)), ()), ((imul .i64 (iadd .i64 1 y1.2) 65536), (imul .i64 (iadd .i64 1 y3.2) 65536), ()), ((ineg .i64 (imul .i64 (iadd .i64 1 y1.2) 65536)), (imul .i64 (iadd .i64 1 y3.2) 65536), ())]))
  (bif' (ieq y5.2 1)
   (bnd (tourmake_Stream_Next k y5.1 (imul .i64 2 (imul .i64 (iadd .i64 1 y1.2) 65536))) fun y9 =>
    some (y9.1, [((ineg .i64 (imul .i64 (iadd .i64 1 y1.2) 65536)), (ineg .i64 (imul .i64 (iadd .i64 1 y3.2) 65536)), ()), ((imul .i64 (iadd .i64 1 y1.2) 65536), (ineg .i64 (imul .i64 (iadd .i64 1 y3.2) 65536)), ()), ((isub .i64 y9.2 (imul .i64 (iadd .i64 1 y1.2) 65536)), (imul .i64 (iadd .i64 1 y3.2) 65536), ())]))
   (bif' (ieq y5.2 2)
    (some (y5.1, [((ineg .i64 (imul .i64 (iadd .i64 1 y1.2) 65536)), (ineg .i64 (imul .i64 (iadd .i64 1 y3.2) 65536)), ()), ((isub .i64 (imul .i64 (iadd .i64 1 y1.2) 65536) (iquo .i64 (imin (imul .i64 (iadd .i64 1 y1.2) 65536) (imul .i64 (iadd .i64 1 y3.2) 65536)) 2)), (ineg .i64 (imul .i64 (iadd .i64 1 y3.2) 65536)), ()), ((imul .i64 (iadd .i64 1 y1.2) 65536), (isub .i64 (iquo .i64 (imin (imul .i64 (iadd .i64 1 y1.2) 65536) (imul .i64 (iadd .i64 1 y3.2) 65536)) 2) (imul .i64 (iadd .i64 1 y3.2) 65536)), ()), ((imul .i64 (iadd .i64 1 y1.2) 65536), (imul .i64 (iadd .i64 1 y3.2) 65536), ()), ((ineg .i64 (imul .i64 (iadd .i64 1 y1.2) 65536)), (imul .i64 (iadd .i64 1 y3.2) 65536), ())]))
    (some (y5.1, [((ineg .i64 (imul .i64 (iadd .i64 1 y1.2) 65536)), 0, ()), (0, (ineg .i64 (imul .i64 (iadd .i64 1 y3.2) 65536)), ()), ((imul .i64 (iadd .i64 1 y1.2) 65536), 0, ()), (0, (imul .i64 (iadd .i64 1 y3.2) 65536), ())]))))
noncomputable def tourmake_poly.sp (k : Nat) : Go.Sx.Spec := ⟨(.pair (.ref (.pair T34 .unit)) .unit), (.more (.dp (.pair T34 .unit)) (.one (.dp T22))), fun x => tourmake_poly k x.1, true⟩
noncomputable def tourmake_poly.cx (k : Nat) : Go.Sx.Ctx := ⟨tys, [(109, tourmake_Stream_Next.sp k)], eqs, 96, true⟩
theorem tourmake_poly.cok (k : Nat) : CtxOk PR (tourmake_poly.cx k) := ctx_ok tysOk eqsOk (FnsOk.cons (tourmake_Stream_Next.ok k) FnsOk.nil)
@[irreducible] noncomputable def tourmake_poly.P (k : Nat) (a0 : ((List Int) × Unit)) (y : (((List Int) × Unit) × (List V24))) (answers : List Ans) (cmds : List Cmd) : Prop := exec PR (tourmake_poly.cx k) tourmake_poly.code 1 (entryW (.pair T34 .unit) .unit (a0, ())).st answers (RetW (tourmake_poly.cx k) Try.f76 cmds (.pair T34 .unit) (.one (.dp T22)) y)
theorem tourmake_poly.way (k : Nat) (a0 : ((List Int) × Unit)) : Owp (tourmake_poly k a0) fun y => ∃ answers cmds, tourmake_poly.P k a0 y answers cmds := by
  unfold tourmake_poly; exact
   Owp.bnd fun y1 e2 =>
   Owp.bnd fun y3 e4 =>
   Owp.bnd fun y5 e6 =>
   Owp.bif (fun e7 =>
   Owp.some (⟨[.res (.more (.dp (.pair T34 .unit)) (.one (.dp T3))) y1, .res (.more (.dp (.pair T34 .unit)) (.one (.dp T3))) y3, .res (.more (.dp (.pair T34 .unit)) (.one (.dp T3))) y5, .dec true, .dec true], [.freeze 2], via (retwP (And.intro (And.intro (And.intro (And.intro trivial e2) e4) e6) e7) (.pair T34 .unit) (y5.1 : ((List Int) × Unit)) (.one (.dp T22)) ([((ineg .i64 (imul .i64 (iadd .i64 (1 : Int) y1.2) (65536 : Int))), (ineg .i64 (imul .i64 (iadd .i64 (1 : Int) y3.2) (65536 : Int))), ()), ((imul .i64 (iadd .i64 (1 : Int) y1.2) (65536 : Int)), (ineg .i64 (imul .i64 (iadd .i64 (1 : Int) y3.2) (65536 : Int))), ()), ((imul .i64 (iadd .i64 (1 : Int) y1.2) (65536 : Int)), (imul .i64 (iadd .i64 (1 : Int) y3.2) (65536 : Int)), ()), ((ineg .i64 (imul .i64 (iadd .i64 (1 : Int) y1.2) (65536 : Int))), (imul .i64 (iadd .i64 (1 : Int) y3.2) (65536 : Int)), ())] : (List V24))) (by kernel_rfl)⟩)) (fun e7 =>
   Owp.bif (fun e8 =>
    Owp.bnd fun y9 e10 =>
     Owp.some (⟨[.res (.more (.dp (.pair T34 .unit)) (.one (.dp T3))) y1, .res (.more (.dp (.pair T34 .unit)) (.one (.dp T3))) y3, .res (.more (.dp (.pair T34 .unit)) (.one (.dp T3))) y5, .dec false, .dec true, .res (.more (.dp (.pair T34 .unit)) (.one (.dp T3))) y9, .dec true], [.freeze 2], via (retwP (And.intro (And.intro (And.intro (And.intro (And.intro (And.intro trivial e2) e4) e6) e7) e8) e10) (.pair T34 .unit) (y9.1 : ((List Int) × Unit)) (.one (.dp T22)) ([((ineg .i64 (imul .i64 (iadd .i64 (1 : Int) y1.2) (65536 : Int))), (ineg .i64 (imul .i64 (iadd .i64 (1 : Int) y3.2) (65536 : Int))), ()), ((imul .i64 (iadd .i64 (1 : Int) y1.2) (65536 : Int)), (ineg .i64 (imul .i64 (iadd .i64 (1 : Int) y3.2) (65536 : Int))), ()), ((isub .i64 y9.2 (imul .i64 (iadd .i64 (1 : Int) y1.2) (65536 : Int))), (imul .i64 (iadd .i64 (1 : Int) y3.2) (65536 : Int)), ())] : (List V24))) (by kernel_rfl)⟩)) (fun e8 =>
    Owp.bif (fun e11 =>
     Owp.some (⟨[.res (.more (.dp (.pair T34 .unit)) (.one (.dp T3))) y1, .res (.more (.dp (.pair T34 .unit)) (.one (.dp T3))) y3, .res (.more (.dp (.pair T34 .unit)) (.one (.dp T3))) y5, .dec false, .dec false, .dec true, .dec true], [.freeze 2], via (retwP (And.intro (And.intro (And.intro (And.intro (And.intro (And.intro (And.intro trivial e2) e4) e6) e7) e8) e11) (by decide : nz (2 : Int))) (.pair T34 .unit) (y5.1 : ((List Int) × Unit)) (.one (.dp T22)) ([((ineg .i64 (imul .i64 (iadd .i64 (1 : Int) y1.2) (65536 : Int))), (ineg .i64 (imul .i64 (iadd .i64 (1 : Int) y3.2) (65536 : Int))), ()), ((isub .i64 (imul .i64 (iadd .i64 (1 : Int) y1.2) (65536 : Int)) (iquo .i64 (imin (imul .i64 (iadd .i64 (1 : Int) y1.2) (65536 : Int)) (imul .i64 (iadd .i64 (1 : Int) y3.2) (65536 : Int))) (2 : Int))), (ineg .i64 (imul .i64 (iadd .i64 (1 : Int) y3.2) (65536 : Int))), ()), ((imul .i64 (iadd .i64 (1 : Int) y1.2) (65536 : Int)), (isub .i64 (iquo .i64 (imin (imul .i64 (iadd .i64 (1 : Int) y1.2) (65536 : Int)) (imul .i64 (iadd .i64 (1 : Int) y3.2) (65536 : Int))) (2 : Int)) (imul .i64 (iadd .i64 (1 : Int) y3.2) (65536 : Int))), ()), ((imul .i64 (iadd .i64 (1 : Int) y1.2) (65536 : Int)), (imul .i64 (iadd .i64 (1 : Int) y3.2) (65536 : Int)), ()), ((ineg .i64 (imul .i64 (iadd .i64 (1 : Int) y1.2) (65536 : Int))), (imul .i64 (iadd .i64 (1 : Int) y3.2) (65536 : Int)), ())] : (List V24))) (by kernel_rfl)⟩)) (fun e11 =>
     Owp.some (⟨[.res (.more (.dp (.pair T34 .unit)) (.one (.dp T3))) y1, .res (.more (.dp (.pair T34 .unit)) (.one (.dp T3))) y3, .res (.more (.dp (.pair T34 .unit)) (.one (.dp T3))) y5, .dec false, .dec false, .dec false, .dec true], [.freeze 2], via (retwP (And.intro (And.intro (And.intro (And.intro (And.intro (And.intro trivial e2) e4) e6) e7) e8) e11) (.pair T34 .unit) (y5.1 : ((List Int) × Unit)) (.one (.dp T22)) ([((ineg .i64 (imul .i64 (iadd .i64 (1 : Int) y1.2) (65536 : Int))), (0 : Int), ()), ((0 : Int), (ineg .i64 (imul .i64 (iadd .i64 (1 : Int) y3.2) (65536 : Int))), ()), ((imul .i64 (iadd .i64 (1 : Int) y1.2) (65536 : Int)), (0 : Int), ()), ((0 : Int), (imul .i64 (iadd .i64 (1 : Int) y3.2) (65536 : Int)), ())] : (List V24))) (by kernel_rfl)⟩))))
theorem tourmake_poly.ok (k : Nat) : FnOk PR 76 (tourmake_poly.sp k) :=
  fnW_ok (t := (.pair T34 .unit)) (ps := .unit) (t' := (.pair T34 .unit)) (rs := (.one (.dp T22))) (g := fun x => tourmake_poly k x.1) (tourmake_poly.cok k) hmix Try.func76 (code := tourmake_poly.code) (by kernel_rfl) (by kernel_rfl) (by kernel_rfl) (by kernel_rfl) (by kernel_rfl) (by kernel_rfl) (by kernel_rfl) (by kernel_rfl) (by kernel_rfl) (fun x => Nat.le_of_ble_eq_true (by kernel_rfl)) fun x y hy => match (tourmake_poly.way k x.1).ap hy with | ⟨ans, cmds, h⟩ => ⟨ans, cmds, via h (by kernel_rfl)⟩

/-! tourney/tourmake.Poly -/
noncomputable def tourmake_Poly.code : Code := Func.cd Try.f24
def tourmake_Poly (k : Nat) (a0 : (List Int)) : Option (List V24) :=
  bnd (tourmake_poly k (a0, ())) fun y1 =>
  some y1.2
noncomputable def tourmake_Poly.sp (k : Nat) : Go.Sx.Spec := ⟨(.pair T34 .unit), (.one (.dp T22)), fun x => tourmake_Poly k x.1, false⟩
noncomputable def tourmake_Poly.cx (k : Nat) : Go.Sx.Ctx := ⟨tys, [(76, tourmake_poly.sp k)], eqs, 7, false⟩
theorem tourmake_Poly.cok (k : Nat) : CtxOk PR (tourmake_Poly.cx k) := ctx_ok tysOk eqsOk (FnsOk.cons (tourmake_poly.ok k) FnsOk.nil)
theorem tourmake_Poly.way (k : Nat) (a0 : (List Int)) : Owp (tourmake_Poly k a0) fun y => ∃ answers cmds, exec PR (tourmake_Poly.cx k) tourmake_Poly.code 0 (entry (.pair T34 .unit) (a0, ())).st answers (Ret (tourmake_Poly.cx k) Try.f24 cmds (.one (.dp T22)) y) := by
  unfold tourmake_Poly; exact
   Owp.bnd fun y1 e2 =>
   Owp.some (⟨[.res (.more (.dp (.pair T34 .unit)) (.one (.dp T22))) y1], [], via (retP (And.intro trivial e2) (.one (.dp T22)) (y1.2 : (List V24))) (by kernel_rfl)⟩)
theorem tourmake_Poly.ok (k : Nat) : FnOk PR 24 (tourmake_Poly.sp k) :=
  fn_ok (tourmake_Poly.cok k) hmix Try.func24 (code := tourmake_Poly.code) (by kernel_rfl) (by kernel_rfl) (by kernel_rfl) rfl (by kernel_rfl) (by kernel_rfl) (by kernel_rfl) (fun x => Nat.le_of_ble_eq_true (by kernel_rfl)) fun x y hy => (tourmake_Poly.way k x.1).ap hy

/-! tourney/tourkeep2.place -/
noncomputable def tourkeep2_place.code : Code := Func.cd Try.f25
def tourkeep2_place (k : Nat) (a0 : Int) (a1 : Int) : Option V24 :=
  bnd (tourmake_Below k a0 1572864) fun y1 =>
  bnd (tourmake_Below k a1 1572864) fun y3 =>
  some ((isub .i64 y1 786432), (isub .i64 y3 786432), ())
noncomputable def tourkeep2_place.sp (k : Nat) : Go.Sx.Spec := ⟨T24, (.one (.dp T24)), fun x => tourkeep2_place k x.1 x.2.1, false⟩
noncomputable def tourkeep2_place.cx (k : Nat) : Go.Sx.Ctx := ⟨tys, [(30, tourmake_Below.sp k)], eqs, 12, false⟩
theorem tourkeep2_place.cok (k : Nat) : CtxOk PR (tourkeep2_place.cx k) := ctx_ok tysOk eqsOk (FnsOk.cons (tourmake_Below.ok k) FnsOk.nil)
theorem tourkeep2_place.way (k : Nat) (a0 : Int) (a1 : Int) : Owp (tourkeep2_place k a0 a1) fun y => ∃ answers cmds, exec PR (tourkeep2_place.cx k) tourkeep2_place.code 0 (entry T24 (a0, a1, ())).st answers (Ret (tourkeep2_place.cx k) Try.f25 cmds (.one (.dp T24)) y) := by
  unfold tourkeep2_place; exact
   Owp.bnd fun y1 e2 =>
   Owp.bnd fun y3 e4 =>
   Owp.some (⟨[.res (.one (.dp T3)) y1, .res (.one (.dp T3)) y3], [], via (retP (And.intro (And.intro trivial e2) e4) (.one (.dp T24)) (((isub .i64 y1 (786432 : Int)), (isub .i64 y3 (786432 : Int)), ()) : V24)) (by kernel_rfl)⟩)
theorem tourkeep2_place.ok (k : Nat) : FnOk PR 25 (tourkeep2_place.sp k) :=
  fn_ok (tourkeep2_place.cok k) hmix Try.func25 (code := tourkeep2_place.code) (by kernel_rfl) (by kernel_rfl) (by kernel_rfl) rfl (by kernel_rfl) (by kernel_rfl) (by kernel_rfl) (fun x => Nat.le_of_ble_eq_true (by kernel_rfl)) fun x y hy => (tourkeep2_place.way k x.1 x.2.1).ap hy

/-! tourney/tourkeep2.moved -/
noncomputable def tourkeep2_moved.code : Code := Func.cd Try.f26
def tourkeep2_moved.c1 (k : Nat) (a0 : (List V24)) (a1 : V24) : Nat → Int → (List V24) → Option ((List V24))
  | 0, _, _ => none
  | n + 1, v1, v2 =>
   bif' (ilt v1 (len a0))
   (req (inL v1 a0) <|
    req (room 16 v2 [((iadd .i64 (el Z24 a0 v1).1 a1.1), (iadd .i64 (el Z24 a0 v1).2.1 a1.2.1), ())]) <|
    tourkeep2_moved.c1 k a0 a1 n (iadd .i64 v1 1) (v2 ++ [((iadd .i64 (el Z24 a0 v1).1 a1.1), (iadd .i64 (el Z24 a0 v1).2.1 a1.2.1), ())]))
   (some v2)
def tourkeep2_moved (k : Nat) (a0 : (List V24)) (a1 : V24) : Option (List V24) :=
  bnd (tourkeep2_moved.c1 k a0 a1 k 0 []) fun o6 =>
  some o6
noncomputable def tourkeep2_moved.sp (k : Nat) : Go.Sx.Spec := ⟨(.pair T22 (.pair T24 .unit)), (.one (.ow T24 24)), fun x => tourkeep2_moved k x.1 x.2.1, false⟩
noncomputable def tourkeep2_moved.cx (k : Nat) : Go.Sx.Ctx := ⟨tys, [], eqs, 30, false⟩
theorem tourkeep2_moved.cok (k : Nat) : CtxOk PR (tourkeep2_moved.cx k) := ctx_ok tysOk eqsOk FnsOk.nil
noncomputable def tourkeep2_moved.c1p (a0 : (List V24)) (a1 : V24) (v1 : Int) (v2 : (List V24)) : SL := ⟨[(3, (.val .ptr ⟨0, 0, (0 : Int), 0, 0⟩)), (5, (.val .own (1 : Nat))), (8, (.val T22 a0)), (9, (.val T3 (len a0))), (10, (.val T3 v1))], [(0, .cells T24 a1), (1, .row T24 v2 24)]⟩
noncomputable def tourkeep2_moved.c1q (o : (List V24)) : SL := (fun v => ⟨[(5, (.val .own (0 : Nat)))], [(0, .row T24 v 24)]⟩) o
noncomputable def tourkeep2_moved.c1x (o : (List V24)) : Ex := (fun _ => (.exit 0)) o
noncomputable def tourkeep2_moved.c1n (o : (List V24)) : Nat := (fun _ => 1) o
theorem tourkeep2_moved.c1_ok (k : Nat) (a0 : (List V24)) (a1 : V24) : ∀ (n : Nat) (v1 : Int) (v2 : (List V24)), Owp (tourkeep2_moved.c1 k a0 a1 n v1 v2) fun o => LTriple PR (tourkeep2_moved.cx k) (sub tourkeep2_moved.code [1, 1, 0, 1, 0, 0]) 2 (tourkeep2_moved.c1p a0 a1 v1 v2) (tourkeep2_moved.c1x o) (tourkeep2_moved.c1n o) (tourkeep2_moved.c1q o)
  | 0, _, _ => fun _ h => nomatch h
  | n + 1, v1, v2 => Owp.of (tourkeep2_moved.c1.eq_2 ..) (
   Owp.bif (fun e3 =>
   Owp.req fun h4 =>
    Owp.req fun h5 =>
    fun y hy => loop_back (tourkeep2_moved.cok k) hmix 2 (tourkeep2_moved.c1p a0 a1 (iadd .i64 v1 (1 : Int)) (v2 ++ [((iadd .i64 (el Z24 a0 v1).1 a1.1), (iadd .i64 (el Z24 a0 v1).2.1 a1.2.1), ())])) [.dec true, .dec true] [] [(0, 0), (1, 20)] (via (finP (And.intro (And.intro (And.intro trivial e3) h4) h5) .normal [(0, 0), (1, 20)] (tourkeep2_moved.c1p a0 a1 (iadd .i64 v1 (1 : Int)) (v2 ++ [((iadd .i64 (el Z24 a0 v1).1 a1.1), (iadd .i64 (el Z24 a0 v1).2.1 a1.2.1), ())]))) (by kernel_rfl)) ((tourkeep2_moved.c1_ok k a0 a1 n (iadd .i64 v1 (1 : Int)) (v2 ++ [((iadd .i64 (el Z24 a0 v1).1 a1.1), (iadd .i64 (el Z24 a0 v1).2.1 a1.2.1), ())])).ap hy)) (fun e3 =>
   Owp.some (loop_exit (tourkeep2_moved.cok k) hmix [.dec false] [] [(0, 1)] (exne 0) (via (finP (And.intro trivial e3) (.exit 0) [(0, 1)] (tourkeep2_moved.c1q v2)) (by kernel_rfl)))))
theorem tourkeep2_moved.way (k : Nat) (a0 : (List V24)) (a1 : V24) : Owp (tourkeep2_moved k a0 a1) fun y => ∃ answers cmds, exec PR (tourkeep2_moved.cx k) tourkeep2_moved.code 0 (entry (.pair T22 (.pair T24 .unit)) (a0, a1, ())).st answers (Ret (tourkeep2_moved.cx k) Try.f26 cmds (.one (.ow T24 24)) y) := by
  unfold tourkeep2_moved; exact
   Owp.bnd fun o6 e7 =>
   Owp.some (⟨[.cut ⟨[.own 5 T24 24], [(0, 0), (1, 6)], (tourkeep2_moved.c1p a0 a1 (0 : Int) []), 2, (.exit 0), (tourkeep2_moved.c1q o6), 1⟩], [], via (cutP trivial [(0, 0), (1, 6)] (tourkeep2_moved.c1p a0 a1 (0 : Int) []) (((tourkeep2_moved.c1_ok k a0 a1 k (0 : Int) []).ap e7).triple) (retP trivial (.one (.ow T24 24)) (o6 : (List V24)))) (by kernel_rfl)⟩)
theorem tourkeep2_moved.ok (k : Nat) : FnOk PR 26 (tourkeep2_moved.sp k) :=
  fn_ok (tourkeep2_moved.cok k) hmix Try.func26 (code := tourkeep2_moved.code) (by kernel_rfl) (by kernel_rfl) (by kernel_rfl) rfl (by kernel_rfl) (by kernel_rfl) (by kernel_rfl) (fun x => Nat.le_of_ble_eq_true (by kernel_rfl)) fun x y hy => (tourkeep2_moved.way k x.1 x.2.1).ap hy

/-! tourney/tourkeep2.square -/
noncomputable def tourkeep2_square.code : Code := Func.cd Try.f77
def tourkeep2_square (k : Nat) (a0 : Int) (a1 : Int) (a2 : Int) : Option (List V24) :=
  some [((isub .i64 (imul .i64 a0 65536) (imul .i64 a2 65536)), (isub .i64 (imul .i64 a1 65536) (imul .i64 a2 65536)), ()), ((iadd .i64 (imul .i64 a0 65536) (imul .i64 a2 65536)), (isub .i64 (imul .i64 a1 65536) (imul .i64 a2 65536)), ()), ((iadd .i64 (imul .i64 a0 65536) (imul .i64 a2 65536)), (iadd .i64 (imul .i64 a1 65536) (imul .i64 a2 65536)), ()), ((isub .i64 (imul .i64 a0 65536) (imul .i64 a2 65536)), (iadd .i64 (imul .i64 a1 65536) (imul .i64 a2 65536)), ())]
noncomputable def tourkeep2_square.sp (k : Nat) : Go.Sx.Spec := ⟨(.pair T3 T24), (.one (.ow T24 24)), fun x => tourkeep2_square k x.1 x.2.1 x.2.2.1, false⟩
noncomputable def tourkeep2_square.cx (k : Nat) : Go.Sx.Ctx := ⟨tys, [], eqs, 42, false⟩
theorem tourkeep2_square.cok (k : Nat) : CtxOk PR (tourkeep2_square.cx k) := ctx_ok tysOk eqsOk FnsOk.nil
theorem tourkeep2_square.way (k : Nat) (a0 : Int) (a1 : Int) (a2 : Int) : Owp (tourkeep2_square k a0 a1 a2) fun y => ∃ answers cmds, exec PR (tourkeep2_square.cx k) tourkeep2_square.code 0 (entry (.pair T3 T24) (a0, a1, a2, ())).st answers (Ret (tourkeep2_square.cx k) Try.f77 cmds (.one (.ow T24 24)) y) := by
  unfold tourkeep2_square; exact
   Owp.some (⟨[.dec true], [], via (retP trivial (.one (.ow T24 24)) ([((isub .i64 (imul .i64 a0 (65536 : Int)) (imul .i64 a2 (65536 : Int))), (isub .i64 (imul .i64 a1 (65536 : Int)) (imul .i64 a2 (65536 : Int))), ()), ((iadd .i64 (imul .i64 a0 (65536 : Int)) (imul .i64 a2 (65536 : Int))), (isub .i64 (imul .i64 a1 (65536 : Int)) (imul .i64 a2 (65536 : Int))), ()), ((iadd .i64 (imul .i64 a0 (65536 : Int)) (imul .i64 a2 (65536 : Int))), (iadd .i64 (imul .i64 a1 (65536 : Int)) (imul .i64 a2 (65536 : Int))), ()), ((isub .i64 (imul .i64 a0 (65536 : Int)) (imul .i64 a2 (65536 : Int))), (iadd .i64 (imul .i64 a1 (65536 : Int)) (imul .i64 a2 (65536 : Int))), ())] : (List V24))) (by kernel_rfl)⟩)
theorem tourkeep2_square.ok (k : Nat) : FnOk PR 77 (tourkeep2_square.sp k) :=
  fn_ok (tourkeep2_square.cok k) hmix Try.func77 (code := tourkeep2_square.code) (by kernel_rfl) (by kernel_rfl) (by kernel_rfl) rfl (by kernel_rfl) (by kernel_rfl) (by kernel_rfl) (fun x => Nat.le_of_ble_eq_true (by kernel_rfl)) fun x y hy => (tourkeep2_square.way k x.1 x.2.1 x.2.2.1).ap hy

/-! tourney/tourkeep2.works -/
noncomputable def tourkeep2_works.code : Code := Func.cd Try.f27
def tourkeep2_works (k : Nat) : Option Bool :=
  bnd (tourkeep2_square k 0 0 1) fun y1 =>
  bnd (poly_Area k y1) fun y3 =>
  bif' (ieq y3.2 0)
  (bif' (ieq y3.1 34359738368)
   (bnd (tourkeep2_square k 0 0 1) fun y7 =>
    bnd (poly_Support k y7 (1, (-1), ())) fun y9 =>
    bif' (ieq y9 1)
    (bnd (tourkeep2_square k 0 0 1) fun y12 =>
     bnd (poly_Has k y12 (0, 0, ())) fun y14 =>
     some y14)
    (some false))
   (some false))
  (some false)
noncomputable def tourkeep2_works.sp (k : Nat) : Go.Sx.Spec := ⟨.unit, (.one (.dp T4)), fun x => tourkeep2_works k, false⟩
noncomputable def tourkeep2_works.cx (k : Nat) : Go.Sx.Ctx := ⟨tys, [(77, tourkeep2_square.sp k), (17, poly_Area.sp k), (20, poly_Support.sp k), (19, poly_Has.sp k)], eqs, 25, false⟩
theorem tourkeep2_works.cok (k : Nat) : CtxOk PR (tourkeep2_works.cx k) := ctx_ok tysOk eqsOk (FnsOk.cons (tourkeep2_square.ok k) (FnsOk.cons (poly_Area.ok k) (FnsOk.cons (poly_Support.ok k) (FnsOk.cons (poly_Has.ok k) FnsOk.nil))))
theorem tourkeep2_works.way (k : Nat) : Owp (tourkeep2_works k) fun y => ∃ answers cmds, exec PR (tourkeep2_works.cx k) tourkeep2_works.code 0 (entry .unit ()).st answers (Ret (tourkeep2_works.cx k) Try.f27 cmds (.one (.dp T4)) y) := by
  unfold tourkeep2_works; exact
   Owp.bnd fun y1 e2 =>
   Owp.bnd fun y3 e4 =>
   Owp.bif (fun e5 =>
   Owp.bif (fun e6 =>
    Owp.bnd fun y7 e8 =>
     Owp.bnd fun y9 e10 =>
     Owp.bif (fun e11 =>
     Owp.bnd fun y12 e13 =>
      Owp.bnd fun y14 e15 =>
      Owp.some (⟨[.res (.one (.ow T24 24)) y1, .res (.more (.dp T3) (.one (.dp T3))) y3, .dec true, .dec true, .dec true, .dec true, .res (.one (.ow T24 24)) y7, .dec true, .dec true, .res (.one (.dp T3)) y9, .dec true, .dec true, .dec true, .res (.one (.ow T24 24)) y12, .dec true, .dec true, .res (.one (.dp T4)) y14, .dec true], [], via (retP (And.intro (And.intro (And.intro (And.intro (And.intro (And.intro (And.intro (And.intro (And.intro (And.intro (And.intro (And.intro (And.intro (And.intro trivial e2) e4) e5) e5) e5) (And.intro e6 e8)) e6) (And.intro e6 e10)) e6) e6) (And.intro e11 e13)) e11) (And.intro e11 e15)) e11) (.one (.dp T4)) (y14 : Bool)) (by kernel_rfl)⟩)) (fun e11 =>
     Owp.some (⟨[.res (.one (.ow T24 24)) y1, .res (.more (.dp T3) (.one (.dp T3))) y3, .dec true, .dec true, .dec true, .dec true, .res (.one (.ow T24 24)) y7, .dec true, .dec true, .res (.one (.dp T3)) y9, .dec true, .dec true, .dec false, .dec true, .dec false, .dec false, .dec true, .dec false], [], via (retP (And.intro (And.intro (And.intro (And.intro (And.intro (And.intro (And.intro (And.intro (And.intro (And.intro (And.intro (And.intro (And.intro (And.intro trivial e2) e4) e5) e5) e5) (And.intro e6 e8)) e6) (And.intro e6 e10)) e6) e6) e11) e11) e11) e11) (.one (.dp T4)) (false : Bool)) (by kernel_rfl)⟩))) (fun e6 =>
    Owp.some (⟨[.res (.one (.ow T24 24)) y1, .res (.more (.dp T3) (.one (.dp T3))) y3, .dec true, .dec true, .dec true, .dec false, .dec true, .dec false, .dec false, .dec true, .dec false, .dec false, .dec false, .dec true, .dec false, .dec false, .dec true, .dec false], [], via (retP (And.intro (And.intro (And.intro (And.intro (And.intro (And.intro (And.intro (And.intro (And.intro (And.intro (And.intro (And.intro (And.intro (And.intro trivial e2) e4) e5) e5) e5) e6) e6) e6) e6) e6) ff) ff) ff) ff) (.one (.dp T4)) (false : Bool)) (by kernel_rfl)⟩))) (fun e5 =>
   Owp.some (⟨[.res (.one (.ow T24 24)) y1, .res (.more (.dp T3) (.one (.dp T3))) y3, .dec false, .dec false, .dec false, .dec false, .dec true, .dec false, .dec false, .dec true, .dec false, .dec false, .dec false, .dec true, .dec false, .dec false, .dec true, .dec false], [], via (retP (And.intro (And.intro (And.intro (And.intro (And.intro (And.intro (And.intro (And.intro (And.intro (And.intro (And.intro (And.intro (And.intro (And.intro trivial e2) e4) e5) e5) e5) ff) ff) ff) ff) ff) ff) ff) ff) ff) (.one (.dp T4)) (false : Bool)) (by kernel_rfl)⟩))
theorem tourkeep2_works.ok (k : Nat) : FnOk PR 27 (tourkeep2_works.sp k) :=
  fn_ok (tourkeep2_works.cok k) hmix Try.func27 (code := tourkeep2_works.code) (by kernel_rfl) (by kernel_rfl) (by kernel_rfl) rfl (by kernel_rfl) (by kernel_rfl) (by kernel_rfl) (fun x => Nat.le_of_ble_eq_true (by kernel_rfl)) fun x y hy => (tourkeep2_works.way k).ap hy

/-! tourney/tourkeep2.PolySupports -/
noncomputable def tourkeep2_PolySupports.code : Code := Func.cd Try.f4
def tourkeep2_PolySupports.c1 (k : Nat) (a1 : V24) (y1 : (List V24)) (y5 : (List V24)) (y7 : Int) : Option (Bool) :=
  bnd (tourkeep2_works k) fun y9 =>
  bif' y9
  (bif' (ilt y7 0)
   (some true)
   (bif' (ige y7 (len y1))
    (some true)
    (bnd (poly_Support k y5 a1) fun y14 =>
     some (ine y14 y7))))
  (some true)
def tourkeep2_PolySupports.c2 (k : Nat) (a1 : V24) (y1 : (List V24)) (y7 : Int) : Nat → Int → Option (Unit ⊕ Unit)
  | 0, _ => none
  | n + 1, v19 =>
   bif' (ilt v19 (len y1))
   (req (inL v19 y1) <|
    bnd (poly_Dot k (el Z24 y1 v19) a1) fun y22 =>
    req (inL y7 y1) <|
    bnd (poly_Dot k (el Z24 y1 y7) a1) fun y25 =>
    bnd (poly_Wide_Cmp k y22 y25) fun y27 =>
    bif' (igt y27 0)
    (some (.inl ()))
    (tourkeep2_PolySupports.c2 k a1 y1 y7 n (iadd .i64 v19 1)))
   (some (.inr ()))
def tourkeep2_PolySupports (k : Nat) (a0 : (List Int)) (a1 : V24) (a2 : V24) (a3 : Int) (a4 : Int) : Option Bool :=
  bnd (tourmake_Poly k a0) fun y1 =>
  bnd (tourkeep2_place k a3 a4) fun y3 =>
  bnd (tourkeep2_moved k y1 y3) fun y5 =>
  bnd (poly_Support k y1 a1) fun y7 =>
  bnd (tourkeep2_PolySupports.c1 k a1 y1 y5 y7) fun o16 =>
  bif' o16
  (some false)
  (bnd (tourkeep2_PolySupports.c2 k a1 y1 y7 k 0) fun o30 =>
   two o30 (fun y32 =>
   some false) (fun y34 =>
   bnd (poly_Area k y1) fun y36 =>
    bnd (poly_Area k y5) fun y38 =>
    bif' (ieq y36.2 0)
    (bif' (ieq y38.2 0)
     (bif' (ieq y36.1 y38.1)
      (some (igt y36.1 0))
      (some false))
     (some false))
    (some false)))
noncomputable def tourkeep2_PolySupports.sp (k : Nat) : Go.Sx.Spec := ⟨(.pair T34 (.pair T24 (.pair T24 T24))), (.one (.dp T4)), fun x => tourkeep2_PolySupports k x.1 x.2.1 x.2.2.1 x.2.2.2.1 x.2.2.2.2.1, false⟩
noncomputable def tourkeep2_PolySupports.cx (k : Nat) : Go.Sx.Ctx := ⟨tys, [(24, tourmake_Poly.sp k), (25, tourkeep2_place.sp k), (26, tourkeep2_moved.sp k), (20, poly_Support.sp k), (27, tourkeep2_works.sp k), (28, poly_Dot.sp k), (29, poly_Wide_Cmp.sp k), (17, poly_Area.sp k)], eqs, 93, false⟩
theorem tourkeep2_PolySupports.cok (k : Nat) : CtxOk PR (tourkeep2_PolySupports.cx k) := ctx_ok tysOk eqsOk (FnsOk.cons (tourmake_Poly.ok k) (FnsOk.cons (tourkeep2_place.ok k) (FnsOk.cons (tourkeep2_moved.ok k) (FnsOk.cons (poly_Support.ok k) (FnsOk.cons (tourkeep2_works.ok k) (FnsOk.cons (poly_Dot.ok k) (FnsOk.cons (poly_Wide_Cmp.ok k) (FnsOk.cons (poly_Area.ok k) FnsOk.nil))))))))
noncomputable def tourkeep2_PolySupports.c1p (a1 : V24) (y1 : (List V24)) (y5 : (List V24)) (y7 : Int) : SL := ⟨[(6, (.val .ptr ⟨0, 0, (0 : Int), 0, 0⟩)), (11, (.val T22 y1)), (12, (.val .own (1 : Nat))), (13, (.val T3 y7))], [(0, .cells T24 a1), (1, .row T24 y5 24)]⟩
noncomputable def tourkeep2_PolySupports.c1q (a1 : V24) (y1 : (List V24)) (y5 : (List V24)) (y7 : Int) (o : Bool) : SL := (fun v => ⟨[(6, (.val .ptr ⟨0, 0, (0 : Int), 0, 0⟩)), (11, (.val T22 y1)), (12, (.val .own (1 : Nat))), (13, (.val T3 y7)), (49, (.val T4 v))], [(0, .cells T24 a1), (1, .row T24 y5 24)]⟩) o
noncomputable def tourkeep2_PolySupports.c1x (o : Bool) : Ex := (fun _ => .normal) o
noncomputable def tourkeep2_PolySupports.c1n (o : Bool) : Nat := (fun _ => 2) o
theorem tourkeep2_PolySupports.c1_ok (k : Nat) (a1 : V24) (y1 : (List V24)) (y5 : (List V24)) (y7 : Int) : Owp (tourkeep2_PolySupports.c1 k a1 y1 y5 y7) fun o => Triple PR (tourkeep2_PolySupports.cx k) (sub tourkeep2_PolySupports.code [1, 1, 1, 1, 1, 0, 0]) 2 (tourkeep2_PolySupports.c1p a1 y1 y5 y7) (tourkeep2_PolySupports.c1x o) (tourkeep2_PolySupports.c1n o) (tourkeep2_PolySupports.c1q a1 y1 y5 y7 o) := by
  unfold tourkeep2_PolySupports.c1; exact
   Owp.bnd fun y9 e10 =>
   Owp.bif (fun e11 =>
   Owp.bif (fun e12 =>
    Owp.some (triple_way (tourkeep2_PolySupports.cok k) hmix [.res (.one (.dp T4)) y9, .dec false, .dec false, .dec false, .dec true, .dec true, .dec true, .dec true, .dec true, .dec true, .dec true, .dec true, .dec true, .dec true, .dec true, .dec true] [] [(0, 0), (1, 1)] (via (finP (And.intro (And.intro (And.intro (And.intro (And.intro (And.intro (And.intro (And.intro (And.intro (And.intro (And.intro (And.intro (And.intro (And.intro (And.intro trivial e10) (congrArg not e11)) (congrArg not e11)) (congrArg not e11)) e12) e12) e12) e12) e12) tt) tt) tt) tt) tt) tt) .normal [(0, 0), (1, 1)] (tourkeep2_PolySupports.c1q a1 y1 y5 y7 true)) (by kernel_rfl)))) (fun e12 =>
    Owp.bif (fun e13 =>
     Owp.some (triple_way (tourkeep2_PolySupports.cok k) hmix [.res (.one (.dp T4)) y9, .dec false, .dec false, .dec false, .dec false, .dec false, .dec false, .dec false, .dec false, .dec true, .dec true, .dec true, .dec true, .dec true, .dec true, .dec true] [] [(0, 0), (1, 1)] (via (finP (And.intro (And.intro (And.intro (And.intro (And.intro (And.intro (And.intro (And.intro (And.intro (And.intro (And.intro (And.intro (And.intro (And.intro (And.intro trivial e10) (congrArg not e11)) (congrArg not e11)) (congrArg not e11)) e12) e12) e12) e12) e12) e13) e13) e13) e13) e13) e13) .normal [(0, 0), (1, 1)] (tourkeep2_PolySupports.c1q a1 y1 y5 y7 true)) (by kernel_rfl)))) (fun e13 =>
     Owp.bnd fun y14 e15 =>
      Owp.some (triple_way (tourkeep2_PolySupports.cok k) hmix [.res (.one (.dp T4)) y9, .dec false, .dec false, .dec false, .dec false, .dec false, .dec false, .dec false, .dec false, .dec false, .dec false, .dec false, .res (.one (.dp T3)) y14, .dec false, .dec false, .dec false] [] [(0, 0), (1, 1)] (via (finP (And.intro (And.intro (And.intro (And.intro (And.intro (And.intro (And.intro (And.intro (And.intro (And.intro (And.intro (And.intro (And.intro (And.intro (And.intro trivial e10) (congrArg not e11)) (congrArg not e11)) (congrArg not e11)) e12) e12) e12) e12) e12) e13) e13) (And.intro e13 e15)) e13) e13) e13) .normal [(0, 0), (1, 1)] (tourkeep2_PolySupports.c1q a1 y1 y5 y7 (ine y14 y7))) (by kernel_rfl)))))) (fun e11 =>
   Owp.some (triple_way (tourkeep2_PolySupports.cok k) hmix [.res (.one (.dp T4)) y9, .dec true, .dec true, .dec true, .dec true, .dec true, .dec true, .dec true, .dec true, .dec true, .dec true, .dec true, .dec true, .dec true, .dec true, .dec true] [] [(0, 0), (1, 1)] (via (finP (And.intro (And.intro (And.intro (And.intro (And.intro (And.intro (And.intro (And.intro (And.intro (And.intro (And.intro (And.intro (And.intro (And.intro (And.intro trivial e10) (congrArg not e11)) (congrArg not e11)) (congrArg not e11)) tt) tt) tt) tt) tt) tt) tt) tt) tt) tt) tt) .normal [(0, 0), (1, 1)] (tourkeep2_PolySupports.c1q a1 y1 y5 y7 true)) (by kernel_rfl))))
noncomputable def tourkeep2_PolySupports.c2p (a1 : V24) (y1 : (List V24)) (y5 : (List V24)) (y7 : Int) (v19 : Int) : SL := ⟨[(6, (.val .ptr ⟨0, 0, (0 : Int), 0, 0⟩)), (11, (.val T22 y1)), (12, (.val .own (1 : Nat))), (13, (.val T3 y7)), (50, (.val T22 y1)), (51, (.val T3 (len y1))), (52, (.val T3 v19))], [(0, .cells T24 a1), (1, .row T24 y5 24)]⟩
noncomputable def tourkeep2_PolySupports.c2q (y1 : (List V24)) (y5 : (List V24)) (o : Unit ⊕ Unit) : SL := (fun o => two o (fun v => ⟨[(10, (.val T4 false))], []⟩) (fun v => ⟨[(11, (.val T22 y1)), (12, (.val .own (0 : Nat)))], [(0, .row T24 y5 24)]⟩)) o
noncomputable def tourkeep2_PolySupports.c2x (o : Unit ⊕ Unit) : Ex := (fun o => two o (fun _ => .ret) (fun _ => (.exit 0))) o
noncomputable def tourkeep2_PolySupports.c2n (o : Unit ⊕ Unit) : Nat := (fun o => two o (fun _ => 0) (fun _ => 1)) o
theorem tourkeep2_PolySupports.c2_ok (k : Nat) (a1 : V24) (y1 : (List V24)) (y5 : (List V24)) (y7 : Int) : ∀ (n : Nat) (v19 : Int), Owp (tourkeep2_PolySupports.c2 k a1 y1 y7 n v19) fun o => LTriple PR (tourkeep2_PolySupports.cx k) (sub tourkeep2_PolySupports.code [1, 1, 1, 1, 1, 1, 0, 1, 0, 0]) 2 (tourkeep2_PolySupports.c2p a1 y1 y5 y7 v19) (tourkeep2_PolySupports.c2x o) (tourkeep2_PolySupports.c2n o) (tourkeep2_PolySupports.c2q y1 y5 o)
  | 0, _ => fun _ h => nomatch h
  | n + 1, v19 => Owp.of (tourkeep2_PolySupports.c2.eq_2 ..) (
   Owp.bif (fun e20 =>
   Owp.req fun h21 =>
    Owp.bnd fun y22 e23 =>
    Owp.req fun h24 =>
    Owp.bnd fun y25 e26 =>
    Owp.bnd fun y27 e28 =>
    Owp.bif (fun e29 =>
    Owp.some (loop_exit (tourkeep2_PolySupports.cok k) hmix [.dec true, .res (.one (.dp T40)) y22, .res (.one (.dp T40)) y25, .res (.one (.dp T3)) y27, .dec true] [] [] exne_ret (via (finP (And.intro (And.intro (And.intro (And.intro (And.intro (And.intro (And.intro trivial e20) h21) e23) h24) e26) e28) e29) .ret [] (tourkeep2_PolySupports.c2q y1 y5 (.inl ()))) (by kernel_rfl)))) (fun e29 =>
    fun y hy => loop_back (tourkeep2_PolySupports.cok k) hmix 2 (tourkeep2_PolySupports.c2p a1 y1 y5 y7 (iadd .i64 v19 (1 : Int))) [.dec true, .res (.one (.dp T40)) y22, .res (.one (.dp T40)) y25, .res (.one (.dp T3)) y27, .dec false] [] [(0, 0), (1, 1)] (via (finP (And.intro (And.intro (And.intro (And.intro (And.intro (And.intro (And.intro trivial e20) h21) e23) h24) e26) e28) e29) .normal [(0, 0), (1, 1)] (tourkeep2_PolySupports.c2p a1 y1 y5 y7 (iadd .i64 v19 (1 : Int)))) (by kernel_rfl)) ((tourkeep2_PolySupports.c2_ok k a1 y1 y5 y7 n (iadd .i64 v19 (1 : Int))).ap hy))) (fun e20 =>
   Owp.some (loop_exit (tourkeep2_PolySupports.cok k) hmix [.dec false] [] [(0, 1)] (exne 0) (via (finP (And.intro trivial e20) (.exit 0) [(0, 1)] (tourkeep2_PolySupports.c2q y1 y5 (.inr ()))) (by kernel_rfl)))))
theorem tourkeep2_PolySupports.way (k : Nat) (a0 : (List Int)) (a1 : V24) (a2 : V24) (a3 : Int) (a4 : Int) : Owp (tourkeep2_PolySupports k a0 a1 a2 a3 a4) fun y => ∃ answers cmds, exec PR (tourkeep2_PolySupports.cx k) tourkeep2_PolySupports.code 0 (entry (.pair T34 (.pair T24 (.pair T24 T24))) (a0, a1, a2, a3, a4, ())).st answers (Ret (tourkeep2_PolySupports.cx k) Try.f4 cmds (.one (.dp T4)) y) := by
  unfold tourkeep2_PolySupports; exact
   Owp.bnd fun y1 e2 =>
   Owp.bnd fun y3 e4 =>
   Owp.bnd fun y5 e6 =>
   Owp.bnd fun y7 e8 =>
   Owp.bnd fun o16 e17 =>
   Owp.bif (fun e18 =>
   Owp.some (⟨[.res (.one (.dp T22)) y1, .res (.one (.dp T24)) y3, .res (.one (.ow T24 24)) y5, .res (.one (.dp T3)) y7, .cutR 5 ⟨[], [(0, 0), (1, 12)], (tourkeep2_PolySupports.c1p a1 y1 y5 y7), 2, .normal, (tourkeep2_PolySupports.c1q a1 y1 y5 y7 o16), 2⟩, .dec true], [], via (cutP (And.intro (And.intro (And.intro (And.intro trivial e2) e4) e6) e8) [(0, 0), (1, 12)] (tourkeep2_PolySupports.c1p a1 y1 y5 y7) (((tourkeep2_PolySupports.c1_ok k a1 y1 y5 y7).ap e17)) (retP (And.intro trivial e18) (.one (.dp T4)) (false : Bool))) (by kernel_rfl)⟩)) (fun e18 =>
   Owp.bnd fun o30 e31 =>
    Owp.two (fun y32 e33 =>
    Owp.some (⟨[.res (.one (.dp T22)) y1, .res (.one (.dp T24)) y3, .res (.one (.ow T24 24)) y5, .res (.one (.dp T3)) y7, .cutR 5 ⟨[], [(0, 0), (1, 12)], (tourkeep2_PolySupports.c1p a1 y1 y5 y7), 2, .normal, (tourkeep2_PolySupports.c1q a1 y1 y5 y7 o16), 2⟩, .dec false, .cut ⟨[], [(0, 0), (1, 1)], (tourkeep2_PolySupports.c2p a1 y1 y5 y7 (0 : Int)), 2, .ret, (tourkeep2_PolySupports.c2q y1 y5 (.inl ())), 0⟩], [], via (cutP (And.intro (And.intro (And.intro (And.intro trivial e2) e4) e6) e8) [(0, 0), (1, 12)] (tourkeep2_PolySupports.c1p a1 y1 y5 y7) (((tourkeep2_PolySupports.c1_ok k a1 y1 y5 y7).ap e17)) (cutP (And.intro trivial e18) [(0, 0), (1, 1)] (tourkeep2_PolySupports.c2p a1 y1 y5 y7 (0 : Int)) (((tourkeep2_PolySupports.c2_ok k a1 y1 y5 y7 k (0 : Int)).ap (e31.trans (congrArg some e33))).triple) (retP trivial (.one (.dp T4)) (false : Bool)))) (by kernel_rfl)⟩)) (fun y34 e35 =>
    Owp.bnd fun y36 e37 =>
     Owp.bnd fun y38 e39 =>
     Owp.bif (fun e40 =>
     Owp.bif (fun e41 =>
      Owp.bif (fun e42 =>
       Owp.some (⟨[.res (.one (.dp T22)) y1, .res (.one (.dp T24)) y3, .res (.one (.ow T24 24)) y5, .res (.one (.dp T3)) y7, .cutR 5 ⟨[], [(0, 0), (1, 12)], (tourkeep2_PolySupports.c1p a1 y1 y5 y7), 2, .normal, (tourkeep2_PolySupports.c1q a1 y1 y5 y7 o16), 2⟩, .dec false, .cut ⟨[], [(0, 0), (1, 1)], (tourkeep2_PolySupports.c2p a1 y1 y5 y7 (0 : Int)), 2, (.exit 0), (tourkeep2_PolySupports.c2q y1 y5 (.inr ())), 1⟩, .res (.more (.dp T3) (.one (.dp T3))) y36, .res (.more (.dp T3) (.one (.dp T3))) y38, .dec true, .dec true, .dec true, .dec true, .dec true, .dec true, .dec true, .dec true, .dec true, .dec true], [], via (cutP (And.intro (And.intro (And.intro (And.intro trivial e2) e4) e6) e8) [(0, 0), (1, 12)] (tourkeep2_PolySupports.c1p a1 y1 y5 y7) (((tourkeep2_PolySupports.c1_ok k a1 y1 y5 y7).ap e17)) (cutP (And.intro trivial e18) [(0, 0), (1, 1)] (tourkeep2_PolySupports.c2p a1 y1 y5 y7 (0 : Int)) (((tourkeep2_PolySupports.c2_ok k a1 y1 y5 y7 k (0 : Int)).ap (e31.trans (congrArg some e35))).triple) (retP (And.intro (And.intro (And.intro (And.intro (And.intro (And.intro (And.intro (And.intro (And.intro (And.intro (And.intro (And.intro trivial e37) e39) e40) e40) e40) e41) e41) e41) e41) e42) e42) e42) (.one (.dp T4)) ((igt y36.1 (0 : Int)) : Bool)))) (by kernel_rfl)⟩)) (fun e42 =>
       Owp.some (⟨[.res (.one (.dp T22)) y1, .res (.one (.dp T24)) y3, .res (.one (.ow T24 24)) y5, .res (.one (.dp T3)) y7, .cutR 5 ⟨[], [(0, 0), (1, 12)], (tourkeep2_PolySupports.c1p a1 y1 y5 y7), 2, .normal, (tourkeep2_PolySupports.c1q a1 y1 y5 y7 o16), 2⟩, .dec false, .cut ⟨[], [(0, 0), (1, 1)], (tourkeep2_PolySupports.c2p a1 y1 y5 y7 (0 : Int)), 2, (.exit 0), (tourkeep2_PolySupports.c2q y1 y5 (.inr ())), 1⟩, .res (.more (.dp T3) (.one (.dp T3))) y36, .res (.more (.dp T3) (.one (.dp T3))) y38, .dec true, .dec true, .dec true, .dec true, .dec true, .dec true, .dec true, .dec false, .dec false, .dec false], [], via (cutP (And.intro (And.intro (And.intro (And.intro trivial e2) e4) e6) e8) [(0, 0), (1, 12)] (tourkeep2_PolySupports.c1p a1 y1 y5 y7) (((tourkeep2_PolySupports.c1_ok k a1 y1 y5 y7).ap e17)) (cutP (And.intro trivial e18) [(0, 0), (1, 1)] (tourkeep2_PolySupports.c2p a1 y1 y5 y7 (0 : Int)) (((tourkeep2_PolySupports.c2_ok k a1 y1 y5 y7 k (0 : Int)).ap (e31.trans (congrArg some e35))).triple) (retP (And.intro (And.intro (And.intro (And.intro (And.intro (And.intro (And.intro (And.intro (And.intro (And.intro (And.intro (And.intro trivial e37) e39) e40) e40) e40) e41) e41) e41) e41) e42) e42) e42) (.one (.dp T4)) (false : Bool)))) (by kernel_rfl)⟩))) (fun e41 =>
      Owp.some (⟨[.res (.one (.dp T22)) y1, .res (.one (.dp T24)) y3, .res (.one (.ow T24 24)) y5, .res (.one (.dp T3)) y7, .cutR 5 ⟨[], [(0, 0), (1, 12)], (tourkeep2_PolySupports.c1p a1 y1 y5 y7), 2, .normal, (tourkeep2_PolySupports.c1q a1 y1 y5 y7 o16), 2⟩, .dec false, .cut ⟨[], [(0, 0), (1, 1)], (tourkeep2_PolySupports.c2p a1 y1 y5 y7 (0 : Int)), 2, (.exit 0), (tourkeep2_PolySupports.c2q y1 y5 (.inr ())), 1⟩, .res (.more (.dp T3) (.one (.dp T3))) y36, .res (.more (.dp T3) (.one (.dp T3))) y38, .dec true, .dec true, .dec true, .dec false, .dec false, .dec false, .dec false, .dec false, .dec false, .dec false], [], via (cutP (And.intro (And.intro (And.intro (And.intro trivial e2) e4) e6) e8) [(0, 0), (1, 12)] (tourkeep2_PolySupports.c1p a1 y1 y5 y7) (((tourkeep2_PolySupports.c1_ok k a1 y1 y5 y7).ap e17)) (cutP (And.intro trivial e18) [(0, 0), (1, 1)] (tourkeep2_PolySupports.c2p a1 y1 y5 y7 (0 : Int)) (((tourkeep2_PolySupports.c2_ok k a1 y1 y5 y7 k (0 : Int)).ap (e31.trans (congrArg some e35))).triple) (retP (And.intro (And.intro (And.intro (And.intro (And.intro (And.intro (And.intro (And.intro (And.intro (And.intro (And.intro (And.intro trivial e37) e39) e40) e40) e40) e41) e41) e41) e41) ff) ff) ff) (.one (.dp T4)) (false : Bool)))) (by kernel_rfl)⟩))) (fun e40 =>
     Owp.some (⟨[.res (.one (.dp T22)) y1, .res (.one (.dp T24)) y3, .res (.one (.ow T24 24)) y5, .res (.one (.dp T3)) y7, .cutR 5 ⟨[], [(0, 0), (1, 12)], (tourkeep2_PolySupports.c1p a1 y1 y5 y7), 2, .normal, (tourkeep2_PolySupports.c1q a1 y1 y5 y7 o16), 2⟩, .dec false, .cut ⟨[], [(0, 0), (1, 1)], (tourkeep2_PolySupports.c2p a1 y1 y5 y7 (0 : Int)), 2, (.exit 0), (tourkeep2_PolySupports.c2q y1 y5 (.inr ())), 1⟩, .res (.more (.dp T3) (.one (.dp T3))) y36, .res (.more (.dp T3) (.one (.dp T3))) y38, .dec false, .dec false, .dec false, .dec false, .dec false, .dec false, .dec false, .dec false, .dec false, .dec false], [], via (cutP (And.intro (And.intro (And.intro (And.intro trivial e2) e4) e6) e8) [(0, 0), (1, 12)] (tourkeep2_PolySupports.c1p a1 y1 y5 y7) (((tourkeep2_PolySupports.c1_ok k a1 y1 y5 y7).ap e17)) (cutP (And.intro trivial e18) [(0, 0), (1, 1)] (tourkeep2_PolySupports.c2p a1 y1 y5 y7 (0 : Int)) (((tourkeep2_PolySupports.c2_ok k a1 y1 y5 y7 k (0 : Int)).ap (e31.trans (congrArg some e35))).triple) (retP (And.intro (And.intro (And.intro (And.intro (And.intro (And.intro (And.intro (And.intro (And.intro (And.intro (And.intro (And.intro trivial e37) e39) e40) e40) e40) ff) ff) ff) ff) ff) ff) ff) (.one (.dp T4)) (false : Bool)))) (by kernel_rfl)⟩))))
theorem tourkeep2_PolySupports.ok (k : Nat) : FnOk PR 4 (tourkeep2_PolySupports.sp k) :=
  fn_ok (tourkeep2_PolySupports.cok k) hmix Try.func4 (code := tourkeep2_PolySupports.code) (by kernel_rfl) (by kernel_rfl) (by kernel_rfl) rfl (by kernel_rfl) (by kernel_rfl) (by kernel_rfl) (fun x => Nat.le_of_ble_eq_true (by kernel_rfl)) fun x y hy => (tourkeep2_PolySupports.way k x.1 x.2.1 x.2.2.1 x.2.2.2.1 x.2.2.2.2.1).ap hy

/-! tourney/tourkeep2.PolyCut -/
noncomputable def tourkeep2_PolyCut.code : Code := Func.cd Try.f5
def tourkeep2_PolyCut (k : Nat) (a0 : (List Int)) (a1 : Int) : Option Bool :=
  bnd (tourmake_Poly k a0) fun y1 =>
  bnd (tourkeep2_works k) fun y3 =>
  bif' y3
  (bif' (ilt (len y1) 4)
   (some true)
   (bnd (tourmake_Below k a1 (isub .i64 (len y1) 3)) fun y7 =>
    bnd (poly_Area k y1) fun y9 =>
    req (cutOk y1 0 (iadd .i64 (iadd .i64 2 y7) 1)) <|
    bnd (poly_Area k (cut y1 0 (iadd .i64 (iadd .i64 2 y7) 1))) fun y12 =>
    req (inL 0 y1) <|
    req (cutOk y1 (iadd .i64 2 y7) (List.length y1 : Int)) <|
    req (room 16 [(el Z24 y1 0)] (cut y1 (iadd .i64 2 y7) (List.length y1 : Int))) <|
    bnd (poly_Area k ([(el Z24 y1 0)] ++ (cut y1 (iadd .i64 2 y7) (List.length y1 : Int)))) fun y17 =>
    bif' (ieq y9.2 0)
    (bif' (ieq y12.2 0)
     (bif' (ieq y17.2 0)
      (some (ieq (iadd .i64 y12.1 y17.1) y9.1))
      (some false))
     (some false))
    (some false)))
  (some false)
noncomputable def tourkeep2_PolyCut.sp (k : Nat) : Go.Sx.Spec := ⟨(.pair T34 (.pair T3 .unit)), (.one (.dp T4)), fun x => tourkeep2_PolyCut k x.1 x.2.1, false⟩
noncomputable def tourkeep2_PolyCut.cx (k : Nat) : Go.Sx.Ctx := ⟨tys, [(24, tourmake_Poly.sp k), (27, tourkeep2_works.sp k), (30, tourmake_Below.sp k), (17, poly_Area.sp k)], eqs, 67, false⟩
theorem tourkeep2_PolyCut.cok (k : Nat) : CtxOk PR (tourkeep2_PolyCut.cx k) := ctx_ok tysOk eqsOk (FnsOk.cons (tourmake_Poly.ok k) (FnsOk.cons (tourkeep2_works.ok k) (FnsOk.cons (tourmake_Below.ok k) (FnsOk.cons (poly_Area.ok k) FnsOk.nil))))
theorem tourkeep2_PolyCut.way (k : Nat) (a0 : (List Int)) (a1 : Int) : Owp (tourkeep2_PolyCut k a0 a1) fun y => ∃ answers cmds, exec PR (tourkeep2_PolyCut.cx k) tourkeep2_PolyCut.code 0 (entry (.pair T34 (.pair T3 .unit)) (a0, a1, ())).st answers (Ret (tourkeep2_PolyCut.cx k) Try.f5 cmds (.one (.dp T4)) y) := by
  unfold tourkeep2_PolyCut; exact
   Owp.bnd fun y1 e2 =>
   Owp.bnd fun y3 e4 =>
   Owp.bif (fun e5 =>
   Owp.bif (fun e6 =>
    Owp.some (⟨[.res (.one (.dp T22)) y1, .res (.one (.dp T4)) y3, .dec false, .dec true], [], via (retP (And.intro (And.intro (And.intro (And.intro trivial e2) e4) (congrArg not e5)) e6) (.one (.dp T4)) (true : Bool)) (by kernel_rfl)⟩)) (fun e6 =>
    Owp.bnd fun y7 e8 =>
     Owp.bnd fun y9 e10 =>
     Owp.req fun h11 =>
     Owp.bnd fun y12 e13 =>
     Owp.req fun h14 =>
     Owp.req fun h15 =>
     Owp.req fun h16 =>
     Owp.bnd fun y17 e18 =>
     Owp.bif (fun e19 =>
     Owp.bif (fun e20 =>
      Owp.bif (fun e21 =>
       Owp.some (⟨[.res (.one (.dp T22)) y1, .res (.one (.dp T4)) y3, .dec false, .dec false, .res (.one (.dp T3)) y7, .res (.more (.dp T3) (.one (.dp T3))) y9, .res (.more (.dp T3) (.one (.dp T3))) y12, .dec true, .res (.more (.dp T3) (.one (.dp T3))) y17, .dec true, .dec true, .dec true, .dec true, .dec true, .dec true, .dec true, .dec true, .dec true, .dec true, .dec true, .dec true], [], via (retP (And.intro (And.intro (And.intro (And.intro (And.intro (And.intro (And.intro (And.intro (And.intro (And.intro (And.intro (And.intro (And.intro (And.intro (And.intro (And.intro (And.intro (And.intro (And.intro (And.intro (And.intro (And.intro (And.intro (And.intro trivial e2) e4) (congrArg not e5)) e6) e8) e10) h11) e13) h14) h15) h16) e18) e19) e19) e19) e20) e20) e20) e21) e21) e21) e21) e21) e21) (.one (.dp T4)) ((ieq (iadd .i64 y12.1 y17.1) y9.1) : Bool)) (by kernel_rfl)⟩)) (fun e21 =>
       Owp.some (⟨[.res (.one (.dp T22)) y1, .res (.one (.dp T4)) y3, .dec false, .dec false, .res (.one (.dp T3)) y7, .res (.more (.dp T3) (.one (.dp T3))) y9, .res (.more (.dp T3) (.one (.dp T3))) y12, .dec true, .res (.more (.dp T3) (.one (.dp T3))) y17, .dec true, .dec true, .dec true, .dec true, .dec true, .dec true, .dec false, .dec false, .dec false, .dec false, .dec false, .dec false], [], via (retP (And.intro (And.intro (And.intro (And.intro (And.intro (And.intro (And.intro (And.intro (And.intro (And.intro (And.intro (And.intro (And.intro (And.intro (And.intro (And.intro (And.intro (And.intro (And.intro (And.intro (And.intro (And.intro (And.intro (And.intro trivial e2) e4) (congrArg not e5)) e6) e8) e10) h11) e13) h14) h15) h16) e18) e19) e19) e19) e20) e20) e20) e21) e21) e21) e21) e21) e21) (.one (.dp T4)) (false : Bool)) (by kernel_rfl)⟩))) (fun e20 =>
      Owp.some (⟨[.res (.one (.dp T22)) y1, .res (.one (.dp T4)) y3, .dec false, .dec false, .res (.one (.dp T3)) y7, .res (.more (.dp T3) (.one (.dp T3))) y9, .res (.more (.dp T3) (.one (.dp T3))) y12, .dec true, .res (.more (.dp T3) (.one (.dp T3))) y17, .dec true, .dec true, .dec true, .dec false, .dec false, .dec false, .dec false, .dec false, .dec false, .dec false, .dec false, .dec false], [], via (retP (And.intro (And.intro (And.intro (And.intro (And.intro (And.intro (And.intro (And.intro (And.intro (And.intro (And.intro (And.intro (And.intro (And.intro (And.intro (And.intro (And.intro (And.intro (And.intro (And.intro (And.intro (And.intro (And.intro (And.intro trivial e2) e4) (congrArg not e5)) e6) e8) e10) h11) e13) h14) h15) h16) e18) e19) e19) e19) e20) e20) e20) ff) ff) ff) ff) ff) ff) (.one (.dp T4)) (false : Bool)) (by kernel_rfl)⟩))) (fun e19 =>
     Owp.some (⟨[.res (.one (.dp T22)) y1, .res (.one (.dp T4)) y3, .dec false, .dec false, .res (.one (.dp T3)) y7, .res (.more (.dp T3) (.one (.dp T3))) y9, .res (.more (.dp T3) (.one (.dp T3))) y12, .dec true, .res (.more (.dp T3) (.one (.dp T3))) y17, .dec false, .dec false, .dec false, .dec false, .dec false, .dec false, .dec false, .dec false, .dec false, .dec false, .dec false, .dec false], [], via (retP (And.intro (And.intro (And.intro (And.intro (And.intro (And.intro (And.intro (And.intro (And.intro (And.intro (And.intro (And.intro (And.intro (And.intro (And.intro (And.intro (And.intro (And.intro (And.intro (And.intro (And.intro (And.intro (And.intro (And.intro trivial e2) e4) (congrArg not e5)) e6) e8) e10) h11) e13) h14) h15) h16) e18) e19) e19) e19) ff) ff) ff) ff) ff) ff) ff) ff) ff) (.one (.dp T4)) (false : Bool)) (by kernel_rfl)⟩)))) (fun e5 =>
   Owp.some (⟨[.res (.one (.dp T22)) y1, .res (.one (.dp T4)) y3, .dec true], [], via (retP (And.intro (And.intro (And.intro trivial e2) e4) (congrArg not e5)) (.one (.dp T4)) (false : Bool)) (by kernel_rfl)⟩))
theorem tourkeep2_PolyCut.ok (k : Nat) : FnOk PR 5 (tourkeep2_PolyCut.sp k) :=
  fn_ok (tourkeep2_PolyCut.cok k) hmix Try.func5 (code := tourkeep2_PolyCut.code) (by kernel_rfl) (by kernel_rfl) (by kernel_rfl) rfl (by kernel_rfl) (by kernel_rfl) (by kernel_rfl) (fun x => Nat.le_of_ble_eq_true (by kernel_rfl)) fun x y hy => (tourkeep2_PolyCut.way k x.1 x.2.1).ap hy

end Go.Proofs.T1
