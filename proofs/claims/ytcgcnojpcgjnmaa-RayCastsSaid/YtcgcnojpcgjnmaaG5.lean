import Derived.Test.YtcgcnojpcgjnmaaG0
import Derived.Test.YtcgcnojpcgjnmaaG1
import Derived.Test.YtcgcnojpcgjnmaaG2
import Derived.Test.YtcgcnojpcgjnmaaG3
namespace Go.Proofs.T1
open Go Go.Sx Go.Proofs
set_option maxRecDepth 100000
set_option linter.unusedVariables false
/-! tourney/body.within -/
noncomputable def body_within.code : Code := Func.cd Try.f114
def body_within (k : Nat) (a0 : V22) (a1 : Int) : Option Bool :=
  bif' (ige a0.1 (ineg .i64 a1))
  (bif' (ile a0.1 a1)
   (bif' (ige a0.2.1 (ineg .i64 a1))
    (some (ile a0.2.1 a1))
    (some false))
   (some false))
  (some false)
noncomputable def body_within.sp (k : Nat) : Go.Sx.Spec := ⟨(.pair T22 (.pair T2 .unit)), (.one (.dp T4)), fun x => body_within k x.1 x.2.1, false⟩
noncomputable def body_within.cx (k : Nat) : Go.Sx.Ctx := ⟨tys, [], eqs, 29, 0, [], false⟩
theorem body_within.cok (k : Nat) : CtxOk PR (body_within.cx k) := ctx_ok tysOk eqsOk FnsOk.nil HsOk.nil
theorem body_within.way (k : Nat) (a0 : V22) (a1 : Int) : Owp (body_within k a0 a1) fun y => ∃ answers cmds, exec PR (body_within.cx k) body_within.code 0 (entry (.pair T22 (.pair T2 .unit)) (a0, a1, ())).st answers (Ret (body_within.cx k) Try.f114 cmds (.one (.dp T4)) y) := by
  unfold body_within; exact
   Owp.bif (fun e1 =>
   Owp.bif (fun e2 =>
    Owp.bif (fun e3 =>
     Owp.some (⟨[.dec true, .dec true, .dec true, .dec true, .dec true, .dec true, .dec true, .dec true, .dec true, .dec true, .dec true, .dec true, .dec true, .dec true, .dec true, .dec true], [], via (retP (And.intro (And.intro (And.intro (And.intro (And.intro (And.intro (And.intro (And.intro (And.intro (And.intro (And.intro (And.intro (And.intro (And.intro (And.intro (And.intro trivial e1) e1) e1) e1) e1) e2) e2) e2) e2) e2) e2) e3) e3) e3) e3) e3) (.one (.dp T4)) ((ile a0.2.1 a1) : Bool)) (by kernel_rfl)⟩)) (fun e3 =>
     Owp.some (⟨[.dec true, .dec true, .dec true, .dec true, .dec true, .dec true, .dec true, .dec true, .dec true, .dec true, .dec true, .dec false, .dec false, .dec false, .dec false, .dec false], [], via (retP (And.intro (And.intro (And.intro (And.intro (And.intro (And.intro (And.intro (And.intro (And.intro (And.intro (And.intro (And.intro (And.intro (And.intro (And.intro (And.intro trivial e1) e1) e1) e1) e1) e2) e2) e2) e2) e2) e2) e3) e3) e3) e3) e3) (.one (.dp T4)) (false : Bool)) (by kernel_rfl)⟩))) (fun e2 =>
    Owp.some (⟨[.dec true, .dec true, .dec true, .dec true, .dec true, .dec false, .dec false, .dec false, .dec false, .dec false, .dec false, .dec false, .dec false, .dec false, .dec false, .dec false], [], via (retP (And.intro (And.intro (And.intro (And.intro (And.intro (And.intro (And.intro (And.intro (And.intro (And.intro (And.intro (And.intro (And.intro (And.intro (And.intro (And.intro trivial e1) e1) e1) e1) e1) e2) e2) e2) e2) e2) e2) ff) ff) ff) ff) ff) (.one (.dp T4)) (false : Bool)) (by kernel_rfl)⟩))) (fun e1 =>
   Owp.some (⟨[.dec false, .dec false, .dec false, .dec false, .dec false, .dec false, .dec false, .dec false, .dec false, .dec false, .dec false, .dec false, .dec false, .dec false, .dec false, .dec false], [], via (retP (And.intro (And.intro (And.intro (And.intro (And.intro (And.intro (And.intro (And.intro (And.intro (And.intro (And.intro (And.intro (And.intro (And.intro (And.intro (And.intro trivial e1) e1) e1) e1) e1) ff) ff) ff) ff) ff) ff) ff) ff) ff) ff) ff) (.one (.dp T4)) (false : Bool)) (by kernel_rfl)⟩))
theorem body_within.ok (k : Nat) : FnOk PR 114 (body_within.sp k) :=
  fn_ok (body_within.cok k) hmix Try.func114 (code := body_within.code) (by kernel_rfl) (by kernel_rfl) (by kernel_rfl) rfl rfl (by kernel_rfl) (by kernel_rfl) (by kernel_rfl) (fun x => Nat.le_of_ble_eq_true (by kernel_rfl)) fun x y hy => (body_within.way k x.1 x.2.1).ap hy

/-! tourney/body.shape$1 -/
noncomputable def body_shape_1.code : Code := Func.cd Try.f172
def body_shape_1 (k : Nat) (a0 : V22) : Option Bool :=
  bnd (body_within k a0 2097152) fun y1 =>
  some (!y1)
noncomputable def body_shape_1.sp (k : Nat) : Go.Sx.Spec := ⟨(.pair T22 .unit), (.one (.dp T4)), fun x => body_shape_1 k x.1, false⟩
noncomputable def body_shape_1.cx (k : Nat) : Go.Sx.Ctx := ⟨tys, [(114, body_within.sp k)], eqs, 6, 0, [], false⟩
theorem body_shape_1.cok (k : Nat) : CtxOk PR (body_shape_1.cx k) := ctx_ok tysOk eqsOk (FnsOk.cons (body_within.ok k) FnsOk.nil) HsOk.nil
theorem body_shape_1.way (k : Nat) (a0 : V22) : Owp (body_shape_1 k a0) fun y => ∃ answers cmds, exec PR (body_shape_1.cx k) body_shape_1.code 0 (entry (.pair T22 .unit) (a0, ())).st answers (Ret (body_shape_1.cx k) Try.f172 cmds (.one (.dp T4)) y) := by
  unfold body_shape_1; exact
   Owp.bnd fun y1 e2 =>
   Owp.some (⟨[.res (.one (.dp T4)) y1], [], via (retP (And.intro trivial e2) (.one (.dp T4)) ((!y1) : Bool)) (by kernel_rfl)⟩)
theorem body_shape_1.ok (k : Nat) : FnOk PR 172 (body_shape_1.sp k) :=
  fn_ok (body_shape_1.cok k) hmix Try.func172 (code := body_shape_1.code) (by kernel_rfl) (by kernel_rfl) (by kernel_rfl) rfl rfl (by kernel_rfl) (by kernel_rfl) (by kernel_rfl) (fun x => Nat.le_of_ble_eq_true (by kernel_rfl)) fun x y hy => (body_shape_1.way k x.1).ap hy

/-! tourney/body.size -/
noncomputable def body_size.code : Code := Func.cd Try.f200
def body_size (k : Nat) (a0 : V22) : Option Int :=
  some (iadd .i64 (imax a0.1 (ineg .i64 a0.1)) (imax a0.2.1 (ineg .i64 a0.2.1)))
noncomputable def body_size.sp (k : Nat) : Go.Sx.Spec := ⟨(.pair T22 .unit), (.one (.dp T2)), fun x => body_size k x.1, false⟩
noncomputable def body_size.cx (k : Nat) : Go.Sx.Ctx := ⟨tys, [], eqs, 16, 0, [], false⟩
theorem body_size.cok (k : Nat) : CtxOk PR (body_size.cx k) := ctx_ok tysOk eqsOk FnsOk.nil HsOk.nil
theorem body_size.way (k : Nat) (a0 : V22) : Owp (body_size k a0) fun y => ∃ answers cmds, exec PR (body_size.cx k) body_size.code 0 (entry (.pair T22 .unit) (a0, ())).st answers (Ret (body_size.cx k) Try.f200 cmds (.one (.dp T2)) y) := by
  unfold body_size; exact
   Owp.some (⟨[], [], via (retP trivial (.one (.dp T2)) ((iadd .i64 (imax a0.1 (ineg .i64 a0.1)) (imax a0.2.1 (ineg .i64 a0.2.1))) : Int)) (by kernel_rfl)⟩)
theorem body_size.ok (k : Nat) : FnOk PR 200 (body_size.sp k) :=
  fn_ok (body_size.cok k) hmix Try.func200 (code := body_size.code) (by kernel_rfl) (by kernel_rfl) (by kernel_rfl) rfl rfl (by kernel_rfl) (by kernel_rfl) (by kernel_rfl) (fun x => Nat.le_of_ble_eq_true (by kernel_rfl)) fun x y hy => (body_size.way k x.1).ap hy

/-! tourney/body.fat -/
noncomputable def body_fat.code : Code := Func.cd Try.f173
def body_fat.c3 (k : Nat) (a0 : (List V22)) (v1 : Int) (v6 : Int) : Option (Bool) :=
  bif' (ine v6 v1)
  (req (nz (len a0)) <|
   bif' (ine v6 (irem (iadd .i64 v1 1) (len a0)))
   (bnd (body_size k ((isub .i64 (el Z22 a0 (irem (iadd .i64 v1 1) (len a0))).1 (el Z22 a0 v1).1), (isub .i64 (el Z22 a0 (irem (iadd .i64 v1 1) (len a0))).2.1 (el Z22 a0 v1).2.1), ())) fun y12 =>
    bnd (body_size k ((isub .i64 (el Z22 a0 v6).1 (el Z22 a0 v1).1), (isub .i64 (el Z22 a0 v6).2.1 (el Z22 a0 v1).2.1), ())) fun y14 =>
    some (ilt (isub .i64 (imul .i64 (isub .i64 (el Z22 a0 (irem (iadd .i64 v1 1) (len a0))).1 (el Z22 a0 v1).1) (isub .i64 (el Z22 a0 v6).2.1 (el Z22 a0 v1).2.1)) (imul .i64 (isub .i64 (el Z22 a0 (irem (iadd .i64 v1 1) (len a0))).2.1 (el Z22 a0 v1).2.1) (isub .i64 (el Z22 a0 v6).1 (el Z22 a0 v1).1))) (imul .i64 8 (iadd .i64 y12 y14))))
   (some false))
  (some false)
def body_fat.c2 (k : Nat) (a0 : (List V22)) (v1 : Int) : Nat → Int → Option (Unit ⊕ Unit)
  | 0, _ => none
  | n + 1, v6 =>
   bif' (ilt v6 (len a0))
   (req (inL v6 a0) <|
    bnd (body_fat.c3 k a0 v1 v6) fun o16 =>
    bif' o16
    (some (.inl ()))
    (body_fat.c2 k a0 v1 n (iadd .i64 v6 1)))
   (some (.inr ()))
def body_fat.c1 (k : Nat) (a0 : (List V22)) : Nat → Int → Option (Unit ⊕ Unit)
  | 0, _ => none
  | n + 1, v1 =>
   bif' (ilt v1 (len a0))
   (req (inL v1 a0) <|
    req (nz (len a0)) <|
    req (inL (irem (iadd .i64 v1 1) (len a0)) a0) <|
    bnd (body_fat.c2 k a0 v1 k 0) fun o19 =>
    two o19 (fun y21 =>
    some (.inl ())) (fun y23 =>
    body_fat.c1 k a0 n (iadd .i64 v1 1)))
   (some (.inr ()))
def body_fat (k : Nat) (a0 : (List V22)) : Option Bool :=
  bnd (body_fat.c1 k a0 k 0) fun o25 =>
  two o25 (fun y27 =>
  some false) (fun y29 =>
  some true)
noncomputable def body_fat.sp (k : Nat) : Go.Sx.Spec := ⟨(.pair T24 .unit), (.one (.dp T4)), fun x => body_fat k x.1, false⟩
noncomputable def body_fat.cx (k : Nat) : Go.Sx.Ctx := ⟨tys, [(200, body_size.sp k)], eqs, 88, 0, [], false⟩
theorem body_fat.cok (k : Nat) : CtxOk PR (body_fat.cx k) := ctx_ok tysOk eqsOk (FnsOk.cons (body_size.ok k) FnsOk.nil) HsOk.nil
noncomputable def body_fat.c3p (a0 : (List V22)) (v1 : Int) (v6 : Int) : SL := ⟨[(0, (.val T24 a0)), (3, (.val T2 v1)), (4, (.val .ptr ⟨0, 0, (0 : Int), 0, 0⟩)), (6, (.val .ptr ⟨1, 0, (0 : Int), 0, 0⟩)), (7, (.val T2 v6)), (9, (.val .ptr ⟨2, 0, (0 : Int), 0, 0⟩)), (10, (.val T24 a0)), (11, (.val T2 (len a0))), (12, (.val T2 v1)), (36, (.val T24 a0)), (37, (.val T2 (len a0))), (38, (.val T2 v6))], [(0, .cells T22 (el Z22 a0 v1)), (1, .cells T22 ((isub .i64 (el Z22 a0 (irem (iadd .i64 v1 (1 : Int)) (len a0))).1 (el Z22 a0 v1).1), (isub .i64 (el Z22 a0 (irem (iadd .i64 v1 (1 : Int)) (len a0))).2.1 (el Z22 a0 v1).2.1), ())), (2, .cells T22 ((isub .i64 (el Z22 a0 v6).1 (el Z22 a0 v1).1), (isub .i64 (el Z22 a0 v6).2.1 (el Z22 a0 v1).2.1), ()))]⟩
noncomputable def body_fat.c3q (a0 : (List V22)) (v1 : Int) (v6 : Int) (o : Bool) : SL := (fun v => ⟨[(0, (.val T24 a0)), (3, (.val T2 v1)), (4, (.val .ptr ⟨0, 0, (0 : Int), 0, 0⟩)), (6, (.val .ptr ⟨1, 0, (0 : Int), 0, 0⟩)), (10, (.val T24 a0)), (11, (.val T2 (len a0))), (12, (.val T2 v1)), (36, (.val T24 a0)), (37, (.val T2 (len a0))), (38, (.val T2 v6)), (85, (.val T4 v))], [(0, .cells T22 (el Z22 a0 v1)), (1, .cells T22 ((isub .i64 (el Z22 a0 (irem (iadd .i64 v1 (1 : Int)) (len a0))).1 (el Z22 a0 v1).1), (isub .i64 (el Z22 a0 (irem (iadd .i64 v1 (1 : Int)) (len a0))).2.1 (el Z22 a0 v1).2.1), ()))]⟩) o
noncomputable def body_fat.c3x (o : Bool) : Ex := (fun _ => .normal) o
noncomputable def body_fat.c3n (o : Bool) : Nat := (fun _ => 2) o
theorem body_fat.c3_ok (k : Nat) (a0 : (List V22)) (v1 : Int) (v6 : Int) : Owp (body_fat.c3 k a0 v1 v6) fun o => Triple PR (body_fat.cx k) (sub body_fat.code [1, 0, 1, 0, 0, 1, 1, 0, 0, 1, 1, 1, 1, 0, 0, 1, 1, 0, 0, 1, 1, 0]) 3 (body_fat.c3p a0 v1 v6) (body_fat.c3x o) (body_fat.c3n o) (body_fat.c3q a0 v1 v6 o) := by
  unfold body_fat.c3; exact
   Owp.bif (fun e9 =>
   Owp.req fun h10 =>
    Owp.bif (fun e11 =>
    Owp.bnd fun y12 e13 =>
     Owp.bnd fun y14 e15 =>
     Owp.some (triple_way (body_fat.cok k) hmix [.dec true, .dec true, .dec true, .dec true, .dec true, .dec true, .dec true, .dec true, .dec true, .dec true, .dec true, .dec true, .dec true, .dec true, .dec true, .dec true, .dec true, .dec true, .dec true, .dec true, .dec true, .res (.one (.dp T2)) y12, .dec true, .dec true, .res (.one (.dp T2)) y14, .dec true, .dec true, .dec true, .dec true] [] [(0, 0), (1, 1)] (via (finP (And.intro (And.intro (And.intro (And.intro (And.intro (And.intro (And.intro (And.intro (And.intro (And.intro (And.intro (And.intro (And.intro (And.intro (And.intro (And.intro (And.intro (And.intro (And.intro (And.intro (And.intro (And.intro (And.intro (And.intro (And.intro (And.intro (And.intro trivial e9) e9) e9) e9) e9) (And.intro e9 h10)) e9) e9) e11) e11) e11) e11) e11) e11) e11) e11) e11) e11) e11) e11) (And.intro e11 e13)) e11) (And.intro e11 e15)) e11) e11) e11) e11) .normal [(0, 0), (1, 1)] (body_fat.c3q a0 v1 v6 (ilt (isub .i64 (imul .i64 (isub .i64 (el Z22 a0 (irem (iadd .i64 v1 (1 : Int)) (len a0))).1 (el Z22 a0 v1).1) (isub .i64 (el Z22 a0 v6).2.1 (el Z22 a0 v1).2.1)) (imul .i64 (isub .i64 (el Z22 a0 (irem (iadd .i64 v1 (1 : Int)) (len a0))).2.1 (el Z22 a0 v1).2.1) (isub .i64 (el Z22 a0 v6).1 (el Z22 a0 v1).1))) (imul .i64 (8 : Int) (iadd .i64 y12 y14))))) (by kernel_rfl)))) (fun e11 =>
    Owp.some (triple_way (body_fat.cok k) hmix [.dec true, .dec true, .dec true, .dec true, .dec true, .dec true, .dec true, .dec true, .dec false, .dec false, .dec false, .dec false, .dec false, .dec false, .dec false, .dec false, .dec false, .dec false, .dec false, .dec false, .dec false, .dec true, .dec false, .dec false, .dec true, .dec false, .dec false, .dec false, .dec false] [] [(0, 0), (1, 1)] (via (finP (And.intro (And.intro (And.intro (And.intro (And.intro (And.intro (And.intro (And.intro (And.intro (And.intro (And.intro (And.intro (And.intro (And.intro (And.intro (And.intro (And.intro (And.intro (And.intro (And.intro (And.intro (And.intro (And.intro (And.intro (And.intro (And.intro (And.intro trivial e9) e9) e9) e9) e9) (And.intro e9 h10)) e9) e9) e11) e11) e11) e11) e11) e11) e11) e11) e11) e11) e11) e11) e11) e11) e11) e11) e11) e11) e11) .normal [(0, 0), (1, 1)] (body_fat.c3q a0 v1 v6 false)) (by kernel_rfl))))) (fun e9 =>
   Owp.some (triple_way (body_fat.cok k) hmix [.dec false, .dec false, .dec false, .dec false, .dec false, .dec false, .dec false, .dec false, .dec false, .dec false, .dec false, .dec false, .dec false, .dec false, .dec false, .dec false, .dec false, .dec false, .dec false, .dec false, .dec false, .dec true, .dec false, .dec false, .dec true, .dec false, .dec false, .dec false, .dec false] [] [(0, 0), (1, 1)] (via (finP (And.intro (And.intro (And.intro (And.intro (And.intro (And.intro (And.intro (And.intro (And.intro (And.intro (And.intro (And.intro (And.intro (And.intro (And.intro (And.intro (And.intro (And.intro (And.intro (And.intro (And.intro (And.intro (And.intro (And.intro (And.intro (And.intro (And.intro trivial e9) e9) e9) e9) e9) e9) e9) e9) ff) ff) ff) ff) ff) ff) ff) ff) ff) ff) ff) ff) ff) ff) ff) ff) ff) ff) ff) .normal [(0, 0), (1, 1)] (body_fat.c3q a0 v1 v6 false)) (by kernel_rfl))))
noncomputable def body_fat.c2p (a0 : (List V22)) (v1 : Int) (v6 : Int) : SL := ⟨[(0, (.val T24 a0)), (3, (.val T2 v1)), (4, (.val .ptr ⟨0, 0, (0 : Int), 0, 0⟩)), (6, (.val .ptr ⟨1, 0, (0 : Int), 0, 0⟩)), (10, (.val T24 a0)), (11, (.val T2 (len a0))), (12, (.val T2 v1)), (36, (.val T24 a0)), (37, (.val T2 (len a0))), (38, (.val T2 v6))], [(0, .cells T22 (el Z22 a0 v1)), (1, .cells T22 ((isub .i64 (el Z22 a0 (irem (iadd .i64 v1 (1 : Int)) (len a0))).1 (el Z22 a0 v1).1), (isub .i64 (el Z22 a0 (irem (iadd .i64 v1 (1 : Int)) (len a0))).2.1 (el Z22 a0 v1).2.1), ()))]⟩
noncomputable def body_fat.c2q (a0 : (List V22)) (v1 : Int) (o : Unit ⊕ Unit) : SL := (fun o => two o (fun v => ⟨[(2, (.val T4 false))], []⟩) (fun v => ⟨[(0, (.val T24 a0)), (10, (.val T24 a0)), (11, (.val T2 (len a0))), (12, (.val T2 v1))], []⟩)) o
noncomputable def body_fat.c2x (o : Unit ⊕ Unit) : Ex := (fun o => two o (fun _ => .ret) (fun _ => (.exit 2))) o
noncomputable def body_fat.c2n (o : Unit ⊕ Unit) : Nat := (fun o => two o (fun _ => 0) (fun _ => 0)) o
theorem body_fat.c2_ok (k : Nat) (a0 : (List V22)) (v1 : Int) : ∀ (n : Nat) (v6 : Int), Owp (body_fat.c2 k a0 v1 n v6) fun o => LTriple PR (body_fat.cx k) (sub body_fat.code [1, 0, 1, 0, 0, 1, 1, 0, 0, 1, 1, 1, 1, 0, 0]) 2 (body_fat.c2p a0 v1 v6) (body_fat.c2x o) (body_fat.c2n o) (body_fat.c2q a0 v1 o)
  | 0, _ => fun _ h => nomatch h
  | n + 1, v6 => Owp.of (body_fat.c2.eq_2 ..) (
   Owp.bif (fun e7 =>
   Owp.req fun h8 =>
    Owp.bnd fun o16 e17 =>
    Owp.bif (fun e18 =>
    Owp.some (loop_exit (body_fat.cok k) hmix [.dec true, .cutR 10 ⟨[], [(0, 0), (1, 1), (2, 20)], (body_fat.c3p a0 v1 v6), 3, .normal, (body_fat.c3q a0 v1 v6 o16), 2⟩, .dec true] [] [] exne_ret (via (cutP (And.intro (And.intro trivial e7) h8) [(0, 0), (1, 1), (2, 20)] (body_fat.c3p a0 v1 v6) (((body_fat.c3_ok k a0 v1 v6).ap e17)) (finP (And.intro trivial e18) .ret [] (body_fat.c2q a0 v1 (.inl ())))) (by kernel_rfl)))) (fun e18 =>
    fun y hy => loop_back (body_fat.cok k) hmix 2 (body_fat.c2p a0 v1 (iadd .i64 v6 (1 : Int))) [.dec true, .cutR 10 ⟨[], [(0, 0), (1, 1), (2, 20)], (body_fat.c3p a0 v1 v6), 3, .normal, (body_fat.c3q a0 v1 v6 o16), 2⟩, .dec false] [] [(0, 0), (1, 1)] (via (cutP (And.intro (And.intro trivial e7) h8) [(0, 0), (1, 1), (2, 20)] (body_fat.c3p a0 v1 v6) (((body_fat.c3_ok k a0 v1 v6).ap e17)) (finP (And.intro trivial e18) .normal [(0, 0), (1, 1)] (body_fat.c2p a0 v1 (iadd .i64 v6 (1 : Int))))) (by kernel_rfl)) ((body_fat.c2_ok k a0 v1 n (iadd .i64 v6 (1 : Int))).ap hy))) (fun e7 =>
   Owp.some (loop_exit (body_fat.cok k) hmix [.dec false] [] [] (exne 2) (via (finP (And.intro trivial e7) (.exit 2) [] (body_fat.c2q a0 v1 (.inr ()))) (by kernel_rfl)))))
noncomputable def body_fat.c1p (a0 : (List V22)) (v1 : Int) : SL := ⟨[(0, (.val T24 a0)), (10, (.val T24 a0)), (11, (.val T2 (len a0))), (12, (.val T2 v1))], []⟩
noncomputable def body_fat.c1q (o : Unit ⊕ Unit) : SL := (fun o => two o (fun v => ⟨[(2, (.val T4 false))], []⟩) (fun v => ⟨[], []⟩)) o
noncomputable def body_fat.c1x (o : Unit ⊕ Unit) : Ex := (fun o => two o (fun _ => .ret) (fun _ => (.exit 0))) o
noncomputable def body_fat.c1n (o : Unit ⊕ Unit) : Nat := (fun o => two o (fun _ => 0) (fun _ => 0)) o
theorem body_fat.c1_ok (k : Nat) (a0 : (List V22)) : ∀ (n : Nat) (v1 : Int), Owp (body_fat.c1 k a0 n v1) fun o => LTriple PR (body_fat.cx k) (sub body_fat.code [1, 0, 1, 0, 0]) 0 (body_fat.c1p a0 v1) (body_fat.c1x o) (body_fat.c1n o) (body_fat.c1q o)
  | 0, _ => fun _ h => nomatch h
  | n + 1, v1 => Owp.of (body_fat.c1.eq_2 ..) (
   Owp.bif (fun e2 =>
   Owp.req fun h3 =>
    Owp.req fun h4 =>
    Owp.req fun h5 =>
    Owp.bnd fun o19 e20 =>
    Owp.two (fun y21 e22 =>
    Owp.some (loop_exit (body_fat.cok k) hmix [.dec true, .cut ⟨[], [(0, 4), (1, 28)], (body_fat.c2p a0 v1 (0 : Int)), 2, .ret, (body_fat.c2q a0 v1 (.inl ())), 0⟩] [] [] exne_ret (via (cutP (And.intro (And.intro (And.intro (And.intro trivial e2) h3) h4) h5) [(0, 4), (1, 28)] (body_fat.c2p a0 v1 (0 : Int)) (((body_fat.c2_ok k a0 v1 k (0 : Int)).ap (e20.trans (congrArg some e22))).triple) (finP trivial .ret [] (body_fat.c1q (.inl ())))) (by kernel_rfl)))) (fun y23 e24 =>
    fun y hy => loop_back (body_fat.cok k) hmix 0 (body_fat.c1p a0 (iadd .i64 v1 (1 : Int))) [.dec true, .cut ⟨[], [(0, 4), (1, 28)], (body_fat.c2p a0 v1 (0 : Int)), 2, (.exit 2), (body_fat.c2q a0 v1 (.inr ())), 0⟩] [] [] (via (cutP (And.intro (And.intro (And.intro (And.intro trivial e2) h3) h4) h5) [(0, 4), (1, 28)] (body_fat.c2p a0 v1 (0 : Int)) (((body_fat.c2_ok k a0 v1 k (0 : Int)).ap (e20.trans (congrArg some e24))).triple) (finP trivial .normal [] (body_fat.c1p a0 (iadd .i64 v1 (1 : Int))))) (by kernel_rfl)) ((body_fat.c1_ok k a0 n (iadd .i64 v1 (1 : Int))).ap hy))) (fun e2 =>
   Owp.some (loop_exit (body_fat.cok k) hmix [.dec false] [] [] (exne 0) (via (finP (And.intro trivial e2) (.exit 0) [] (body_fat.c1q (.inr ()))) (by kernel_rfl)))))
theorem body_fat.way (k : Nat) (a0 : (List V22)) : Owp (body_fat k a0) fun y => ∃ answers cmds, exec PR (body_fat.cx k) body_fat.code 0 (entry (.pair T24 .unit) (a0, ())).st answers (Ret (body_fat.cx k) Try.f173 cmds (.one (.dp T4)) y) := by
  unfold body_fat; exact
   Owp.bnd fun o25 e26 =>
   Owp.two (fun y27 e28 =>
   Owp.some (⟨[.cut ⟨[], [], (body_fat.c1p a0 (0 : Int)), 0, .ret, (body_fat.c1q (.inl ())), 0⟩], [], via (cutP trivial [] (body_fat.c1p a0 (0 : Int)) (((body_fat.c1_ok k a0 k (0 : Int)).ap (e26.trans (congrArg some e28))).triple) (retP trivial (.one (.dp T4)) (false : Bool))) (by kernel_rfl)⟩)) (fun y29 e30 =>
   Owp.some (⟨[.cut ⟨[], [], (body_fat.c1p a0 (0 : Int)), 0, (.exit 0), (body_fat.c1q (.inr ())), 0⟩], [], via (cutP trivial [] (body_fat.c1p a0 (0 : Int)) (((body_fat.c1_ok k a0 k (0 : Int)).ap (e26.trans (congrArg some e30))).triple) (retP trivial (.one (.dp T4)) (true : Bool))) (by kernel_rfl)⟩))
theorem body_fat.ok (k : Nat) : FnOk PR 173 (body_fat.sp k) :=
  fn_ok (body_fat.cok k) hmix Try.func173 (code := body_fat.code) (by kernel_rfl) (by kernel_rfl) (by kernel_rfl) rfl rfl (by kernel_rfl) (by kernel_rfl) (by kernel_rfl) (fun x => Nat.le_of_ble_eq_true (by kernel_rfl)) fun x y hy => (body_fat.way k x.1).ap hy

/-! tourney/body.shape -/
noncomputable def body_shape.code : Code := Func.cd Try.f112
def body_shape.c1 (k : Nat) (a0 : (List V22)) : Option (Bool) :=
  bnd (body_fat k a0) fun y7 =>
  bif' y7
  (bnd (poly_Has k a0 (0, 0, ())) fun y10 =>
   some (!y10))
  (some true)
def body_shape (k : Nat) (a0 : (List V22)) : Option Int :=
  bnd (poly_Check k a0) fun y1 =>
  bif' (ine y1 0)
  (some y1)
  (bnd (slices_ContainsFunc k a0 (fun x : (V22 × Unit) => body_shape_1 k (x.1))) fun y4 =>
   bif' y4
   (some 1)
   (bnd (body_shape.c1 k a0) fun o12 =>
    bif' o12
    (some 3)
    (some 0)))
noncomputable def body_shape.sp (k : Nat) : Go.Sx.Spec := ⟨(.pair T24 .unit), (.one (.dp T2)), fun x => body_shape k x.1, false⟩
noncomputable def body_shape.cx (k : Nat) : Go.Sx.Ctx := ⟨tys, [(39, poly_Check.sp k), (108, slices_ContainsFunc.sp k), (172, body_shape_1.sp k), (173, body_fat.sp k), (174, poly_Has.sp k)], eqs, 20, 0, [], false⟩
theorem body_shape.cok (k : Nat) : CtxOk PR (body_shape.cx k) := ctx_ok tysOk eqsOk (FnsOk.cons (poly_Check.ok k) (FnsOk.cons (slices_ContainsFunc.ok k) (FnsOk.cons (body_shape_1.ok k) (FnsOk.cons (body_fat.ok k) (FnsOk.cons (poly_Has.ok k) FnsOk.nil))))) HsOk.nil
noncomputable def body_shape.c1p (a0 : (List V22)) : SL := ⟨[(0, (.val T24 a0))], []⟩
noncomputable def body_shape.c1q (o : Bool) : SL := (fun v => ⟨[(19, (.val T4 v))], []⟩) o
noncomputable def body_shape.c1x (o : Bool) : Ex := (fun _ => .normal) o
noncomputable def body_shape.c1n (o : Bool) : Nat := (fun _ => 0) o
theorem body_shape.c1_ok (k : Nat) (a0 : (List V22)) : Owp (body_shape.c1 k a0) fun o => Triple PR (body_shape.cx k) (sub body_shape.code [1, 1, 1, 0, 0]) 0 (body_shape.c1p a0) (body_shape.c1x o) (body_shape.c1n o) (body_shape.c1q o) := by
  unfold body_shape.c1; exact
   Owp.bnd fun y7 e8 =>
   Owp.bif (fun e9 =>
   Owp.bnd fun y10 e11 =>
    Owp.some (triple_way (body_shape.cok k) hmix [.res (.one (.dp T4)) y7, .dec false, .dec false, .dec false, .res (.one (.dp T4)) y10, .dec false, .dec false] [] [] (via (finP (And.intro (And.intro (And.intro (And.intro (And.intro (And.intro trivial e8) (congrArg not e9)) (congrArg not e9)) (And.intro (congrArg not e9) e11)) (congrArg not e9)) (congrArg not e9)) .normal [] (body_shape.c1q (!y10))) (by kernel_rfl)))) (fun e9 =>
   Owp.some (triple_way (body_shape.cok k) hmix [.res (.one (.dp T4)) y7, .dec true, .dec true, .dec true, .dec true, .dec true, .dec true] [] [] (via (finP (And.intro (And.intro (And.intro (And.intro (And.intro (And.intro trivial e8) (congrArg not e9)) (congrArg not e9)) (congrArg not e9)) (congrArg not e9)) (congrArg not e9)) .normal [] (body_shape.c1q true)) (by kernel_rfl))))
theorem body_shape.way (k : Nat) (a0 : (List V22)) : Owp (body_shape k a0) fun y => ∃ answers cmds, exec PR (body_shape.cx k) body_shape.code 0 (entry (.pair T24 .unit) (a0, ())).st answers (Ret (body_shape.cx k) Try.f112 cmds (.one (.dp T2)) y) := by
  unfold body_shape; exact
   Owp.bnd fun y1 e2 =>
   Owp.bif (fun e3 =>
   Owp.some (⟨[.res (.one (.dp T2)) y1, .dec true], [], via (retP (And.intro (And.intro trivial e2) e3) (.one (.dp T2)) (y1 : Int)) (by kernel_rfl)⟩)) (fun e3 =>
   Owp.bnd fun y4 e5 =>
    Owp.bif (fun e6 =>
    Owp.some (⟨[.res (.one (.dp T2)) y1, .dec false, .res (.one (.dp T4)) y4, .dec true], [], via (retP (And.intro (And.intro (And.intro (And.intro trivial e2) e3) e5) e6) (.one (.dp T2)) ((1 : Int) : Int)) (by kernel_rfl)⟩)) (fun e6 =>
    Owp.bnd fun o12 e13 =>
     Owp.bif (fun e14 =>
     Owp.some (⟨[.res (.one (.dp T2)) y1, .dec false, .res (.one (.dp T4)) y4, .dec false, .cutR 6 ⟨[], [], (body_shape.c1p a0), 0, .normal, (body_shape.c1q o12), 0⟩, .dec true], [], via (cutP (And.intro (And.intro (And.intro (And.intro trivial e2) e3) e5) e6) [] (body_shape.c1p a0) (((body_shape.c1_ok k a0).ap e13)) (retP (And.intro trivial e14) (.one (.dp T2)) ((3 : Int) : Int))) (by kernel_rfl)⟩)) (fun e14 =>
     Owp.some (⟨[.res (.one (.dp T2)) y1, .dec false, .res (.one (.dp T4)) y4, .dec false, .cutR 6 ⟨[], [], (body_shape.c1p a0), 0, .normal, (body_shape.c1q o12), 0⟩, .dec false], [], via (cutP (And.intro (And.intro (And.intro (And.intro trivial e2) e3) e5) e6) [] (body_shape.c1p a0) (((body_shape.c1_ok k a0).ap e13)) (retP (And.intro trivial e14) (.one (.dp T2)) ((0 : Int) : Int))) (by kernel_rfl)⟩))))
theorem body_shape.ok (k : Nat) : FnOk PR 112 (body_shape.sp k) :=
  fn_ok (body_shape.cok k) hmix Try.func112 (code := body_shape.code) (by kernel_rfl) (by kernel_rfl) (by kernel_rfl) rfl rfl (by kernel_rfl) (by kernel_rfl) (by kernel_rfl) (fun x => Nat.le_of_ble_eq_true (by kernel_rfl)) fun x y hy => (body_shape.way k x.1).ap hy

/-! tourney/body.Check$1 -/
noncomputable def body_Check_1.code : Code := Func.cd Try.f113
def body_Check_1 (k : Nat) (a0 : Int) (a1 : Int) (a2 : Int) : Option Bool :=
  bif' (ige a0 a1)
  (some (ile a0 a2))
  (some false)
noncomputable def body_Check_1.sp (k : Nat) : Go.Sx.Spec := ⟨(.pair T2 T22), (.one (.dp T4)), fun x => body_Check_1 k x.1 x.2.1 x.2.2.1, false⟩
noncomputable def body_Check_1.cx (k : Nat) : Go.Sx.Ctx := ⟨tys, [], eqs, 15, 0, [], false⟩
theorem body_Check_1.cok (k : Nat) : CtxOk PR (body_Check_1.cx k) := ctx_ok tysOk eqsOk FnsOk.nil HsOk.nil
theorem body_Check_1.way (k : Nat) (a0 : Int) (a1 : Int) (a2 : Int) : Owp (body_Check_1 k a0 a1 a2) fun y => ∃ answers cmds, exec PR (body_Check_1.cx k) body_Check_1.code 0 (entry (.pair T2 T22) (a0, a1, a2, ())).st answers (Ret (body_Check_1.cx k) Try.f113 cmds (.one (.dp T4)) y) := by
  unfold body_Check_1; exact
   Owp.bif (fun e1 =>
   Owp.some (⟨[.dec true, .dec true, .dec true, .dec true], [], via (retP (And.intro (And.intro (And.intro (And.intro trivial e1) e1) e1) e1) (.one (.dp T4)) ((ile a0 a2) : Bool)) (by kernel_rfl)⟩)) (fun e1 =>
   Owp.some (⟨[.dec false, .dec false, .dec false, .dec false], [], via (retP (And.intro (And.intro (And.intro (And.intro trivial e1) e1) e1) e1) (.one (.dp T4)) (false : Bool)) (by kernel_rfl)⟩))
theorem body_Check_1.ok (k : Nat) : FnOk PR 113 (body_Check_1.sp k) :=
  fn_ok (body_Check_1.cok k) hmix Try.func113 (code := body_Check_1.code) (by kernel_rfl) (by kernel_rfl) (by kernel_rfl) rfl rfl (by kernel_rfl) (by kernel_rfl) (by kernel_rfl) (fun x => Nat.le_of_ble_eq_true (by kernel_rfl)) fun x y hy => (body_Check_1.way k x.1 x.2.1 x.2.2.1).ap hy

/-! tourney/body.Check -/
noncomputable def body_Check.code : Code := Func.cd Try.f41
def body_Check.c1 (k : Nat) (a0 : V25) : Option (Bool) :=
  bnd (body_within k a0.1 58982400) fun y4 =>
  bif' y4
  (bnd (body_within k a0.2.1 268435456) fun y7 =>
   bif' y7
   (bnd (body_Check_1 k a0.2.2.2.1 (-16777216) 16777216) fun y10 =>
    bif' y10
    (bnd (body_Check_1 k a0.2.2.1 0 65535) fun y13 =>
     some (!y13))
    (some true))
   (some true))
  (some true)
def body_Check.c2 (k : Nat) (a0 : V25) : Option (Bool) :=
  bnd (body_Check_1 k a0.2.2.2.2.1 0 1099511627776) fun y18 =>
  bif' y18
  (bnd (body_Check_1 k a0.2.2.2.2.2.1 0 1099511627776) fun y21 =>
   bif' y21
   (bnd (body_Check_1 k a0.2.2.2.2.2.2.1 0 65536) fun y24 =>
    bif' y24
    (bnd (body_Check_1 k a0.2.2.2.2.2.2.2.1 0 65536) fun y27 =>
     bif' y27
     (bnd (body_Check_1 k a0.2.2.2.2.2.2.2.2.2.2.1 0 1000) fun y30 =>
      some (!y30))
     (some true))
    (some true))
   (some true))
  (some true)
def body_Check.c3 (k : Nat) (a0 : V25) : Option (Bool) :=
  bif' (Ty.eqb T22 a0.2.1 ((0 : Int), (0 : Int), ()))
  (some (ieq a0.2.2.2.1 0))
  (some false)
def body_Check.c4 (k : Nat) (a0 : V25) (o36 : Bool) : Option (Bool) :=
  bif' (Ty.eqb T4 (ieq a0.2.2.2.2.1 (0 : Int)) (ieq a0.2.2.2.2.2.1 (0 : Int)))
  (bif' (ieq a0.2.2.2.2.1 0)
   (bif' o36
    (bif' a0.2.2.2.2.2.2.2.2.2.1
     (some true)
     (bif' (ine a0.2.2.2.2.2.2.2.2.2.2.1 0)
      (some true)
      (some false)))
    (some true))
   (bif' a0.2.2.2.2.2.2.2.2.2.1
    (some (!o36))
    (some false)))
  (some true)
def body_Check (k : Nat) (a0 : V25) : Option Int :=
  bnd (body_shape k a0.2.2.2.2.2.2.2.2.1) fun y1 =>
  bif' (ine y1 0)
  (some y1)
  (bnd (body_Check.c1 k a0) fun o15 =>
   bif' o15
   (some 1)
   (bnd (body_Check.c2 k a0) fun o32 =>
    bif' o32
    (some 1)
    (bnd (body_Check.c3 k a0) fun o36 =>
     bnd (body_Check.c4 k a0 o36) fun o44 =>
     bif' o44
     (some 3)
     (some 0))))
noncomputable def body_Check.sp (k : Nat) : Go.Sx.Spec := ⟨(.pair T25 .unit), (.one (.dp T2)), fun x => body_Check k x.1, false⟩
noncomputable def body_Check.cx (k : Nat) : Go.Sx.Ctx := ⟨tys, [(112, body_shape.sp k), (114, body_within.sp k), (113, body_Check_1.sp k)], eqs, 111, 0, [], false⟩
theorem body_Check.cok (k : Nat) : CtxOk PR (body_Check.cx k) := ctx_ok tysOk eqsOk (FnsOk.cons (body_shape.ok k) (FnsOk.cons (body_within.ok k) (FnsOk.cons (body_Check_1.ok k) FnsOk.nil))) HsOk.nil
noncomputable def body_Check.c1p (a0 : V25) : SL := ⟨[(1, (.val .ptr ⟨0, 0, (0 : Int), 0, 0⟩)), (4, (.val .clo (113, [])))], [(0, .cells T25 a0)]⟩
noncomputable def body_Check.c1q (a0 : V25) (o : Bool) : SL := (fun v => ⟨[(1, (.val .ptr ⟨0, 0, (0 : Int), 0, 0⟩)), (4, (.val .clo (113, []))), (35, (.val T4 v))], [(0, .cells T25 a0)]⟩) o
noncomputable def body_Check.c1x (o : Bool) : Ex := (fun _ => .normal) o
noncomputable def body_Check.c1n (o : Bool) : Nat := (fun _ => 1) o
theorem body_Check.c1_ok (k : Nat) (a0 : V25) : Owp (body_Check.c1 k a0) fun o => Triple PR (body_Check.cx k) (sub body_Check.code [1, 1, 1, 0, 0]) 1 (body_Check.c1p a0) (body_Check.c1x o) (body_Check.c1n o) (body_Check.c1q a0 o) := by
  unfold body_Check.c1; exact
   Owp.bnd fun y4 e5 =>
   Owp.bif (fun e6 =>
   Owp.bnd fun y7 e8 =>
    Owp.bif (fun e9 =>
    Owp.bnd fun y10 e11 =>
     Owp.bif (fun e12 =>
     Owp.bnd fun y13 e14 =>
      Owp.some (triple_way (body_Check.cok k) hmix [.res (.one (.dp T4)) y4, .dec false, .dec false, .dec false, .res (.one (.dp T4)) y7, .dec false, .dec false, .dec false, .dec false, .dec false, .dec false, .res (.one (.dp T4)) y10, .dec false, .dec false, .dec false, .dec false, .dec false, .dec false, .res (.one (.dp T4)) y13, .dec false, .dec false] [] [(0, 0)] (via (finP (And.intro (And.intro (And.intro (And.intro (And.intro (And.intro (And.intro (And.intro (And.intro (And.intro (And.intro (And.intro (And.intro (And.intro (And.intro (And.intro (And.intro (And.intro trivial e5) (congrArg not e6)) (congrArg not e6)) (And.intro (congrArg not e6) e8)) (congrArg not e6)) (congrArg not e6)) (congrArg not e9)) (congrArg not e9)) (congrArg not e9)) (And.intro (congrArg not e9) e11)) (congrArg not e9)) (congrArg not e9)) (congrArg not e12)) (congrArg not e12)) (congrArg not e12)) (And.intro (congrArg not e12) e14)) (congrArg not e12)) (congrArg not e12)) .normal [(0, 0)] (body_Check.c1q a0 (!y13))) (by kernel_rfl)))) (fun e12 =>
     Owp.some (triple_way (body_Check.cok k) hmix [.res (.one (.dp T4)) y4, .dec false, .dec false, .dec false, .res (.one (.dp T4)) y7, .dec false, .dec false, .dec false, .dec false, .dec false, .dec false, .res (.one (.dp T4)) y10, .dec false, .dec false, .dec true, .dec true, .dec true, .dec true, .dec true, .dec true, .dec true] [] [(0, 0)] (via (finP (And.intro (And.intro (And.intro (And.intro (And.intro (And.intro (And.intro (And.intro (And.intro (And.intro (And.intro (And.intro (And.intro (And.intro (And.intro (And.intro (And.intro (And.intro trivial e5) (congrArg not e6)) (congrArg not e6)) (And.intro (congrArg not e6) e8)) (congrArg not e6)) (congrArg not e6)) (congrArg not e9)) (congrArg not e9)) (congrArg not e9)) (And.intro (congrArg not e9) e11)) (congrArg not e9)) (congrArg not e9)) (congrArg not e12)) (congrArg not e12)) (congrArg not e12)) (congrArg not e12)) (congrArg not e12)) (congrArg not e12)) .normal [(0, 0)] (body_Check.c1q a0 true)) (by kernel_rfl))))) (fun e9 =>
    Owp.some (triple_way (body_Check.cok k) hmix [.res (.one (.dp T4)) y4, .dec false, .dec false, .dec false, .res (.one (.dp T4)) y7, .dec false, .dec false, .dec true, .dec true, .dec true, .dec true, .dec true, .dec true, .dec true, .dec true, .dec true, .dec true, .dec true, .dec true, .dec true, .dec true] [] [(0, 0)] (via (finP (And.intro (And.intro (And.intro (And.intro (And.intro (And.intro (And.intro (And.intro (And.intro (And.intro (And.intro (And.intro (And.intro (And.intro (And.intro (And.intro (And.intro (And.intro trivial e5) (congrArg not e6)) (congrArg not e6)) (And.intro (congrArg not e6) e8)) (congrArg not e6)) (congrArg not e6)) (congrArg not e9)) (congrArg not e9)) (congrArg not e9)) (congrArg not e9)) (congrArg not e9)) (congrArg not e9)) tt) tt) tt) tt) tt) tt) .normal [(0, 0)] (body_Check.c1q a0 true)) (by kernel_rfl))))) (fun e6 =>
   Owp.some (triple_way (body_Check.cok k) hmix [.res (.one (.dp T4)) y4, .dec true, .dec true, .dec true, .dec true, .dec true, .dec true, .dec true, .dec true, .dec true, .dec true, .dec true, .dec true, .dec true, .dec true, .dec true, .dec true, .dec true, .dec true, .dec true, .dec true] [] [(0, 0)] (via (finP (And.intro (And.intro (And.intro (And.intro (And.intro (And.intro (And.intro (And.intro (And.intro (And.intro (And.intro (And.intro (And.intro (And.intro (And.intro (And.intro (And.intro (And.intro trivial e5) (congrArg not e6)) (congrArg not e6)) (congrArg not e6)) (congrArg not e6)) (congrArg not e6)) tt) tt) tt) tt) tt) tt) tt) tt) tt) tt) tt) tt) .normal [(0, 0)] (body_Check.c1q a0 true)) (by kernel_rfl))))
noncomputable def body_Check.c2p (a0 : V25) : SL := ⟨[(1, (.val .ptr ⟨0, 0, (0 : Int), 0, 0⟩)), (4, (.val .clo (113, [])))], [(0, .cells T25 a0)]⟩
noncomputable def body_Check.c2q (a0 : V25) (o : Bool) : SL := (fun v => ⟨[(1, (.val .ptr ⟨0, 0, (0 : Int), 0, 0⟩)), (68, (.val T4 v))], [(0, .cells T25 a0)]⟩) o
noncomputable def body_Check.c2x (o : Bool) : Ex := (fun _ => .normal) o
noncomputable def body_Check.c2n (o : Bool) : Nat := (fun _ => 1) o
theorem body_Check.c2_ok (k : Nat) (a0 : V25) : Owp (body_Check.c2 k a0) fun o => Triple PR (body_Check.cx k) (sub body_Check.code [1, 1, 1, 1, 0, 0]) 1 (body_Check.c2p a0) (body_Check.c2x o) (body_Check.c2n o) (body_Check.c2q a0 o) := by
  unfold body_Check.c2; exact
   Owp.bnd fun y18 e19 =>
   Owp.bif (fun e20 =>
   Owp.bnd fun y21 e22 =>
    Owp.bif (fun e23 =>
    Owp.bnd fun y24 e25 =>
     Owp.bif (fun e26 =>
     Owp.bnd fun y27 e28 =>
      Owp.bif (fun e29 =>
      Owp.bnd fun y30 e31 =>
       Owp.some (triple_way (body_Check.cok k) hmix [.res (.one (.dp T4)) y18, .dec false, .dec false, .dec false, .dec false, .res (.one (.dp T4)) y21, .dec false, .dec false, .dec false, .dec false, .dec false, .dec false, .res (.one (.dp T4)) y24, .dec false, .dec false, .dec false, .dec false, .dec false, .dec false, .res (.one (.dp T4)) y27, .dec false, .dec false, .dec false, .dec false, .dec false, .dec false, .res (.one (.dp T4)) y30, .dec false, .dec false] [] [(0, 0)] (via (finP (And.intro (And.intro (And.intro (And.intro (And.intro (And.intro (And.intro (And.intro (And.intro (And.intro (And.intro (And.intro (And.intro (And.intro (And.intro (And.intro (And.intro (And.intro (And.intro (And.intro (And.intro (And.intro (And.intro (And.intro (And.intro trivial e19) (congrArg not e20)) (congrArg not e20)) (congrArg not e20)) (And.intro (congrArg not e20) e22)) (congrArg not e20)) (congrArg not e20)) (congrArg not e23)) (congrArg not e23)) (congrArg not e23)) (And.intro (congrArg not e23) e25)) (congrArg not e23)) (congrArg not e23)) (congrArg not e26)) (congrArg not e26)) (congrArg not e26)) (And.intro (congrArg not e26) e28)) (congrArg not e26)) (congrArg not e26)) (congrArg not e29)) (congrArg not e29)) (congrArg not e29)) (And.intro (congrArg not e29) e31)) (congrArg not e29)) (congrArg not e29)) .normal [(0, 0)] (body_Check.c2q a0 (!y30))) (by kernel_rfl)))) (fun e29 =>
      Owp.some (triple_way (body_Check.cok k) hmix [.res (.one (.dp T4)) y18, .dec false, .dec false, .dec false, .dec false, .res (.one (.dp T4)) y21, .dec false, .dec false, .dec false, .dec false, .dec false, .dec false, .res (.one (.dp T4)) y24, .dec false, .dec false, .dec false, .dec false, .dec false, .dec false, .res (.one (.dp T4)) y27, .dec false, .dec false, .dec true, .dec true, .dec true, .dec true, .dec true, .dec true, .dec true] [] [(0, 0)] (via (finP (And.intro (And.intro (And.intro (And.intro (And.intro (And.intro (And.intro (And.intro (And.intro (And.intro (And.intro (And.intro (And.intro (And.intro (And.intro (And.intro (And.intro (And.intro (And.intro (And.intro (And.intro (And.intro (And.intro (And.intro (And.intro trivial e19) (congrArg not e20)) (congrArg not e20)) (congrArg not e20)) (And.intro (congrArg not e20) e22)) (congrArg not e20)) (congrArg not e20)) (congrArg not e23)) (congrArg not e23)) (congrArg not e23)) (And.intro (congrArg not e23) e25)) (congrArg not e23)) (congrArg not e23)) (congrArg not e26)) (congrArg not e26)) (congrArg not e26)) (And.intro (congrArg not e26) e28)) (congrArg not e26)) (congrArg not e26)) (congrArg not e29)) (congrArg not e29)) (congrArg not e29)) (congrArg not e29)) (congrArg not e29)) (congrArg not e29)) .normal [(0, 0)] (body_Check.c2q a0 true)) (by kernel_rfl))))) (fun e26 =>
     Owp.some (triple_way (body_Check.cok k) hmix [.res (.one (.dp T4)) y18, .dec false, .dec false, .dec false, .dec false, .res (.one (.dp T4)) y21, .dec false, .dec false, .dec false, .dec false, .dec false, .dec false, .res (.one (.dp T4)) y24, .dec false, .dec false, .dec true, .dec true, .dec true, .dec true, .dec true, .dec true, .dec true, .dec true, .dec true, .dec true, .dec true, .dec true, .dec true, .dec true] [] [(0, 0)] (via (finP (And.intro (And.intro (And.intro (And.intro (And.intro (And.intro (And.intro (And.intro (And.intro (And.intro (And.intro (And.intro (And.intro (And.intro (And.intro (And.intro (And.intro (And.intro (And.intro (And.intro (And.intro (And.intro (And.intro (And.intro (And.intro trivial e19) (congrArg not e20)) (congrArg not e20)) (congrArg not e20)) (And.intro (congrArg not e20) e22)) (congrArg not e20)) (congrArg not e20)) (congrArg not e23)) (congrArg not e23)) (congrArg not e23)) (And.intro (congrArg not e23) e25)) (congrArg not e23)) (congrArg not e23)) (congrArg not e26)) (congrArg not e26)) (congrArg not e26)) (congrArg not e26)) (congrArg not e26)) (congrArg not e26)) tt) tt) tt) tt) tt) tt) .normal [(0, 0)] (body_Check.c2q a0 true)) (by kernel_rfl))))) (fun e23 =>
    Owp.some (triple_way (body_Check.cok k) hmix [.res (.one (.dp T4)) y18, .dec false, .dec false, .dec false, .dec false, .res (.one (.dp T4)) y21, .dec false, .dec false, .dec true, .dec true, .dec true, .dec true, .dec true, .dec true, .dec true, .dec true, .dec true, .dec true, .dec true, .dec true, .dec true, .dec true, .dec true, .dec true, .dec true, .dec true, .dec true, .dec true, .dec true] [] [(0, 0)] (via (finP (And.intro (And.intro (And.intro (And.intro (And.intro (And.intro (And.intro (And.intro (And.intro (And.intro (And.intro (And.intro (And.intro (And.intro (And.intro (And.intro (And.intro (And.intro (And.intro (And.intro (And.intro (And.intro (And.intro (And.intro (And.intro trivial e19) (congrArg not e20)) (congrArg not e20)) (congrArg not e20)) (And.intro (congrArg not e20) e22)) (congrArg not e20)) (congrArg not e20)) (congrArg not e23)) (congrArg not e23)) (congrArg not e23)) (congrArg not e23)) (congrArg not e23)) (congrArg not e23)) tt) tt) tt) tt) tt) tt) tt) tt) tt) tt) tt) tt) .normal [(0, 0)] (body_Check.c2q a0 true)) (by kernel_rfl))))) (fun e20 =>
   Owp.some (triple_way (body_Check.cok k) hmix [.res (.one (.dp T4)) y18, .dec true, .dec true, .dec true, .dec true, .dec true, .dec true, .dec true, .dec true, .dec true, .dec true, .dec true, .dec true, .dec true, .dec true, .dec true, .dec true, .dec true, .dec true, .dec true, .dec true, .dec true, .dec true, .dec true, .dec true, .dec true, .dec true, .dec true, .dec true] [] [(0, 0)] (via (finP (And.intro (And.intro (And.intro (And.intro (And.intro (And.intro (And.intro (And.intro (And.intro (And.intro (And.intro (And.intro (And.intro (And.intro (And.intro (And.intro (And.intro (And.intro (And.intro (And.intro (And.intro (And.intro (And.intro (And.intro (And.intro trivial e19) (congrArg not e20)) (congrArg not e20)) (congrArg not e20)) (congrArg not e20)) (congrArg not e20)) (congrArg not e20)) tt) tt) tt) tt) tt) tt) tt) tt) tt) tt) tt) tt) tt) tt) tt) tt) tt) tt) .normal [(0, 0)] (body_Check.c2q a0 true)) (by kernel_rfl))))
noncomputable def body_Check.c3p (a0 : V25) : SL := ⟨[(1, (.val .ptr ⟨0, 0, (0 : Int), 0, 0⟩))], [(0, .cells T25 a0)]⟩
noncomputable def body_Check.c3q (a0 : V25) (o : Bool) : SL := (fun v => ⟨[(1, (.val .ptr ⟨0, 0, (0 : Int), 0, 0⟩)), (5, (.val T4 v))], [(0, .cells T25 a0)]⟩) o
noncomputable def body_Check.c3x (o : Bool) : Ex := (fun _ => .normal) o
noncomputable def body_Check.c3n (o : Bool) : Nat := (fun _ => 1) o
theorem body_Check.c3_ok (k : Nat) (a0 : V25) : Owp (body_Check.c3 k a0) fun o => Triple PR (body_Check.cx k) (sub body_Check.code [1, 1, 1, 1, 1, 0]) 1 (body_Check.c3p a0) (body_Check.c3x o) (body_Check.c3n o) (body_Check.c3q a0 o) := by
  unfold body_Check.c3; exact
   Owp.bif (fun e35 =>
   Owp.some (triple_way (body_Check.cok k) hmix [.dec true, .dec true, .dec true, .dec true] [] [(0, 0)] (via (finP (And.intro (And.intro (And.intro (And.intro trivial e35) e35) e35) e35) .normal [(0, 0)] (body_Check.c3q a0 (ieq a0.2.2.2.1 (0 : Int)))) (by kernel_rfl)))) (fun e35 =>
   Owp.some (triple_way (body_Check.cok k) hmix [.dec false, .dec false, .dec false, .dec false] [] [(0, 0)] (via (finP (And.intro (And.intro (And.intro (And.intro trivial e35) e35) e35) e35) .normal [(0, 0)] (body_Check.c3q a0 false)) (by kernel_rfl))))
noncomputable def body_Check.c4p (a0 : V25) (o36 : Bool) : SL := ⟨[(1, (.val .ptr ⟨0, 0, (0 : Int), 0, 0⟩)), (5, (.val T4 o36))], [(0, .cells T25 a0)]⟩
noncomputable def body_Check.c4q (o : Bool) : SL := (fun v => ⟨[(110, (.val T4 v))], []⟩) o
noncomputable def body_Check.c4x (o : Bool) : Ex := (fun _ => .normal) o
noncomputable def body_Check.c4n (o : Bool) : Nat := (fun _ => 0) o
theorem body_Check.c4_ok (k : Nat) (a0 : V25) (o36 : Bool) : Owp (body_Check.c4 k a0 o36) fun o => Triple PR (body_Check.cx k) (sub body_Check.code [1, 1, 1, 1, 1, 1, 0, 0]) 1 (body_Check.c4p a0 o36) (body_Check.c4x o) (body_Check.c4n o) (body_Check.c4q o) := by
  unfold body_Check.c4; exact
   Owp.bif (fun e38 =>
   Owp.bif (fun e39 =>
    Owp.bif (fun e40 =>
     Owp.bif (fun e41 =>
      Owp.some (triple_way (body_Check.cok k) hmix [.dec false, .dec false, .dec false, .dec false, .dec true, .dec true, .dec true, .dec false, .dec false, .dec true, .dec false, .dec true, .dec true, .dec true, .dec true, .dec true, .dec true, .dec false, .dec true, .dec false, .dec true, .dec true, .dec true, .dec true, .dec true, .dec true, .dec true, .dec true] [] [] (via (finP (And.intro (And.intro (And.intro (And.intro (And.intro (And.intro (And.intro (And.intro (And.intro (And.intro (And.intro (And.intro (And.intro (And.intro (And.intro (And.intro (And.intro (And.intro (And.intro (And.intro (And.intro (And.intro trivial (congrArg not e38)) (congrArg not e38)) (congrArg not e38)) (congrArg not e38)) e39) e39) e39) (congrArg not e40)) (congrArg not e40)) (And.intro e39 (congrArg not e40))) e39) e41) e41) e41) (And.intro e39 e41)) (And.intro (congrArg not e38) e39)) (congrArg not e38)) tt) tt) tt) tt) tt) .normal [] (body_Check.c4q true)) (by kernel_rfl)))) (fun e41 =>
      Owp.bif (fun e42 =>
       Owp.some (triple_way (body_Check.cok k) hmix [.dec false, .dec false, .dec false, .dec false, .dec true, .dec true, .dec true, .dec false, .dec false, .dec true, .dec false, .dec true, .dec false, .dec false, .dec false, .dec true, .dec false, .dec false, .dec true, .dec false, .dec true, .dec true, .dec true, .dec true, .dec true, .dec true, .dec true, .dec true] [] [] (via (finP (And.intro (And.intro (And.intro (And.intro (And.intro (And.intro (And.intro (And.intro (And.intro (And.intro (And.intro (And.intro (And.intro (And.intro (And.intro (And.intro (And.intro (And.intro (And.intro (And.intro (And.intro (And.intro trivial (congrArg not e38)) (congrArg not e38)) (congrArg not e38)) (congrArg not e38)) e39) e39) e39) (congrArg not e40)) (congrArg not e40)) (And.intro e39 (congrArg not e40))) e39) e41) e41) e41) (And.intro e39 e41)) (And.intro (congrArg not e38) e39)) (congrArg not e38)) e42) e42) e42) e42) e42) .normal [] (body_Check.c4q true)) (by kernel_rfl)))) (fun e42 =>
       Owp.some (triple_way (body_Check.cok k) hmix [.dec false, .dec false, .dec false, .dec false, .dec true, .dec true, .dec true, .dec false, .dec false, .dec true, .dec false, .dec true, .dec false, .dec false, .dec false, .dec true, .dec false, .dec false, .dec true, .dec false, .dec false, .dec false, .dec false, .dec false, .dec false, .dec false, .dec false, .dec false] [] [] (via (finP (And.intro (And.intro (And.intro (And.intro (And.intro (And.intro (And.intro (And.intro (And.intro (And.intro (And.intro (And.intro (And.intro (And.intro (And.intro (And.intro (And.intro (And.intro (And.intro (And.intro (And.intro (And.intro (And.intro (And.intro trivial (congrArg not e38)) (congrArg not e38)) (congrArg not e38)) (congrArg not e38)) e39) e39) e39) (congrArg not e40)) (congrArg not e40)) (And.intro e39 (congrArg not e40))) e39) e41) e41) e41) (And.intro e39 e41)) (And.intro (congrArg not e38) e39)) (congrArg not e38)) e42) e42) e42) e41) e41) (And.intro e42 e41)) e42) .normal [] (body_Check.c4q false)) (by kernel_rfl)))))) (fun e40 =>
     Owp.some (triple_way (body_Check.cok k) hmix [.dec false, .dec false, .dec false, .dec false, .dec true, .dec true, .dec true, .dec true, .dec true, .dec true, .dec true, .dec true, .dec true, .dec true, .dec true, .dec true, .dec true, .dec false, .dec true, .dec false, .dec true, .dec true, .dec true, .dec true, .dec true, .dec true, .dec true, .dec true] [] [] (via (finP (And.intro (And.intro (And.intro (And.intro (And.intro (And.intro (And.intro (And.intro (And.intro (And.intro (And.intro (And.intro (And.intro (And.intro (And.intro (And.intro (And.intro (And.intro (And.intro (And.intro (And.intro (And.intro trivial (congrArg not e38)) (congrArg not e38)) (congrArg not e38)) (congrArg not e38)) e39) e39) e39) (congrArg not e40)) (congrArg not e40)) (And.intro e39 (congrArg not e40))) e39) tt) tt) tt) (And.intro e39 tt)) (And.intro (congrArg not e38) e39)) (congrArg not e38)) tt) tt) tt) tt) tt) .normal [] (body_Check.c4q true)) (by kernel_rfl))))) (fun e39 =>
    Owp.bif (fun e43 =>
     Owp.some (triple_way (body_Check.cok k) hmix [.dec false, .dec false, .dec false, .dec false, .dec false, .dec false, .dec false, .dec true, .dec true, .dec false, .dec true, .dec false, .dec true, .dec true, .dec true, .dec false, .dec true, .dec false, .dec false, .dec false, .dec false, .dec false, .dec false, .dec true, .dec true, .dec false, .dec true, .dec false] [] [] (via (finP (And.intro (And.intro (And.intro (And.intro (And.intro (And.intro (And.intro (And.intro (And.intro (And.intro (And.intro (And.intro (And.intro (And.intro (And.intro (And.intro (And.intro (And.intro (And.intro trivial (congrArg not e38)) (congrArg not e38)) (congrArg not e38)) (congrArg not e38)) e39) e39) e39) e39) e39) e39) (And.intro (congrArg not e38) e39)) (congrArg not e38)) ff) ff) ff) e43) e43) (And.intro ff e43)) ff) .normal [] (body_Check.c4q (!o36))) (by kernel_rfl)))) (fun e43 =>
     Owp.some (triple_way (body_Check.cok k) hmix [.dec false, .dec false, .dec false, .dec false, .dec false, .dec false, .dec false, .dec true, .dec true, .dec false, .dec true, .dec false, .dec true, .dec true, .dec true, .dec false, .dec true, .dec false, .dec false, .dec false, .dec false, .dec false, .dec false, .dec false, .dec false, .dec false, .dec false, .dec false] [] [] (via (finP (And.intro (And.intro (And.intro (And.intro (And.intro (And.intro (And.intro (And.intro (And.intro (And.intro (And.intro (And.intro (And.intro (And.intro (And.intro (And.intro (And.intro (And.intro (And.intro trivial (congrArg not e38)) (congrArg not e38)) (congrArg not e38)) (congrArg not e38)) e39) e39) e39) e39) e39) e39) (And.intro (congrArg not e38) e39)) (congrArg not e38)) ff) ff) ff) e43) e43) (And.intro ff e43)) ff) .normal [] (body_Check.c4q false)) (by kernel_rfl)))))) (fun e38 =>
   Owp.some (triple_way (body_Check.cok k) hmix [.dec true, .dec true, .dec true, .dec true, .dec true, .dec true, .dec true, .dec true, .dec true, .dec true, .dec true, .dec true, .dec true, .dec true, .dec true, .dec true, .dec true, .dec true, .dec true, .dec true, .dec true, .dec true, .dec true, .dec true, .dec true, .dec true, .dec true, .dec true] [] [] (via (finP (And.intro (And.intro (And.intro (And.intro (And.intro (And.intro (And.intro (And.intro (And.intro (And.intro (And.intro trivial (congrArg not e38)) (congrArg not e38)) (congrArg not e38)) (congrArg not e38)) (congrArg not e38)) (congrArg not e38)) tt) tt) tt) tt) tt) .normal [] (body_Check.c4q true)) (by kernel_rfl))))
theorem body_Check.way (k : Nat) (a0 : V25) : Owp (body_Check k a0) fun y => ∃ answers cmds, exec PR (body_Check.cx k) body_Check.code 0 (entry (.pair T25 .unit) (a0, ())).st answers (Ret (body_Check.cx k) Try.f41 cmds (.one (.dp T2)) y) := by
  unfold body_Check; exact
   Owp.bnd fun y1 e2 =>
   Owp.bif (fun e3 =>
   Owp.some (⟨[.res (.one (.dp T2)) y1, .dec true], [], via (retP (And.intro (And.intro trivial e2) e3) (.one (.dp T2)) (y1 : Int)) (by kernel_rfl)⟩)) (fun e3 =>
   Owp.bnd fun o15 e16 =>
    Owp.bif (fun e17 =>
    Owp.some (⟨[.res (.one (.dp T2)) y1, .dec false, .cutR 5 ⟨[], [(0, 0)], (body_Check.c1p a0), 1, .normal, (body_Check.c1q a0 o15), 1⟩, .dec true], [], via (cutP (And.intro (And.intro trivial e2) e3) [(0, 0)] (body_Check.c1p a0) (((body_Check.c1_ok k a0).ap e16)) (retP (And.intro trivial e17) (.one (.dp T2)) ((1 : Int) : Int))) (by kernel_rfl)⟩)) (fun e17 =>
    Owp.bnd fun o32 e33 =>
     Owp.bif (fun e34 =>
     Owp.some (⟨[.res (.one (.dp T2)) y1, .dec false, .cutR 5 ⟨[], [(0, 0)], (body_Check.c1p a0), 1, .normal, (body_Check.c1q a0 o15), 1⟩, .dec false, .cutR 7 ⟨[], [(0, 0)], (body_Check.c2p a0), 1, .normal, (body_Check.c2q a0 o32), 1⟩, .dec true], [], via (cutP (And.intro (And.intro trivial e2) e3) [(0, 0)] (body_Check.c1p a0) (((body_Check.c1_ok k a0).ap e16)) (cutP (And.intro trivial e17) [(0, 0)] (body_Check.c2p a0) (((body_Check.c2_ok k a0).ap e33)) (retP (And.intro trivial e34) (.one (.dp T2)) ((1 : Int) : Int)))) (by kernel_rfl)⟩)) (fun e34 =>
     Owp.bnd fun o36 e37 =>
      Owp.bnd fun o44 e45 =>
      Owp.bif (fun e46 =>
      Owp.some (⟨[.res (.one (.dp T2)) y1, .dec false, .cutR 5 ⟨[], [(0, 0)], (body_Check.c1p a0), 1, .normal, (body_Check.c1q a0 o15), 1⟩, .dec false, .cutR 7 ⟨[], [(0, 0)], (body_Check.c2p a0), 1, .normal, (body_Check.c2q a0 o32), 1⟩, .dec false, .cutR 9 ⟨[], [(0, 0)], (body_Check.c3p a0), 1, .normal, (body_Check.c3q a0 o36), 1⟩, .cutR 10 ⟨[], [(0, 0)], (body_Check.c4p a0 o36), 1, .normal, (body_Check.c4q o44), 0⟩, .dec true], [], via (cutP (And.intro (And.intro trivial e2) e3) [(0, 0)] (body_Check.c1p a0) (((body_Check.c1_ok k a0).ap e16)) (cutP (And.intro trivial e17) [(0, 0)] (body_Check.c2p a0) (((body_Check.c2_ok k a0).ap e33)) (cutP (And.intro trivial e34) [(0, 0)] (body_Check.c3p a0) (((body_Check.c3_ok k a0).ap e37)) (cutP trivial [(0, 0)] (body_Check.c4p a0 o36) (((body_Check.c4_ok k a0 o36).ap e45)) (retP (And.intro trivial e46) (.one (.dp T2)) ((3 : Int) : Int)))))) (by kernel_rfl)⟩)) (fun e46 =>
      Owp.some (⟨[.res (.one (.dp T2)) y1, .dec false, .cutR 5 ⟨[], [(0, 0)], (body_Check.c1p a0), 1, .normal, (body_Check.c1q a0 o15), 1⟩, .dec false, .cutR 7 ⟨[], [(0, 0)], (body_Check.c2p a0), 1, .normal, (body_Check.c2q a0 o32), 1⟩, .dec false, .cutR 9 ⟨[], [(0, 0)], (body_Check.c3p a0), 1, .normal, (body_Check.c3q a0 o36), 1⟩, .cutR 10 ⟨[], [(0, 0)], (body_Check.c4p a0 o36), 1, .normal, (body_Check.c4q o44), 0⟩, .dec false], [], via (cutP (And.intro (And.intro trivial e2) e3) [(0, 0)] (body_Check.c1p a0) (((body_Check.c1_ok k a0).ap e16)) (cutP (And.intro trivial e17) [(0, 0)] (body_Check.c2p a0) (((body_Check.c2_ok k a0).ap e33)) (cutP (And.intro trivial e34) [(0, 0)] (body_Check.c3p a0) (((body_Check.c3_ok k a0).ap e37)) (cutP trivial [(0, 0)] (body_Check.c4p a0 o36) (((body_Check.c4_ok k a0 o36).ap e45)) (retP (And.intro trivial e46) (.one (.dp T2)) ((0 : Int) : Int)))))) (by kernel_rfl)⟩)))))
theorem body_Check.ok (k : Nat) : FnOk PR 41 (body_Check.sp k) :=
  fn_ok (body_Check.cok k) hmix Try.func41 (code := body_Check.code) (by kernel_rfl) (by kernel_rfl) (by kernel_rfl) rfl rfl (by kernel_rfl) (by kernel_rfl) (by kernel_rfl) (fun x => Nat.le_of_ble_eq_true (by kernel_rfl)) fun x y hy => (body_Check.way k x.1).ap hy

/-! tourney/tourref2.Corners -/
noncomputable def tourref2_Corners.code : Code := Func.cd Try.f86
def tourref2_Corners.c1 (k : Nat) (a0 : (List V22)) : Nat → Int → Option (Unit ⊕ Unit)
  | 0, _ => none
  | n + 1, v4 =>
   bif' (ilt v4 (len a0))
   (req (inL v4 a0) <|
    bnd (tourref2_coord k (el Z22 a0 v4) 2097152) fun y7 =>
    bif' y7
    (tourref2_Corners.c1 k a0 n (iadd .i64 v4 1))
    (some (.inl ())))
   (some (.inr ()))
def tourref2_Corners.c3 (k : Nat) (a0 : (List V22)) (v16 : Int) (y21 : V22) : Nat → Int → Option (Unit ⊕ Unit)
  | 0, _ => none
  | n + 1, v23 =>
   bif' (ilt v23 (len a0))
   (req (nz (len a0)) <|
    req (inL (irem (iadd .i64 v16 v23) (len a0)) a0) <|
    bnd (tourref2_sub k (el Z22 a0 (irem (iadd .i64 v16 v23) (len a0))) (el Z22 a0 v16)) fun y27 =>
    bnd (tourref2_Cross k y21 y27) fun y29 =>
    bnd (tourref2_Of k (imul .i64 8 (iadd .i64 (iadd .i64 (iadd .i64 (imax y21.1 (ineg .i64 y21.1)) (imax y21.2.1 (ineg .i64 y21.2.1))) (imax y27.1 (ineg .i64 y27.1))) (imax y27.2.1 (ineg .i64 y27.2.1))))) fun y31 =>
    bnd (tourref2_Big_Cmp k y29 y31) fun y33 =>
    bif' (ilt y33 0)
    (some (.inl ()))
    (tourref2_Corners.c3 k a0 v16 y21 n (iadd .i64 v23 1)))
   (some (.inr ()))
def tourref2_Corners.c2 (k : Nat) (a0 : (List V22)) : Nat → Int → Option (Unit ⊕ Unit)
  | 0, _ => none
  | n + 1, v16 =>
   bif' (ilt v16 (len a0))
   (req (inL v16 a0) <|
    req (nz (len a0)) <|
    req (inL (irem (iadd .i64 v16 1) (len a0)) a0) <|
    bnd (tourref2_sub k (el Z22 a0 (irem (iadd .i64 v16 1) (len a0))) (el Z22 a0 v16)) fun y21 =>
    bnd (tourref2_Corners.c3 k a0 v16 y21 k 2) fun o36 =>
    two o36 (fun y38 =>
    some (.inl ())) (fun y40 =>
    tourref2_Corners.c2 k a0 n (iadd .i64 v16 1)))
   (some (.inr ()))
def tourref2_Corners (k : Nat) (a0 : (List V22)) : Option Int :=
  bnd (tourref2_Poly k a0) fun y1 =>
  bif' (ine y1 0)
  (some y1)
  (bnd (tourref2_Corners.c1 k a0 k 0) fun o10 =>
   two o10 (fun y12 =>
   some 1) (fun y14 =>
   bnd (tourref2_Corners.c2 k a0 k 0) fun o42 =>
    two o42 (fun y44 =>
    some 3) (fun y46 =>
    bnd (tourref2_Inside k a0 (0, 0, ())) fun y48 =>
     bif' y48
     (some 0)
     (some 3))))
noncomputable def tourref2_Corners.sp (k : Nat) : Go.Sx.Spec := ⟨(.pair T24 .unit), (.one (.dp T2)), fun x => tourref2_Corners k x.1, false⟩
noncomputable def tourref2_Corners.cx (k : Nat) : Go.Sx.Ctx := ⟨tys, [(50, tourref2_Poly.sp k), (87, tourref2_coord.sp k), (102, tourref2_sub.sp k), (158, tourref2_Cross.sp k), (159, tourref2_Of.sp k), (126, tourref2_Big_Cmp.sp k), (100, tourref2_Inside.sp k)], eqs, 99, 0, [], false⟩
theorem tourref2_Corners.cok (k : Nat) : CtxOk PR (tourref2_Corners.cx k) := ctx_ok tysOk eqsOk (FnsOk.cons (tourref2_Poly.ok k) (FnsOk.cons (tourref2_coord.ok k) (FnsOk.cons (tourref2_sub.ok k) (FnsOk.cons (tourref2_Cross.ok k) (FnsOk.cons (tourref2_Of.ok k) (FnsOk.cons (tourref2_Big_Cmp.ok k) (FnsOk.cons (tourref2_Inside.ok k) FnsOk.nil))))))) HsOk.nil
noncomputable def tourref2_Corners.c1p (a0 : (List V22)) (v4 : Int) : SL := ⟨[(0, (.val T24 a0)), (16, (.val T24 a0)), (17, (.val T2 (len a0))), (18, (.val T2 v4))], []⟩
noncomputable def tourref2_Corners.c1q (a0 : (List V22)) (o : Unit ⊕ Unit) : SL := (fun o => two o (fun v => ⟨[(2, (.val T2 (1 : Int)))], []⟩) (fun v => ⟨[(0, (.val T24 a0))], []⟩)) o
noncomputable def tourref2_Corners.c1x (o : Unit ⊕ Unit) : Ex := (fun o => two o (fun _ => .ret) (fun _ => (.exit 0))) o
noncomputable def tourref2_Corners.c1n (o : Unit ⊕ Unit) : Nat := (fun o => two o (fun _ => 0) (fun _ => 0)) o
theorem tourref2_Corners.c1_ok (k : Nat) (a0 : (List V22)) : ∀ (n : Nat) (v4 : Int), Owp (tourref2_Corners.c1 k a0 n v4) fun o => LTriple PR (tourref2_Corners.cx k) (sub tourref2_Corners.code [1, 1, 0, 1, 0, 0]) 0 (tourref2_Corners.c1p a0 v4) (tourref2_Corners.c1x o) (tourref2_Corners.c1n o) (tourref2_Corners.c1q a0 o)
  | 0, _ => fun _ h => nomatch h
  | n + 1, v4 => Owp.of (tourref2_Corners.c1.eq_2 ..) (
   Owp.bif (fun e5 =>
   Owp.req fun h6 =>
    Owp.bnd fun y7 e8 =>
    Owp.bif (fun e9 =>
    fun y hy => loop_back (tourref2_Corners.cok k) hmix 0 (tourref2_Corners.c1p a0 (iadd .i64 v4 (1 : Int))) [.dec true, .res (.one (.dp T4)) y7, .dec false] [] [] (via (finP (And.intro (And.intro (And.intro (And.intro trivial e5) h6) e8) (congrArg not e9)) .normal [] (tourref2_Corners.c1p a0 (iadd .i64 v4 (1 : Int)))) (by kernel_rfl)) ((tourref2_Corners.c1_ok k a0 n (iadd .i64 v4 (1 : Int))).ap hy)) (fun e9 =>
    Owp.some (loop_exit (tourref2_Corners.cok k) hmix [.dec true, .res (.one (.dp T4)) y7, .dec true] [] [] exne_ret (via (finP (And.intro (And.intro (And.intro (And.intro trivial e5) h6) e8) (congrArg not e9)) .ret [] (tourref2_Corners.c1q a0 (.inl ()))) (by kernel_rfl))))) (fun e5 =>
   Owp.some (loop_exit (tourref2_Corners.cok k) hmix [.dec false] [] [] (exne 0) (via (finP (And.intro trivial e5) (.exit 0) [] (tourref2_Corners.c1q a0 (.inr ()))) (by kernel_rfl)))))
noncomputable def tourref2_Corners.c3p (a0 : (List V22)) (v16 : Int) (y21 : V22) (v23 : Int) : SL := ⟨[(0, (.val T24 a0)), (6, (.val T2 v16)), (7, (.val .ptr ⟨0, 0, (0 : Int), 0, 0⟩)), (8, (.val .ptr ⟨1, 0, (0 : Int), 0, 0⟩)), (9, (.val T2 v23)), (26, (.val T24 a0)), (27, (.val T2 (len a0))), (28, (.val T2 v16))], [(0, .cells T22 (el Z22 a0 v16)), (1, .cells T22 y21)]⟩
noncomputable def tourref2_Corners.c3q (a0 : (List V22)) (v16 : Int) (o : Unit ⊕ Unit) : SL := (fun o => two o (fun v => ⟨[(2, (.val T2 (3 : Int)))], []⟩) (fun v => ⟨[(0, (.val T24 a0)), (26, (.val T24 a0)), (27, (.val T2 (len a0))), (28, (.val T2 v16))], []⟩)) o
noncomputable def tourref2_Corners.c3x (o : Unit ⊕ Unit) : Ex := (fun o => two o (fun _ => .ret) (fun _ => (.exit 4))) o
noncomputable def tourref2_Corners.c3n (o : Unit ⊕ Unit) : Nat := (fun o => two o (fun _ => 0) (fun _ => 0)) o
theorem tourref2_Corners.c3_ok (k : Nat) (a0 : (List V22)) (v16 : Int) (y21 : V22) : ∀ (n : Nat) (v23 : Int), Owp (tourref2_Corners.c3 k a0 v16 y21 n v23) fun o => LTriple PR (tourref2_Corners.cx k) (sub tourref2_Corners.code [1, 1, 1, 0, 1, 0, 0, 1, 1, 0, 0, 1, 1, 1, 0, 0]) 2 (tourref2_Corners.c3p a0 v16 y21 v23) (tourref2_Corners.c3x o) (tourref2_Corners.c3n o) (tourref2_Corners.c3q a0 v16 o)
  | 0, _ => fun _ h => nomatch h
  | n + 1, v23 => Owp.of (tourref2_Corners.c3.eq_2 ..) (
   Owp.bif (fun e24 =>
   Owp.req fun h25 =>
    Owp.req fun h26 =>
    Owp.bnd fun y27 e28 =>
    Owp.bnd fun y29 e30 =>
    Owp.bnd fun y31 e32 =>
    Owp.bnd fun y33 e34 =>
    Owp.bif (fun e35 =>
    Owp.some (loop_exit (tourref2_Corners.cok k) hmix [.dec true, .res (.one (.dp T22)) y27, .res (.one (.dp T134)) y29, .res (.one (.dp T134)) y31, .res (.one (.dp T2)) y33, .dec true] [] [] exne_ret (via (finP (And.intro (And.intro (And.intro (And.intro (And.intro (And.intro (And.intro (And.intro trivial e24) h25) h26) e28) e30) e32) e34) e35) .ret [] (tourref2_Corners.c3q a0 v16 (.inl ()))) (by kernel_rfl)))) (fun e35 =>
    fun y hy => loop_back (tourref2_Corners.cok k) hmix 2 (tourref2_Corners.c3p a0 v16 y21 (iadd .i64 v23 (1 : Int))) [.dec true, .res (.one (.dp T22)) y27, .res (.one (.dp T134)) y29, .res (.one (.dp T134)) y31, .res (.one (.dp T2)) y33, .dec false] [] [(0, 0), (1, 1)] (via (finP (And.intro (And.intro (And.intro (And.intro (And.intro (And.intro (And.intro (And.intro trivial e24) h25) h26) e28) e30) e32) e34) e35) .normal [(0, 0), (1, 1)] (tourref2_Corners.c3p a0 v16 y21 (iadd .i64 v23 (1 : Int)))) (by kernel_rfl)) ((tourref2_Corners.c3_ok k a0 v16 y21 n (iadd .i64 v23 (1 : Int))).ap hy))) (fun e24 =>
   Owp.some (loop_exit (tourref2_Corners.cok k) hmix [.dec false] [] [] (exne 4) (via (finP (And.intro trivial e24) (.exit 4) [] (tourref2_Corners.c3q a0 v16 (.inr ()))) (by kernel_rfl)))))
noncomputable def tourref2_Corners.c2p (a0 : (List V22)) (v16 : Int) : SL := ⟨[(0, (.val T24 a0)), (26, (.val T24 a0)), (27, (.val T2 (len a0))), (28, (.val T2 v16))], []⟩
noncomputable def tourref2_Corners.c2q (a0 : (List V22)) (o : Unit ⊕ Unit) : SL := (fun o => two o (fun v => ⟨[(2, (.val T2 (3 : Int)))], []⟩) (fun v => ⟨[(0, (.val T24 a0))], []⟩)) o
noncomputable def tourref2_Corners.c2x (o : Unit ⊕ Unit) : Ex := (fun o => two o (fun _ => .ret) (fun _ => (.exit 2))) o
noncomputable def tourref2_Corners.c2n (o : Unit ⊕ Unit) : Nat := (fun o => two o (fun _ => 0) (fun _ => 0)) o
theorem tourref2_Corners.c2_ok (k : Nat) (a0 : (List V22)) : ∀ (n : Nat) (v16 : Int), Owp (tourref2_Corners.c2 k a0 n v16) fun o => LTriple PR (tourref2_Corners.cx k) (sub tourref2_Corners.code [1, 1, 1, 0, 1, 0, 0]) 0 (tourref2_Corners.c2p a0 v16) (tourref2_Corners.c2x o) (tourref2_Corners.c2n o) (tourref2_Corners.c2q a0 o)
  | 0, _ => fun _ h => nomatch h
  | n + 1, v16 => Owp.of (tourref2_Corners.c2.eq_2 ..) (
   Owp.bif (fun e17 =>
   Owp.req fun h18 =>
    Owp.req fun h19 =>
    Owp.req fun h20 =>
    Owp.bnd fun y21 e22 =>
    Owp.bnd fun o36 e37 =>
    Owp.two (fun y38 e39 =>
    Owp.some (loop_exit (tourref2_Corners.cok k) hmix [.dec true, .res (.one (.dp T22)) y21, .cut ⟨[], [(0, 4), (1, 17)], (tourref2_Corners.c3p a0 v16 y21 (2 : Int)), 2, .ret, (tourref2_Corners.c3q a0 v16 (.inl ())), 0⟩] [] [] exne_ret (via (cutP (And.intro (And.intro (And.intro (And.intro (And.intro trivial e17) h18) h19) h20) e22) [(0, 4), (1, 17)] (tourref2_Corners.c3p a0 v16 y21 (2 : Int)) (((tourref2_Corners.c3_ok k a0 v16 y21 k (2 : Int)).ap (e37.trans (congrArg some e39))).triple) (finP trivial .ret [] (tourref2_Corners.c2q a0 (.inl ())))) (by kernel_rfl)))) (fun y40 e41 =>
    fun y hy => loop_back (tourref2_Corners.cok k) hmix 0 (tourref2_Corners.c2p a0 (iadd .i64 v16 (1 : Int))) [.dec true, .res (.one (.dp T22)) y21, .cut ⟨[], [(0, 4), (1, 17)], (tourref2_Corners.c3p a0 v16 y21 (2 : Int)), 2, (.exit 4), (tourref2_Corners.c3q a0 v16 (.inr ())), 0⟩] [] [] (via (cutP (And.intro (And.intro (And.intro (And.intro (And.intro trivial e17) h18) h19) h20) e22) [(0, 4), (1, 17)] (tourref2_Corners.c3p a0 v16 y21 (2 : Int)) (((tourref2_Corners.c3_ok k a0 v16 y21 k (2 : Int)).ap (e37.trans (congrArg some e41))).triple) (finP trivial .normal [] (tourref2_Corners.c2p a0 (iadd .i64 v16 (1 : Int))))) (by kernel_rfl)) ((tourref2_Corners.c2_ok k a0 n (iadd .i64 v16 (1 : Int))).ap hy))) (fun e17 =>
   Owp.some (loop_exit (tourref2_Corners.cok k) hmix [.dec false] [] [] (exne 2) (via (finP (And.intro trivial e17) (.exit 2) [] (tourref2_Corners.c2q a0 (.inr ()))) (by kernel_rfl)))))
theorem tourref2_Corners.way (k : Nat) (a0 : (List V22)) : Owp (tourref2_Corners k a0) fun y => ∃ answers cmds, exec PR (tourref2_Corners.cx k) tourref2_Corners.code 0 (entry (.pair T24 .unit) (a0, ())).st answers (Ret (tourref2_Corners.cx k) Try.f86 cmds (.one (.dp T2)) y) := by
  unfold tourref2_Corners; exact
   Owp.bnd fun y1 e2 =>
   Owp.bif (fun e3 =>
   Owp.some (⟨[.res (.one (.dp T2)) y1, .dec true], [], via (retP (And.intro (And.intro trivial e2) e3) (.one (.dp T2)) (y1 : Int)) (by kernel_rfl)⟩)) (fun e3 =>
   Owp.bnd fun o10 e11 =>
    Owp.two (fun y12 e13 =>
    Owp.some (⟨[.res (.one (.dp T2)) y1, .dec false, .cut ⟨[], [], (tourref2_Corners.c1p a0 (0 : Int)), 0, .ret, (tourref2_Corners.c1q a0 (.inl ())), 0⟩], [], via (cutP (And.intro (And.intro trivial e2) e3) [] (tourref2_Corners.c1p a0 (0 : Int)) (((tourref2_Corners.c1_ok k a0 k (0 : Int)).ap (e11.trans (congrArg some e13))).triple) (retP trivial (.one (.dp T2)) ((1 : Int) : Int))) (by kernel_rfl)⟩)) (fun y14 e15 =>
    Owp.bnd fun o42 e43 =>
     Owp.two (fun y44 e45 =>
     Owp.some (⟨[.res (.one (.dp T2)) y1, .dec false, .cut ⟨[], [], (tourref2_Corners.c1p a0 (0 : Int)), 0, (.exit 0), (tourref2_Corners.c1q a0 (.inr ())), 0⟩, .cut ⟨[], [], (tourref2_Corners.c2p a0 (0 : Int)), 0, .ret, (tourref2_Corners.c2q a0 (.inl ())), 0⟩], [], via (cutP (And.intro (And.intro trivial e2) e3) [] (tourref2_Corners.c1p a0 (0 : Int)) (((tourref2_Corners.c1_ok k a0 k (0 : Int)).ap (e11.trans (congrArg some e15))).triple) (cutP trivial [] (tourref2_Corners.c2p a0 (0 : Int)) (((tourref2_Corners.c2_ok k a0 k (0 : Int)).ap (e43.trans (congrArg some e45))).triple) (retP trivial (.one (.dp T2)) ((3 : Int) : Int)))) (by kernel_rfl)⟩)) (fun y46 e47 =>
     Owp.bnd fun y48 e49 =>
      Owp.bif (fun e50 =>
      Owp.some (⟨[.res (.one (.dp T2)) y1, .dec false, .cut ⟨[], [], (tourref2_Corners.c1p a0 (0 : Int)), 0, (.exit 0), (tourref2_Corners.c1q a0 (.inr ())), 0⟩, .cut ⟨[], [], (tourref2_Corners.c2p a0 (0 : Int)), 0, (.exit 2), (tourref2_Corners.c2q a0 (.inr ())), 0⟩, .res (.one (.dp T4)) y48, .dec false], [], via (cutP (And.intro (And.intro trivial e2) e3) [] (tourref2_Corners.c1p a0 (0 : Int)) (((tourref2_Corners.c1_ok k a0 k (0 : Int)).ap (e11.trans (congrArg some e15))).triple) (cutP trivial [] (tourref2_Corners.c2p a0 (0 : Int)) (((tourref2_Corners.c2_ok k a0 k (0 : Int)).ap (e43.trans (congrArg some e47))).triple) (retP (And.intro (And.intro trivial e49) (congrArg not e50)) (.one (.dp T2)) ((0 : Int) : Int)))) (by kernel_rfl)⟩)) (fun e50 =>
      Owp.some (⟨[.res (.one (.dp T2)) y1, .dec false, .cut ⟨[], [], (tourref2_Corners.c1p a0 (0 : Int)), 0, (.exit 0), (tourref2_Corners.c1q a0 (.inr ())), 0⟩, .cut ⟨[], [], (tourref2_Corners.c2p a0 (0 : Int)), 0, (.exit 2), (tourref2_Corners.c2q a0 (.inr ())), 0⟩, .res (.one (.dp T4)) y48, .dec true], [], via (cutP (And.intro (And.intro trivial e2) e3) [] (tourref2_Corners.c1p a0 (0 : Int)) (((tourref2_Corners.c1_ok k a0 k (0 : Int)).ap (e11.trans (congrArg some e15))).triple) (cutP trivial [] (tourref2_Corners.c2p a0 (0 : Int)) (((tourref2_Corners.c2_ok k a0 k (0 : Int)).ap (e43.trans (congrArg some e47))).triple) (retP (And.intro (And.intro trivial e49) (congrArg not e50)) (.one (.dp T2)) ((3 : Int) : Int)))) (by kernel_rfl)⟩)))))
theorem tourref2_Corners.ok (k : Nat) : FnOk PR 86 (tourref2_Corners.sp k) :=
  fn_ok (tourref2_Corners.cok k) hmix Try.func86 (code := tourref2_Corners.code) (by kernel_rfl) (by kernel_rfl) (by kernel_rfl) rfl rfl (by kernel_rfl) (by kernel_rfl) (by kernel_rfl) (fun x => Nat.le_of_ble_eq_true (by kernel_rfl)) fun x y hy => (tourref2_Corners.way k x.1).ap hy

/-! tourney/tourref2.between -/
noncomputable def tourref2_between.code : Code := Func.cd Try.f88
def tourref2_between (k : Nat) (a0 : Int) (a1 : Int) (a2 : Int) : Option Bool :=
  bif' (ile a1 a0)
  (some (ile a0 a2))
  (some false)
noncomputable def tourref2_between.sp (k : Nat) : Go.Sx.Spec := ⟨(.pair T2 T22), (.one (.dp T4)), fun x => tourref2_between k x.1 x.2.1 x.2.2.1, false⟩
noncomputable def tourref2_between.cx (k : Nat) : Go.Sx.Ctx := ⟨tys, [], eqs, 15, 0, [], false⟩
theorem tourref2_between.cok (k : Nat) : CtxOk PR (tourref2_between.cx k) := ctx_ok tysOk eqsOk FnsOk.nil HsOk.nil
theorem tourref2_between.way (k : Nat) (a0 : Int) (a1 : Int) (a2 : Int) : Owp (tourref2_between k a0 a1 a2) fun y => ∃ answers cmds, exec PR (tourref2_between.cx k) tourref2_between.code 0 (entry (.pair T2 T22) (a0, a1, a2, ())).st answers (Ret (tourref2_between.cx k) Try.f88 cmds (.one (.dp T4)) y) := by
  unfold tourref2_between; exact
   Owp.bif (fun e1 =>
   Owp.some (⟨[.dec true, .dec true, .dec true, .dec true], [], via (retP (And.intro (And.intro (And.intro (And.intro trivial e1) e1) e1) e1) (.one (.dp T4)) ((ile a0 a2) : Bool)) (by kernel_rfl)⟩)) (fun e1 =>
   Owp.some (⟨[.dec false, .dec false, .dec false, .dec false], [], via (retP (And.intro (And.intro (And.intro (And.intro trivial e1) e1) e1) e1) (.one (.dp T4)) (false : Bool)) (by kernel_rfl)⟩))
theorem tourref2_between.ok (k : Nat) : FnOk PR 88 (tourref2_between.sp k) :=
  fn_ok (tourref2_between.cok k) hmix Try.func88 (code := tourref2_between.code) (by kernel_rfl) (by kernel_rfl) (by kernel_rfl) rfl rfl (by kernel_rfl) (by kernel_rfl) (by kernel_rfl) (fun x => Nat.le_of_ble_eq_true (by kernel_rfl)) fun x y hy => (tourref2_between.way k x.1 x.2.1 x.2.2.1).ap hy

end Go.Proofs.T1
