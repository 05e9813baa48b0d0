import Derived.Test.YtddbhngnhegndaaG0
import Derived.Test.YtddbhngnhegndaaG1
import Derived.Test.YtddbhngnhegndaaG2
import Derived.Test.YtddbhngnhegndaaG3
import Derived.Test.YtddbhngnhegndaaG5
namespace Go.Proofs.T1
open Go Go.Sx Go.Proofs
set_option maxRecDepth 100000
set_option linter.unusedVariables false
/-! tourney/contact.dot -/
noncomputable def contact_dot.code : Code := Func.cd Try.f25
def contact_dot (k : Nat) (a0 : V28) (a1 : V28) : Option Int :=
  some (iadd .i64 (imul .i64 a0.1 a1.1) (imul .i64 a0.2.1 a1.2.1))
noncomputable def contact_dot.sp (k : Nat) : Go.Sx.Spec := ⟨(.pair T28 (.pair T28 .unit)), (.one (.dp T2)), fun x => contact_dot k x.1 x.2.1, false⟩
noncomputable def contact_dot.cx (k : Nat) : Go.Sx.Ctx := ⟨tys, [], eqs, 16, false⟩
theorem contact_dot.cok (k : Nat) : CtxOk PR (contact_dot.cx k) := ctx_ok tysOk eqsOk FnsOk.nil
theorem contact_dot.way (k : Nat) (a0 : V28) (a1 : V28) : Owp (contact_dot k a0 a1) fun y => ∃ answers cmds, exec PR (contact_dot.cx k) contact_dot.code 0 (entry (.pair T28 (.pair T28 .unit)) (a0, a1, ())).st answers (Ret (contact_dot.cx k) Try.f25 cmds (.one (.dp T2)) y) := by
  unfold contact_dot; exact
   Owp.some (⟨[], [], via (retP trivial (.one (.dp T2)) ((iadd .i64 (imul .i64 a0.1 a1.1) (imul .i64 a0.2.1 a1.2.1)) : Int)) (by kernel_rfl)⟩)
theorem contact_dot.ok (k : Nat) : FnOk PR 25 (contact_dot.sp k) :=
  fn_ok (contact_dot.cok k) hmix Try.func25 (code := contact_dot.code) (by kernel_rfl) (by kernel_rfl) (by kernel_rfl) rfl (by kernel_rfl) (by kernel_rfl) (by kernel_rfl) (fun x => Nat.le_of_ble_eq_true (by kernel_rfl)) fun x y hy => (contact_dot.way k x.1 x.2.1).ap hy

/-! tourney/contact.facing -/
noncomputable def contact_facing.code : Code := Func.cd Try.f23
def contact_facing.c1 (k : Nat) (a0 : (List V28)) (a1 : V28) : Nat → Int → Int → Option (Int)
  | 0, _, _ => none
  | n + 1, v1, v2 =>
   bif' (ilt v2 (len a0))
   (req (inL v2 a0) <|
    bnd (contact_dot k (el Z28 a0 v2) a1) fun y5 =>
    req (inL v1 a0) <|
    bnd (contact_dot k (el Z28 a0 v1) a1) fun y8 =>
    bif' (ilt y5 y8)
    (contact_facing.c1 k a0 a1 n v2 (iadd .i64 v2 1))
    (contact_facing.c1 k a0 a1 n v1 (iadd .i64 v2 1)))
   (some v1)
def contact_facing (k : Nat) (a0 : (List V28)) (a1 : V28) : Option Int :=
  bnd (contact_facing.c1 k a0 a1 k 0 0) fun o11 =>
  req (nz (len a0)) <|
  req (inL (irem (isub .i64 (iadd .i64 o11 (len a0)) 1) (len a0)) a0) <|
  bnd (contact_dot k (el Z28 a0 (irem (isub .i64 (iadd .i64 o11 (len a0)) 1) (len a0))) a1) fun y15 =>
  req (inL (irem (iadd .i64 o11 1) (len a0)) a0) <|
  bnd (contact_dot k (el Z28 a0 (irem (iadd .i64 o11 1) (len a0))) a1) fun y18 =>
  bif' (ilt y15 y18)
  (some (irem (isub .i64 (iadd .i64 o11 (len a0)) 1) (len a0)))
  (some o11)
noncomputable def contact_facing.sp (k : Nat) : Go.Sx.Spec := ⟨(.pair T23 (.pair T28 .unit)), (.one (.dp T2)), fun x => contact_facing k x.1 x.2.1, false⟩
noncomputable def contact_facing.cx (k : Nat) : Go.Sx.Ctx := ⟨tys, [(25, contact_dot.sp k)], eqs, 55, false⟩
theorem contact_facing.cok (k : Nat) : CtxOk PR (contact_facing.cx k) := ctx_ok tysOk eqsOk (FnsOk.cons (contact_dot.ok k) FnsOk.nil)
noncomputable def contact_facing.c1p (a0 : (List V28)) (a1 : V28) (v1 : Int) (v2 : Int) : SL := ⟨[(0, (.val T23 a0)), (3, (.val .ptr ⟨0, 0, (0 : Int), 0, 0⟩)), (5, (.val T2 v1)), (9, (.val T23 a0)), (10, (.val T2 (len a0))), (11, (.val T2 v2))], [(0, .cells T28 a1)]⟩
noncomputable def contact_facing.c1q (a0 : (List V28)) (a1 : V28) (o : Int) : SL := (fun v => ⟨[(0, (.val T23 a0)), (3, (.val .ptr ⟨0, 0, (0 : Int), 0, 0⟩)), (5, (.val T2 v))], [(0, .cells T28 a1)]⟩) o
noncomputable def contact_facing.c1x (o : Int) : Ex := (fun _ => (.exit 0)) o
noncomputable def contact_facing.c1n (o : Int) : Nat := (fun _ => 1) o
theorem contact_facing.c1_ok (k : Nat) (a0 : (List V28)) (a1 : V28) : ∀ (n : Nat) (v1 : Int) (v2 : Int), Owp (contact_facing.c1 k a0 a1 n v1 v2) fun o => LTriple PR (contact_facing.cx k) (sub contact_facing.code [1, 1, 0, 1, 0, 0]) 1 (contact_facing.c1p a0 a1 v1 v2) (contact_facing.c1x o) (contact_facing.c1n o) (contact_facing.c1q a0 a1 o)
  | 0, _, _ => fun _ h => nomatch h
  | n + 1, v1, v2 => Owp.of (contact_facing.c1.eq_2 ..) (
   Owp.bif (fun e3 =>
   Owp.req fun h4 =>
    Owp.bnd fun y5 e6 =>
    Owp.req fun h7 =>
    Owp.bnd fun y8 e9 =>
    Owp.bif (fun e10 =>
    fun y hy => loop_back (contact_facing.cok k) hmix 1 (contact_facing.c1p a0 a1 v2 (iadd .i64 v2 (1 : Int))) [.dec true, .res (.one (.dp T2)) y5, .res (.one (.dp T2)) y8, .dec true] [] [(0, 0)] (via (finP (And.intro (And.intro (And.intro (And.intro (And.intro (And.intro trivial e3) h4) e6) h7) e9) e10) .normal [(0, 0)] (contact_facing.c1p a0 a1 v2 (iadd .i64 v2 (1 : Int)))) (by kernel_rfl)) ((contact_facing.c1_ok k a0 a1 n v2 (iadd .i64 v2 (1 : Int))).ap hy)) (fun e10 =>
    fun y hy => loop_back (contact_facing.cok k) hmix 1 (contact_facing.c1p a0 a1 v1 (iadd .i64 v2 (1 : Int))) [.dec true, .res (.one (.dp T2)) y5, .res (.one (.dp T2)) y8, .dec false] [] [(0, 0)] (via (finP (And.intro (And.intro (And.intro (And.intro (And.intro (And.intro trivial e3) h4) e6) h7) e9) e10) .normal [(0, 0)] (contact_facing.c1p a0 a1 v1 (iadd .i64 v2 (1 : Int)))) (by kernel_rfl)) ((contact_facing.c1_ok k a0 a1 n v1 (iadd .i64 v2 (1 : Int))).ap hy))) (fun e3 =>
   Owp.some (loop_exit (contact_facing.cok k) hmix [.dec false] [] [(0, 0)] (exne 0) (via (finP (And.intro trivial e3) (.exit 0) [(0, 0)] (contact_facing.c1q a0 a1 v1)) (by kernel_rfl)))))
theorem contact_facing.way (k : Nat) (a0 : (List V28)) (a1 : V28) : Owp (contact_facing k a0 a1) fun y => ∃ answers cmds, exec PR (contact_facing.cx k) contact_facing.code 0 (entry (.pair T23 (.pair T28 .unit)) (a0, a1, ())).st answers (Ret (contact_facing.cx k) Try.f23 cmds (.one (.dp T2)) y) := by
  unfold contact_facing; exact
   Owp.bnd fun o11 e12 =>
   Owp.req fun h13 =>
   Owp.req fun h14 =>
   Owp.bnd fun y15 e16 =>
   Owp.req fun h17 =>
   Owp.bnd fun y18 e19 =>
   Owp.bif (fun e20 =>
   Owp.some (⟨[.cut ⟨[], [(0, 0)], (contact_facing.c1p a0 a1 (0 : Int) (0 : Int)), 1, (.exit 0), (contact_facing.c1q a0 a1 o11), 1⟩, .res (.one (.dp T2)) y15, .res (.one (.dp T2)) y18, .dec true], [], via (cutP trivial [(0, 0)] (contact_facing.c1p a0 a1 (0 : Int) (0 : Int)) (((contact_facing.c1_ok k a0 a1 k (0 : Int) (0 : Int)).ap e12).triple) (retP (And.intro (And.intro (And.intro (And.intro (And.intro (And.intro (And.intro trivial h13) h14) e16) h13) h17) e19) e20) (.one (.dp T2)) ((irem (isub .i64 (iadd .i64 o11 (len a0)) (1 : Int)) (len a0)) : Int))) (by kernel_rfl)⟩)) (fun e20 =>
   Owp.some (⟨[.cut ⟨[], [(0, 0)], (contact_facing.c1p a0 a1 (0 : Int) (0 : Int)), 1, (.exit 0), (contact_facing.c1q a0 a1 o11), 1⟩, .res (.one (.dp T2)) y15, .res (.one (.dp T2)) y18, .dec false], [], via (cutP trivial [(0, 0)] (contact_facing.c1p a0 a1 (0 : Int) (0 : Int)) (((contact_facing.c1_ok k a0 a1 k (0 : Int) (0 : Int)).ap e12).triple) (retP (And.intro (And.intro (And.intro (And.intro (And.intro (And.intro (And.intro trivial h13) h14) e16) h13) h17) e19) e20) (.one (.dp T2)) (o11 : Int))) (by kernel_rfl)⟩))
theorem contact_facing.ok (k : Nat) : FnOk PR 23 (contact_facing.sp k) :=
  fn_ok (contact_facing.cok k) hmix Try.func23 (code := contact_facing.code) (by kernel_rfl) (by kernel_rfl) (by kernel_rfl) rfl (by kernel_rfl) (by kernel_rfl) (by kernel_rfl) (fun x => Nat.le_of_ble_eq_true (by kernel_rfl)) fun x y hy => (contact_facing.way k x.1 x.2.1).ap hy

/-! tourney/contact.minus -/
noncomputable def contact_minus.code : Code := Func.cd Try.f26
def contact_minus (k : Nat) (a0 : V28) (a1 : V28) : Option V28 :=
  some ((isub .i64 a0.1 a1.1), (isub .i64 a0.2.1 a1.2.1), ())
noncomputable def contact_minus.sp (k : Nat) : Go.Sx.Spec := ⟨(.pair T28 (.pair T28 .unit)), (.one (.dp T28)), fun x => contact_minus k x.1 x.2.1, false⟩
noncomputable def contact_minus.cx (k : Nat) : Go.Sx.Ctx := ⟨tys, [], eqs, 16, false⟩
theorem contact_minus.cok (k : Nat) : CtxOk PR (contact_minus.cx k) := ctx_ok tysOk eqsOk FnsOk.nil
theorem contact_minus.way (k : Nat) (a0 : V28) (a1 : V28) : Owp (contact_minus k a0 a1) fun y => ∃ answers cmds, exec PR (contact_minus.cx k) contact_minus.code 0 (entry (.pair T28 (.pair T28 .unit)) (a0, a1, ())).st answers (Ret (contact_minus.cx k) Try.f26 cmds (.one (.dp T28)) y) := by
  unfold contact_minus; exact
   Owp.some (⟨[], [], via (retP trivial (.one (.dp T28)) (((isub .i64 a0.1 a1.1), (isub .i64 a0.2.1 a1.2.1), ()) : V28)) (by kernel_rfl)⟩)
theorem contact_minus.ok (k : Nat) : FnOk PR 26 (contact_minus.sp k) :=
  fn_ok (contact_minus.cok k) hmix Try.func26 (code := contact_minus.code) (by kernel_rfl) (by kernel_rfl) (by kernel_rfl) rfl (by kernel_rfl) (by kernel_rfl) (by kernel_rfl) (fun x => Nat.le_of_ble_eq_true (by kernel_rfl)) fun x y hy => (contact_minus.way k x.1 x.2.1).ap hy

/-! tourney/contact.between -/
noncomputable def contact_between.code : Code := Func.cd Try.f53
def contact_between (k : Nat) (a0 : V28) (a1 : V28) (a2 : Int) (a3 : Int) : Option V28 :=
  bnd (poly_Times k (isub .i64 a1.1 a0.1) a2) fun y1 =>
  bnd (poly_Wide_Over k y1 (isub .i64 a2 a3)) fun y3 =>
  bnd (poly_Times k (isub .i64 a1.2.1 a0.2.1) a2) fun y5 =>
  bnd (poly_Wide_Over k y5 (isub .i64 a2 a3)) fun y7 =>
  some ((iadd .i64 a0.1 y3.1), (iadd .i64 a0.2.1 y7.1), ())
noncomputable def contact_between.sp (k : Nat) : Go.Sx.Spec := ⟨(.pair T28 (.pair T28 T28)), (.one (.dp T28)), fun x => contact_between k x.1 x.2.1 x.2.2.1 x.2.2.2.1, false⟩
noncomputable def contact_between.cx (k : Nat) : Go.Sx.Ctx := ⟨tys, [(27, poly_Times.sp k), (28, poly_Wide_Over.sp k)], eqs, 50, false⟩
theorem contact_between.cok (k : Nat) : CtxOk PR (contact_between.cx k) := ctx_ok tysOk eqsOk (FnsOk.cons (poly_Times.ok k) (FnsOk.cons (poly_Wide_Over.ok k) FnsOk.nil))
theorem contact_between.way (k : Nat) (a0 : V28) (a1 : V28) (a2 : Int) (a3 : Int) : Owp (contact_between k a0 a1 a2 a3) fun y => ∃ answers cmds, exec PR (contact_between.cx k) contact_between.code 0 (entry (.pair T28 (.pair T28 T28)) (a0, a1, a2, a3, ())).st answers (Ret (contact_between.cx k) Try.f53 cmds (.one (.dp T28)) y) := by
  unfold contact_between; exact
   Owp.bnd fun y1 e2 =>
   Owp.bnd fun y3 e4 =>
   Owp.bnd fun y5 e6 =>
   Owp.bnd fun y7 e8 =>
   Owp.some (⟨[.res (.one (.dp T63)) y1, .res (.more (.dp T2) (.one (.dp T2))) y3, .res (.one (.dp T63)) y5, .res (.more (.dp T2) (.one (.dp T2))) y7], [], via (retP (And.intro (And.intro (And.intro (And.intro trivial e2) e4) e6) e8) (.one (.dp T28)) (((iadd .i64 a0.1 y3.1), (iadd .i64 a0.2.1 y7.1), ()) : V28)) (by kernel_rfl)⟩)
theorem contact_between.ok (k : Nat) : FnOk PR 53 (contact_between.sp k) :=
  fn_ok (contact_between.cok k) hmix Try.func53 (code := contact_between.code) (by kernel_rfl) (by kernel_rfl) (by kernel_rfl) rfl (by kernel_rfl) (by kernel_rfl) (by kernel_rfl) (fun x => Nat.le_of_ble_eq_true (by kernel_rfl)) fun x y hy => (contact_between.way k x.1 x.2.1 x.2.2.1 x.2.2.2.1).ap hy

/-! tourney/contact.clip -/
noncomputable def contact_clip.code : Code := Func.cd Try.f30
def contact_clip.c1 (k : Nat) (y3 : Int) (y7 : Int) : Option (Bool) :=
  bif' (ilt y3 0)
  (some (ilt y7 0))
  (some false)
def contact_clip.c2 (k : Nat) (a0 : V28) (a1 : V28) (y3 : Int) (y7 : Int) : Option ((V28 × V28)) :=
  bif' (ilt y3 0)
  (bnd (contact_between k a0 a1 y3 y7) fun y14 =>
   some (y14, a1))
  (bif' (ilt y7 0)
   (bnd (contact_between k a0 a1 y3 y7) fun y17 =>
    some (a0, y17))
   (some (a0, a1)))
def contact_clip (k : Nat) (a0 : V28) (a1 : V28) (a2 : V28) (a3 : V28) : Option (V28 × (V28 × Bool)) :=
  bnd (contact_minus k a0 a2) fun y1 =>
  bnd (contact_dot k y1 a3) fun y3 =>
  bnd (contact_minus k a1 a2) fun y5 =>
  bnd (contact_dot k y5 a3) fun y7 =>
  bnd (contact_clip.c1 k y3 y7) fun o10 =>
  bif' o10
  (some (a0, a1, false))
  (bnd (contact_clip.c2 k a0 a1 y3 y7) fun o19 =>
   some (o19.1, o19.2, true))
noncomputable def contact_clip.sp (k : Nat) : Go.Sx.Spec := ⟨(.pair T28 (.pair T28 (.pair T28 (.pair T28 .unit)))), (.more (.dp T28) (.more (.dp T28) (.one (.dp T4)))), fun x => contact_clip k x.1 x.2.1 x.2.2.1 x.2.2.2.1, false⟩
noncomputable def contact_clip.cx (k : Nat) : Go.Sx.Ctx := ⟨tys, [(26, contact_minus.sp k), (25, contact_dot.sp k), (53, contact_between.sp k)], eqs, 50, false⟩
theorem contact_clip.cok (k : Nat) : CtxOk PR (contact_clip.cx k) := ctx_ok tysOk eqsOk (FnsOk.cons (contact_minus.ok k) (FnsOk.cons (contact_dot.ok k) (FnsOk.cons (contact_between.ok k) FnsOk.nil)))
noncomputable def contact_clip.c1p (a0 : V28) (a1 : V28) (y3 : Int) (y7 : Int) : SL := ⟨[(4, (.val .ptr ⟨0, 0, (0 : Int), 0, 0⟩)), (5, (.val .ptr ⟨1, 0, (0 : Int), 0, 0⟩)), (8, (.val .ptr ⟨2, 0, (0 : Int), 0, 0⟩)), (9, (.val .ptr ⟨3, 0, (0 : Int), 0, 0⟩)), (11, (.val T2 y3)), (12, (.val T2 y7))], [(0, .cells T28 a0), (1, .cells T28 a1), (2, .cells T28 ((0 : Int), (0 : Int), ())), (3, .cells T28 ((0 : Int), (0 : Int), ()))]⟩
noncomputable def contact_clip.c1q (a0 : V28) (a1 : V28) (y3 : Int) (y7 : Int) (o : Bool) : SL := (fun v => ⟨[(4, (.val .ptr ⟨0, 0, (0 : Int), 0, 0⟩)), (5, (.val .ptr ⟨1, 0, (0 : Int), 0, 0⟩)), (8, (.val .ptr ⟨2, 0, (0 : Int), 0, 0⟩)), (9, (.val .ptr ⟨3, 0, (0 : Int), 0, 0⟩)), (11, (.val T2 y3)), (12, (.val T2 y7)), (23, (.val T4 v))], [(0, .cells T28 a0), (1, .cells T28 a1), (2, .cells T28 ((0 : Int), (0 : Int), ())), (3, .cells T28 ((0 : Int), (0 : Int), ()))]⟩) o
noncomputable def contact_clip.c1x (o : Bool) : Ex := (fun _ => .normal) o
noncomputable def contact_clip.c1n (o : Bool) : Nat := (fun _ => 4) o
theorem contact_clip.c1_ok (k : Nat) (a0 : V28) (a1 : V28) (y3 : Int) (y7 : Int) : Owp (contact_clip.c1 k y3 y7) fun o => Triple PR (contact_clip.cx k) (sub contact_clip.code [1, 1, 0, 0, 0]) 4 (contact_clip.c1p a0 a1 y3 y7) (contact_clip.c1x o) (contact_clip.c1n o) (contact_clip.c1q a0 a1 y3 y7 o) := by
  unfold contact_clip.c1; exact
   Owp.bif (fun e9 =>
   Owp.some (triple_way (contact_clip.cok k) hmix [.dec true, .dec true, .dec true] [] [(0, 0), (1, 1), (2, 2), (3, 3)] (via (finP (And.intro (And.intro (And.intro trivial e9) e9) e9) .normal [(0, 0), (1, 1), (2, 2), (3, 3)] (contact_clip.c1q a0 a1 y3 y7 (ilt y7 (0 : Int)))) (by kernel_rfl)))) (fun e9 =>
   Owp.some (triple_way (contact_clip.cok k) hmix [.dec false, .dec false, .dec false] [] [(0, 0), (1, 1), (2, 2), (3, 3)] (via (finP (And.intro (And.intro (And.intro trivial e9) e9) e9) .normal [(0, 0), (1, 1), (2, 2), (3, 3)] (contact_clip.c1q a0 a1 y3 y7 false)) (by kernel_rfl))))
noncomputable def contact_clip.c2p (a0 : V28) (a1 : V28) (y3 : Int) (y7 : Int) : SL := ⟨[(4, (.val .ptr ⟨0, 0, (0 : Int), 0, 0⟩)), (5, (.val .ptr ⟨1, 0, (0 : Int), 0, 0⟩)), (8, (.val .ptr ⟨2, 0, (0 : Int), 0, 0⟩)), (9, (.val .ptr ⟨3, 0, (0 : Int), 0, 0⟩)), (11, (.val T2 y3)), (12, (.val T2 y7)), (32, (.val T4 (ilt y3 (0 : Int))))], [(0, .cells T28 a0), (1, .cells T28 a1), (2, .cells T28 ((0 : Int), (0 : Int), ())), (3, .cells T28 ((0 : Int), (0 : Int), ()))]⟩
noncomputable def contact_clip.c2q (o : (V28 × V28)) : SL := (fun v => ⟨[(4, (.val .ptr ⟨0, 0, (0 : Int), 0, 0⟩)), (5, (.val .ptr ⟨1, 0, (0 : Int), 0, 0⟩)), (8, (.val .ptr ⟨2, 0, (0 : Int), 0, 0⟩)), (9, (.val .ptr ⟨3, 0, (0 : Int), 0, 0⟩))], [(0, .cells T28 v.1), (1, .cells T28 v.2), (2, .cells T28 ((0 : Int), (0 : Int), ())), (3, .cells T28 ((0 : Int), (0 : Int), ()))]⟩) o
noncomputable def contact_clip.c2x (o : (V28 × V28)) : Ex := (fun _ => .normal) o
noncomputable def contact_clip.c2n (o : (V28 × V28)) : Nat := (fun _ => 4) o
theorem contact_clip.c2_ok (k : Nat) (a0 : V28) (a1 : V28) (y3 : Int) (y7 : Int) : Owp (contact_clip.c2 k a0 a1 y3 y7) fun o => Triple PR (contact_clip.cx k) (sub contact_clip.code [1, 1, 0, 0, 1, 1, 1]) 4 (contact_clip.c2p a0 a1 y3 y7) (contact_clip.c2x o) (contact_clip.c2n o) (contact_clip.c2q o) := by
  unfold contact_clip.c2; exact
   Owp.bif (fun e13 =>
   Owp.bnd fun y14 e15 =>
    Owp.some (triple_way (contact_clip.cok k) hmix [.dec true, .res (.one (.dp T28)) y14] [] [(0, 0), (1, 1), (2, 2), (3, 3)] (via (finP (And.intro (And.intro trivial e13) e15) .normal [(0, 0), (1, 1), (2, 2), (3, 3)] (contact_clip.c2q (y14, a1))) (by kernel_rfl)))) (fun e13 =>
   Owp.bif (fun e16 =>
    Owp.bnd fun y17 e18 =>
     Owp.some (triple_way (contact_clip.cok k) hmix [.dec false, .dec true, .res (.one (.dp T28)) y17] [] [(0, 0), (1, 1), (2, 2), (3, 3)] (via (finP (And.intro (And.intro (And.intro trivial e13) e16) e18) .normal [(0, 0), (1, 1), (2, 2), (3, 3)] (contact_clip.c2q (a0, y17))) (by kernel_rfl)))) (fun e16 =>
    Owp.some (triple_way (contact_clip.cok k) hmix [.dec false, .dec false] [] [(0, 0), (1, 1), (2, 2), (3, 3)] (via (finP (And.intro (And.intro trivial e13) e16) .normal [(0, 0), (1, 1), (2, 2), (3, 3)] (contact_clip.c2q (a0, a1))) (by kernel_rfl)))))
theorem contact_clip.way (k : Nat) (a0 : V28) (a1 : V28) (a2 : V28) (a3 : V28) : Owp (contact_clip k a0 a1 a2 a3) fun y => ∃ answers cmds, exec PR (contact_clip.cx k) contact_clip.code 0 (entry (.pair T28 (.pair T28 (.pair T28 (.pair T28 .unit)))) (a0, a1, a2, a3, ())).st answers (Ret (contact_clip.cx k) Try.f30 cmds (.more (.dp T28) (.more (.dp T28) (.one (.dp T4)))) y) := by
  unfold contact_clip; exact
   Owp.bnd fun y1 e2 =>
   Owp.bnd fun y3 e4 =>
   Owp.bnd fun y5 e6 =>
   Owp.bnd fun y7 e8 =>
   Owp.bnd fun o10 e11 =>
   Owp.bif (fun e12 =>
   Owp.some (⟨[.res (.one (.dp T28)) y1, .res (.one (.dp T2)) y3, .res (.one (.dp T28)) y5, .res (.one (.dp T2)) y7, .cutR 2 ⟨[], [(0, 0), (1, 1), (2, 4), (3, 5)], (contact_clip.c1p a0 a1 y3 y7), 4, .normal, (contact_clip.c1q a0 a1 y3 y7 o10), 4⟩, .dec true], [], via (cutP (And.intro (And.intro (And.intro (And.intro trivial e2) e4) e6) e8) [(0, 0), (1, 1), (2, 4), (3, 5)] (contact_clip.c1p a0 a1 y3 y7) (((contact_clip.c1_ok k a0 a1 y3 y7).ap e11)) (retP (And.intro trivial e12) (.more (.dp T28) (.more (.dp T28) (.one (.dp T4)))) ((a0, a1, false) : (V28 × (V28 × Bool))))) (by kernel_rfl)⟩)) (fun e12 =>
   Owp.bnd fun o19 e20 =>
    Owp.some (⟨[.res (.one (.dp T28)) y1, .res (.one (.dp T2)) y3, .res (.one (.dp T28)) y5, .res (.one (.dp T2)) y7, .cutR 2 ⟨[], [(0, 0), (1, 1), (2, 4), (3, 5)], (contact_clip.c1p a0 a1 y3 y7), 4, .normal, (contact_clip.c1q a0 a1 y3 y7 o10), 4⟩, .dec false, .cut ⟨[], [(0, 0), (1, 1), (2, 2), (3, 3)], (contact_clip.c2p a0 a1 y3 y7), 4, .normal, (contact_clip.c2q o19), 4⟩], [], via (cutP (And.intro (And.intro (And.intro (And.intro trivial e2) e4) e6) e8) [(0, 0), (1, 1), (2, 4), (3, 5)] (contact_clip.c1p a0 a1 y3 y7) (((contact_clip.c1_ok k a0 a1 y3 y7).ap e11)) (cutP (And.intro trivial e12) [(0, 0), (1, 1), (2, 2), (3, 3)] (contact_clip.c2p a0 a1 y3 y7) (((contact_clip.c2_ok k a0 a1 y3 y7).ap e20)) (retP trivial (.more (.dp T28) (.more (.dp T28) (.one (.dp T4)))) ((o19.1, o19.2, true) : (V28 × (V28 × Bool)))))) (by kernel_rfl)⟩))
theorem contact_clip.ok (k : Nat) : FnOk PR 30 (contact_clip.sp k) :=
  fn_ok (contact_clip.cok k) hmix Try.func30 (code := contact_clip.code) (by kernel_rfl) (by kernel_rfl) (by kernel_rfl) rfl (by kernel_rfl) (by kernel_rfl) (by kernel_rfl) (fun x => Nat.le_of_ble_eq_true (by kernel_rfl)) fun x y hy => (contact_clip.way k x.1 x.2.1 x.2.2.1 x.2.2.2.1).ap hy

/-! tourney/contact.Of$1 -/
noncomputable def contact_Of_1.code : Code := Func.cd Try.f24
def contact_Of_1 (k : Nat) (a0 : V28) (a1 : V28) (a2 : V28) : Option (Int × Bool) :=
  bnd (contact_minus k a1 a0) fun y1 =>
  bnd (contact_dot k y1 a2) fun y3 =>
  bnd (poly_Times k y3 1) fun y5 =>
  bnd (sat_Length k a2) fun y7 =>
  bnd (poly_Wide_Over k y5 y7) fun y9 =>
  some (y9.1, (ige y3 0))
noncomputable def contact_Of_1.sp (k : Nat) : Go.Sx.Spec := ⟨(.pair T28 (.pair (.ref T28) (.pair (.ref T28) .unit))), (.more (.dp T2) (.one (.dp T4))), fun x => contact_Of_1 k x.1 x.2.1 x.2.2.1, false⟩
noncomputable def contact_Of_1.cx (k : Nat) : Go.Sx.Ctx := ⟨tys, [(26, contact_minus.sp k), (25, contact_dot.sp k), (27, poly_Times.sp k), (29, sat_Length.sp k), (28, poly_Wide_Over.sp k)], eqs, 25, false⟩
theorem contact_Of_1.cok (k : Nat) : CtxOk PR (contact_Of_1.cx k) := ctx_ok tysOk eqsOk (FnsOk.cons (contact_minus.ok k) (FnsOk.cons (contact_dot.ok k) (FnsOk.cons (poly_Times.ok k) (FnsOk.cons (sat_Length.ok k) (FnsOk.cons (poly_Wide_Over.ok k) FnsOk.nil)))))
theorem contact_Of_1.way (k : Nat) (a0 : V28) (a1 : V28) (a2 : V28) : Owp (contact_Of_1 k a0 a1 a2) fun y => ∃ answers cmds, exec PR (contact_Of_1.cx k) contact_Of_1.code 0 (entry (.pair T28 (.pair (.ref T28) (.pair (.ref T28) .unit))) (a0, a1, a2, ())).st answers (Ret (contact_Of_1.cx k) Try.f24 cmds (.more (.dp T2) (.one (.dp T4))) y) := by
  unfold contact_Of_1; exact
   Owp.bnd fun y1 e2 =>
   Owp.bnd fun y3 e4 =>
   Owp.bnd fun y5 e6 =>
   Owp.bnd fun y7 e8 =>
   Owp.bnd fun y9 e10 =>
   Owp.some (⟨[.res (.one (.dp T28)) y1, .res (.one (.dp T2)) y3, .res (.one (.dp T63)) y5, .res (.one (.dp T2)) y7, .res (.more (.dp T2) (.one (.dp T2))) y9], [], via (retP (And.intro (And.intro (And.intro (And.intro (And.intro trivial e2) e4) e6) e8) e10) (.more (.dp T2) (.one (.dp T4))) ((y9.1, (ige y3 (0 : Int))) : (Int × Bool))) (by kernel_rfl)⟩)
theorem contact_Of_1.ok (k : Nat) : FnOk PR 24 (contact_Of_1.sp k) :=
  fn_ok (contact_Of_1.cok k) hmix Try.func24 (code := contact_Of_1.code) (by kernel_rfl) (by kernel_rfl) (by kernel_rfl) rfl (by kernel_rfl) (by kernel_rfl) (by kernel_rfl) (fun x => Nat.le_of_ble_eq_true (by kernel_rfl)) fun x y hy => (contact_Of_1.way k x.1 x.2.1 x.2.2.1).ap hy

/-! tourney/contact.Of -/
noncomputable def contact_Of.code : Code := Func.cd Try.f6
def contact_Of.c1 (k : Nat) (y1 : ((Bool × V28) × (Bool × Int))) : Option (Bool) :=
  bif' (ine y1.2.2 0)
  (some true)
  (some (!y1.2.1))
def contact_Of.c2 (k : Nat) (a0 : (List V28)) (a1 : (List V28)) (y1 : ((Bool × V28) × (Bool × Int))) : Option (((List V28) × ((List V28) × Int))) :=
  bif' y1.1.1
  (some (a1, a0, (iadd .i64 8 y1.1.2.1)))
  (some (a0, a1, y1.1.2.1))
def contact_Of.c3 (k : Nat) (o10 : ((List V28) × ((List V28) × Int))) (y1 : ((Bool × V28) × (Bool × Int))) (y24 : (V28 × (V28 × Bool))) : Option ((Bool × (V28 × V28))) :=
  bif' y24.2.2
  (bnd (contact_minus k (el Z28 o10.1 y1.1.2.1) (el Z28 o10.1 (irem (iadd .i64 y1.1.2.1 1) (len o10.1)))) fun y27 =>
   bnd (contact_clip k y24.1 y24.2.1 (el Z28 o10.1 (irem (iadd .i64 y1.1.2.1 1) (len o10.1))) y27) fun y29 =>
   some (y29.2.2, y29.1, y29.2.1))
  (some (y24.2.2, y24.1, y24.2.1))
def contact_Of.c5 (k : Nat) (o31 : (Bool × (V28 × V28))) (v33 : Int) (y37 : (Int × Bool)) : Option (Bool) :=
  bif' o31.1
  (bif' y37.2
   (bif' (ieq v33 0)
    (some true)
    (some (!(Ty.eqb T28 o31.2.2 o31.2.1))))
   (some false))
  (some false)
def contact_Of.c4 (k : Nat) (o10 : ((List V28) × ((List V28) × Int))) (o31 : (Bool × (V28 × V28))) (y1 : ((Bool × V28) × (Bool × Int))) (y7 : (Bool × (Int × V28))) (y12 : V28) (y17 : Int) : Nat → Int → (List (V28 × (V28 × V28))) → Option ((List (V28 × (V28 × V28))))
  | 0, _, _ => none
  | n + 1, v33, v34 =>
   bif' (ilt v33 (len [o31.2.1, o31.2.2]))
   (req (inL v33 [o31.2.1, o31.2.2]) <|
    bnd (contact_Of_1 k (el Z28 [o31.2.1, o31.2.2] v33) (el Z28 o10.1 y1.1.2.1) y12) fun y37 =>
    bnd (contact_Of.c5 k o31 v33 y37) fun o42 =>
    bif' o42
    (req (room 48 v34 [((el Z28 [o31.2.1, o31.2.2] v33), y7.2.2, y37.1, (iadd .i64 (imul .i64 (iadd .i64 (imul .i64 o10.2.2 8) y17) 2) v33), ())]) <|
     contact_Of.c4 k o10 o31 y1 y7 y12 y17 n (iadd .i64 v33 1) (v34 ++ [((el Z28 [o31.2.1, o31.2.2] v33), y7.2.2, y37.1, (iadd .i64 (imul .i64 (iadd .i64 (imul .i64 o10.2.2 8) y17) 2) v33), ())]))
    (contact_Of.c4 k o10 o31 y1 y7 y12 y17 n (iadd .i64 v33 1) v34))
   (some v34)
def contact_Of (k : Nat) (a0 : (List V28)) (a1 : (List V28)) : Option (List (V28 × (V28 × V28))) :=
  bnd (sat_Least k a0 a1) fun y1 =>
  bnd (contact_Of.c1 k y1) fun o4 =>
  bif' o4
  (some [])
  (bnd (sat_Test k a0 a1) fun y7 =>
   bnd (contact_Of.c2 k a0 a1 y1) fun o10 =>
   bnd (sat_Normal k o10.1 y1.1.2.1) fun y12 =>
   req (inL y1.1.2.1 o10.1) <|
   req (nz (len o10.1)) <|
   req (inL (irem (iadd .i64 y1.1.2.1 1) (len o10.1)) o10.1) <|
   bnd (contact_facing k o10.2.1 y12) fun y17 =>
   req (inL y17 o10.2.1) <|
   req (nz (len o10.2.1)) <|
   req (inL (irem (iadd .i64 y17 1) (len o10.2.1)) o10.2.1) <|
   bnd (contact_minus k (el Z28 o10.1 (irem (iadd .i64 y1.1.2.1 1) (len o10.1))) (el Z28 o10.1 y1.1.2.1)) fun y22 =>
   bnd (contact_clip k (el Z28 o10.2.1 y17) (el Z28 o10.2.1 (irem (iadd .i64 y17 1) (len o10.2.1))) (el Z28 o10.1 y1.1.2.1) y22) fun y24 =>
   bnd (contact_Of.c3 k o10 y1 y24) fun o31 =>
   bnd (contact_Of.c4 k o10 o31 y1 y7 y12 y17 k 0 []) fun o46 =>
   bif' (ieq (len o46) 0)
   (bnd (poly_Support k o10.2.1 ((ineg .i64 y12.1), (ineg .i64 y12.2.1), ())) fun y49 =>
    req (inL y49 o10.2.1) <|
    bnd (contact_Of_1 k (el Z28 o10.2.1 y49) (el Z28 o10.1 y1.1.2.1) y12) fun y52 =>
    req (room 48 o46 [((el Z28 o10.2.1 y49), y7.2.2, y52.1, (imul .i64 (iadd .i64 (imul .i64 o10.2.2 8) y17) 2), ())]) <|
    some (o46 ++ [((el Z28 o10.2.1 y49), y7.2.2, y52.1, (imul .i64 (iadd .i64 (imul .i64 o10.2.2 8) y17) 2), ())]))
   (some o46))
noncomputable def contact_Of.sp (k : Nat) : Go.Sx.Spec := ⟨(.pair T23 (.pair T23 .unit)), (.one (.ow (.pair T28 (.pair T28 T28)) 35)), fun x => contact_Of k x.1 x.2.1, false⟩
noncomputable def contact_Of.cx (k : Nat) : Go.Sx.Ctx := ⟨tys, [(21, sat_Least.sp k), (7, sat_Test.sp k), (22, sat_Normal.sp k), (23, contact_facing.sp k), (26, contact_minus.sp k), (30, contact_clip.sp k), (24, contact_Of_1.sp k), (31, poly_Support.sp k)], eqs, 190, false⟩
theorem contact_Of.cok (k : Nat) : CtxOk PR (contact_Of.cx k) := ctx_ok tysOk eqsOk (FnsOk.cons (sat_Least.ok k) (FnsOk.cons (sat_Test.ok k) (FnsOk.cons (sat_Normal.ok k) (FnsOk.cons (contact_facing.ok k) (FnsOk.cons (contact_minus.ok k) (FnsOk.cons (contact_clip.ok k) (FnsOk.cons (contact_Of_1.ok k) (FnsOk.cons (poly_Support.ok k) FnsOk.nil))))))))
noncomputable def contact_Of.c1p (a0 : (List V28)) (a1 : (List V28)) (y1 : ((Bool × V28) × (Bool × Int))) : SL := ⟨[(0, (.val T23 a0)), (1, (.val T23 a1)), (5, (.val .ptr ⟨0, 0, (0 : Int), 0, 0⟩)), (6, (.val T4 y1.2.1)), (7, (.val T2 y1.2.2))], [(0, .cells (.pair T4 T28) y1.1)]⟩
noncomputable def contact_Of.c1q (a0 : (List V28)) (a1 : (List V28)) (y1 : ((Bool × V28) × (Bool × Int))) (o : Bool) : SL := (fun v => ⟨[(0, (.val T23 a0)), (1, (.val T23 a1)), (5, (.val .ptr ⟨0, 0, (0 : Int), 0, 0⟩)), (42, (.val T4 v))], [(0, .cells (.pair T4 T28) y1.1)]⟩) o
noncomputable def contact_Of.c1x (o : Bool) : Ex := (fun _ => .normal) o
noncomputable def contact_Of.c1n (o : Bool) : Nat := (fun _ => 1) o
theorem contact_Of.c1_ok (k : Nat) (a0 : (List V28)) (a1 : (List V28)) (y1 : ((Bool × V28) × (Bool × Int))) : Owp (contact_Of.c1 k y1) fun o => Triple PR (contact_Of.cx k) (sub contact_Of.code [1, 1, 0, 0]) 1 (contact_Of.c1p a0 a1 y1) (contact_Of.c1x o) (contact_Of.c1n o) (contact_Of.c1q a0 a1 y1 o) := by
  unfold contact_Of.c1; exact
   Owp.bif (fun e3 =>
   Owp.some (triple_way (contact_Of.cok k) hmix [.dec true, .dec true, .dec true] [] [(0, 0)] (via (finP (And.intro (And.intro (And.intro trivial e3) e3) e3) .normal [(0, 0)] (contact_Of.c1q a0 a1 y1 true)) (by kernel_rfl)))) (fun e3 =>
   Owp.some (triple_way (contact_Of.cok k) hmix [.dec false, .dec false, .dec false] [] [(0, 0)] (via (finP (And.intro (And.intro (And.intro trivial e3) e3) e3) .normal [(0, 0)] (contact_Of.c1q a0 a1 y1 (!y1.2.1))) (by kernel_rfl))))
noncomputable def contact_Of.c2p (a0 : (List V28)) (a1 : (List V28)) (y1 : ((Bool × V28) × (Bool × Int))) (y7 : (Bool × (Int × V28))) : SL := ⟨[(0, (.val T23 a0)), (1, (.val T23 a1)), (5, (.val .ptr ⟨0, 0, (0 : Int), 0, 0⟩)), (10, (.val .ptr ⟨1, 0, (0 : Int), 0, 0⟩)), (11, (.val T23 a0)), (12, (.val T23 a1)), (13, (.val T2 y1.1.2.1)), (55, (.val T4 y1.1.1))], [(0, .cells (.pair T4 T28) y1.1), (1, .cells T28 y7.2.2)]⟩
noncomputable def contact_Of.c2q (y1 : ((Bool × V28) × (Bool × Int))) (y7 : (Bool × (Int × V28))) (o : ((List V28) × ((List V28) × Int))) : SL := (fun v => ⟨[(5, (.val .ptr ⟨0, 0, (0 : Int), 0, 0⟩)), (10, (.val .ptr ⟨1, 0, (0 : Int), 0, 0⟩)), (11, (.val T23 v.1)), (12, (.val T23 v.2.1)), (13, (.val T2 v.2.2))], [(0, .cells (.pair T4 T28) y1.1), (1, .cells T28 y7.2.2)]⟩) o
noncomputable def contact_Of.c2x (o : ((List V28) × ((List V28) × Int))) : Ex := (fun _ => .normal) o
noncomputable def contact_Of.c2n (o : ((List V28) × ((List V28) × Int))) : Nat := (fun _ => 2) o
theorem contact_Of.c2_ok (k : Nat) (a0 : (List V28)) (a1 : (List V28)) (y1 : ((Bool × V28) × (Bool × Int))) (y7 : (Bool × (Int × V28))) : Owp (contact_Of.c2 k a0 a1 y1) fun o => Triple PR (contact_Of.cx k) (sub contact_Of.code [1, 1, 1, 1, 1, 0, 1]) 2 (contact_Of.c2p a0 a1 y1 y7) (contact_Of.c2x o) (contact_Of.c2n o) (contact_Of.c2q y1 y7 o) := by
  unfold contact_Of.c2; exact
   Owp.bif (fun e9 =>
   Owp.some (triple_way (contact_Of.cok k) hmix [.dec true] [] [(0, 0), (1, 1)] (via (finP (And.intro trivial e9) .normal [(0, 0), (1, 1)] (contact_Of.c2q y1 y7 (a1, a0, (iadd .i64 (8 : Int) y1.1.2.1)))) (by kernel_rfl)))) (fun e9 =>
   Owp.some (triple_way (contact_Of.cok k) hmix [.dec false] [] [(0, 0), (1, 1)] (via (finP (And.intro trivial e9) .normal [(0, 0), (1, 1)] (contact_Of.c2q y1 y7 (a0, a1, y1.1.2.1))) (by kernel_rfl))))
noncomputable def contact_Of.c3p (o10 : ((List V28) × ((List V28) × Int))) (y1 : ((Bool × V28) × (Bool × Int))) (y7 : (Bool × (Int × V28))) (y12 : V28) (y17 : Int) (y24 : (V28 × (V28 × Bool))) : SL := ⟨[(10, (.val .ptr ⟨0, 0, (0 : Int), 0, 0⟩)), (12, (.val T23 o10.2.1)), (13, (.val T2 (imul .i64 (iadd .i64 (imul .i64 o10.2.2 (8 : Int)) y17) (2 : Int)))), (14, (.val .ptr ⟨1, 0, (0 : Int), 0, 0⟩)), (15, (.val .ptr ⟨2, 0, (0 : Int), 0, 0⟩)), (16, (.val .ptr ⟨3, 0, (0 : Int), 0, 0⟩)), (18, (.val .clo (24, [⟨2, 0, (0 : Int), 0, 0⟩, ⟨1, 0, (0 : Int), 0, 0⟩]))), (19, (.val .ptr ⟨4, 0, (0 : Int), 0, 0⟩)), (20, (.val .ptr ⟨5, 0, (0 : Int), 0, 0⟩)), (21, (.val T4 y24.2.2)), (109, (.val T4 y24.2.2))], [(0, .cells T28 y7.2.2), (1, .cells T28 y12), (2, .cells T28 (el Z28 o10.1 y1.1.2.1)), (3, .cells T28 (el Z28 o10.1 (irem (iadd .i64 y1.1.2.1 (1 : Int)) (len o10.1)))), (4, .cells T28 y24.1), (5, .cells T28 y24.2.1)]⟩
noncomputable def contact_Of.c3q (o10 : ((List V28) × ((List V28) × Int))) (y1 : ((Bool × V28) × (Bool × Int))) (y7 : (Bool × (Int × V28))) (y12 : V28) (y17 : Int) (o : (Bool × (V28 × V28))) : SL := (fun v => ⟨[(10, (.val .ptr ⟨0, 0, (0 : Int), 0, 0⟩)), (12, (.val T23 o10.2.1)), (13, (.val T2 (imul .i64 (iadd .i64 (imul .i64 o10.2.2 (8 : Int)) y17) (2 : Int)))), (14, (.val .ptr ⟨1, 0, (0 : Int), 0, 0⟩)), (18, (.val .clo (24, [⟨2, 0, (0 : Int), 0, 0⟩, ⟨1, 0, (0 : Int), 0, 0⟩]))), (19, (.val .ptr ⟨3, 0, (0 : Int), 0, 0⟩)), (20, (.val .ptr ⟨4, 0, (0 : Int), 0, 0⟩)), (21, (.val T4 v.1))], [(0, .cells T28 y7.2.2), (1, .cells T28 y12), (2, .cells T28 (el Z28 o10.1 y1.1.2.1)), (3, .cells T28 v.2.1), (4, .cells T28 v.2.2)]⟩) o
noncomputable def contact_Of.c3x (o : (Bool × (V28 × V28))) : Ex := (fun _ => .normal) o
noncomputable def contact_Of.c3n (o : (Bool × (V28 × V28))) : Nat := (fun _ => 5) o
theorem contact_Of.c3_ok (k : Nat) (o10 : ((List V28) × ((List V28) × Int))) (y1 : ((Bool × V28) × (Bool × Int))) (y7 : (Bool × (Int × V28))) (y12 : V28) (y17 : Int) (y24 : (V28 × (V28 × Bool))) : Owp (contact_Of.c3 k o10 y1 y24) fun o => Triple PR (contact_Of.cx k) (sub contact_Of.code [1, 1, 1, 1, 1, 1, 1, 1, 1, 1, 1, 1, 0, 1]) 6 (contact_Of.c3p o10 y1 y7 y12 y17 y24) (contact_Of.c3x o) (contact_Of.c3n o) (contact_Of.c3q o10 y1 y7 y12 y17 o) := by
  unfold contact_Of.c3; exact
   Owp.bif (fun e26 =>
   Owp.bnd fun y27 e28 =>
    Owp.bnd fun y29 e30 =>
    Owp.some (triple_way (contact_Of.cok k) hmix [.dec true, .res (.one (.dp T28)) y27, .res (.more (.dp T28) (.more (.dp T28) (.one (.dp T4)))) y29] [] [(0, 0), (1, 1), (2, 2), (3, 4), (4, 5)] (via (finP (And.intro (And.intro (And.intro trivial e26) e28) e30) .normal [(0, 0), (1, 1), (2, 2), (3, 4), (4, 5)] (contact_Of.c3q o10 y1 y7 y12 y17 (y29.2.2, y29.1, y29.2.1))) (by kernel_rfl)))) (fun e26 =>
   Owp.some (triple_way (contact_Of.cok k) hmix [.dec false] [] [(0, 0), (1, 1), (2, 2), (3, 4), (4, 5)] (via (finP (And.intro trivial e26) .normal [(0, 0), (1, 1), (2, 2), (3, 4), (4, 5)] (contact_Of.c3q o10 y1 y7 y12 y17 (y24.2.2, y24.1, y24.2.1))) (by kernel_rfl))))
noncomputable def contact_Of.c5p (o10 : ((List V28) × ((List V28) × Int))) (o31 : (Bool × (V28 × V28))) (v33 : Int) (v34 : (List (V28 × (V28 × V28)))) (y1 : ((Bool × V28) × (Bool × Int))) (y7 : (Bool × (Int × V28))) (y12 : V28) (y17 : Int) (y37 : (Int × Bool)) : SL := ⟨[(10, (.val .ptr ⟨0, 0, (0 : Int), 0, 0⟩)), (12, (.val T23 o10.2.1)), (13, (.val T2 (imul .i64 (iadd .i64 (imul .i64 o10.2.2 (8 : Int)) y17) (2 : Int)))), (14, (.val .ptr ⟨1, 0, (0 : Int), 0, 0⟩)), (18, (.val .clo (24, [⟨2, 0, (0 : Int), 0, 0⟩, ⟨1, 0, (0 : Int), 0, 0⟩]))), (19, (.val .ptr ⟨3, 0, (0 : Int), 0, 0⟩)), (20, (.val .ptr ⟨4, 0, (0 : Int), 0, 0⟩)), (21, (.val T4 o31.1)), (22, (.val .own (5 : Nat))), (23, (.val T2 v33)), (24, (.val .ptr ⟨6, 0, (0 : Int), 0, 0⟩)), (25, (.val T2 y37.1)), (26, (.val T4 y37.2)), (123, (.val .own (7 : Nat))), (124, (.val T2 (len [o31.2.1, o31.2.2]))), (125, (.val T2 v33))], [(0, .cells T28 y7.2.2), (1, .cells T28 y12), (2, .cells T28 (el Z28 o10.1 y1.1.2.1)), (3, .cells T28 o31.2.1), (4, .cells T28 o31.2.2), (5, .row (.pair T28 (.pair T28 T28)) v34 35), (6, .cells T28 (el Z28 [o31.2.1, o31.2.2] v33)), (7, .row T28 [o31.2.1, o31.2.2] 29)]⟩
noncomputable def contact_Of.c5q (o10 : ((List V28) × ((List V28) × Int))) (o31 : (Bool × (V28 × V28))) (v33 : Int) (v34 : (List (V28 × (V28 × V28)))) (y1 : ((Bool × V28) × (Bool × Int))) (y7 : (Bool × (Int × V28))) (y12 : V28) (y17 : Int) (y37 : (Int × Bool)) (o : Bool) : SL := (fun v => ⟨[(10, (.val .ptr ⟨0, 0, (0 : Int), 0, 0⟩)), (12, (.val T23 o10.2.1)), (13, (.val T2 (imul .i64 (iadd .i64 (imul .i64 o10.2.2 (8 : Int)) y17) (2 : Int)))), (14, (.val .ptr ⟨1, 0, (0 : Int), 0, 0⟩)), (18, (.val .clo (24, [⟨2, 0, (0 : Int), 0, 0⟩, ⟨1, 0, (0 : Int), 0, 0⟩]))), (19, (.val .ptr ⟨3, 0, (0 : Int), 0, 0⟩)), (20, (.val .ptr ⟨4, 0, (0 : Int), 0, 0⟩)), (21, (.val T4 o31.1)), (22, (.val .own (5 : Nat))), (23, (.val T2 v33)), (24, (.val .ptr ⟨6, 0, (0 : Int), 0, 0⟩)), (25, (.val T2 y37.1)), (123, (.val .own (7 : Nat))), (124, (.val T2 (len [o31.2.1, o31.2.2]))), (125, (.val T2 v33)), (148, (.val T4 v))], [(0, .cells T28 y7.2.2), (1, .cells T28 y12), (2, .cells T28 (el Z28 o10.1 y1.1.2.1)), (3, .cells T28 o31.2.1), (4, .cells T28 o31.2.2), (5, .row (.pair T28 (.pair T28 T28)) v34 35), (6, .cells T28 (el Z28 [o31.2.1, o31.2.2] v33)), (7, .row T28 [o31.2.1, o31.2.2] 29)]⟩) o
noncomputable def contact_Of.c5x (o : Bool) : Ex := (fun _ => .normal) o
noncomputable def contact_Of.c5n (o : Bool) : Nat := (fun _ => 8) o
theorem contact_Of.c5_ok (k : Nat) (o10 : ((List V28) × ((List V28) × Int))) (o31 : (Bool × (V28 × V28))) (v33 : Int) (v34 : (List (V28 × (V28 × V28)))) (y1 : ((Bool × V28) × (Bool × Int))) (y7 : (Bool × (Int × V28))) (y12 : V28) (y17 : Int) (y37 : (Int × Bool)) : Owp (contact_Of.c5 k o31 v33 y37) fun o => Triple PR (contact_Of.cx k) (sub contact_Of.code [1, 1, 1, 1, 1, 1, 1, 1, 1, 1, 1, 1, 1, 1, 0, 1, 0, 0, 1, 1, 0, 0, 1, 1, 0]) 8 (contact_Of.c5p o10 o31 v33 v34 y1 y7 y12 y17 y37) (contact_Of.c5x o) (contact_Of.c5n o) (contact_Of.c5q o10 o31 v33 v34 y1 y7 y12 y17 y37 o) := by
  unfold contact_Of.c5; exact
   Owp.bif (fun e39 =>
   Owp.bif (fun e40 =>
    Owp.bif (fun e41 =>
     Owp.some (triple_way (contact_Of.cok k) hmix [.dec true, .dec true, .dec true, .dec true, .dec true, .dec true, .dec true, .dec true, .dec true, .dec true, .dec true] [] [(0, 0), (1, 1), (2, 2), (3, 3), (4, 4), (5, 5), (6, 6), (7, 7)] (via (finP (And.intro (And.intro (And.intro (And.intro (And.intro (And.intro (And.intro (And.intro (And.intro (And.intro trivial e39) e39) e40) e40) e40) e41) e41) e41) (And.intro e40 e41)) e40) .normal [(0, 0), (1, 1), (2, 2), (3, 3), (4, 4), (5, 5), (6, 6), (7, 7)] (contact_Of.c5q o10 o31 v33 v34 y1 y7 y12 y17 y37 true)) (by kernel_rfl)))) (fun e41 =>
     Owp.some (triple_way (contact_Of.cok k) hmix [.dec true, .dec true, .dec true, .dec true, .dec true, .dec false, .dec false, .dec false, .dec true, .dec false, .dec true] [] [(0, 0), (1, 1), (2, 2), (3, 3), (4, 4), (5, 5), (6, 6), (7, 7)] (via (finP (And.intro (And.intro (And.intro (And.intro (And.intro (And.intro (And.intro (And.intro (And.intro (And.intro trivial e39) e39) e40) e40) e40) e41) e41) e41) (And.intro e40 e41)) e40) .normal [(0, 0), (1, 1), (2, 2), (3, 3), (4, 4), (5, 5), (6, 6), (7, 7)] (contact_Of.c5q o10 o31 v33 v34 y1 y7 y12 y17 y37 (!(Ty.eqb T28 o31.2.2 o31.2.1)))) (by kernel_rfl))))) (fun e40 =>
    Owp.some (triple_way (contact_Of.cok k) hmix [.dec true, .dec true, .dec false, .dec false, .dec false, .dec true, .dec true, .dec true, .dec false, .dec true, .dec false] [] [(0, 0), (1, 1), (2, 2), (3, 3), (4, 4), (5, 5), (6, 6), (7, 7)] (via (finP (And.intro (And.intro (And.intro (And.intro (And.intro (And.intro (And.intro trivial e39) e39) e40) e40) e40) e40) e40) .normal [(0, 0), (1, 1), (2, 2), (3, 3), (4, 4), (5, 5), (6, 6), (7, 7)] (contact_Of.c5q o10 o31 v33 v34 y1 y7 y12 y17 y37 false)) (by kernel_rfl))))) (fun e39 =>
   Owp.some (triple_way (contact_Of.cok k) hmix [.dec false, .dec false, .dec false, .dec false, .dec false, .dec true, .dec true, .dec true, .dec false, .dec true, .dec false] [] [(0, 0), (1, 1), (2, 2), (3, 3), (4, 4), (5, 5), (6, 6), (7, 7)] (via (finP (And.intro (And.intro (And.intro (And.intro (And.intro (And.intro (And.intro trivial e39) e39) ff) ff) ff) ff) ff) .normal [(0, 0), (1, 1), (2, 2), (3, 3), (4, 4), (5, 5), (6, 6), (7, 7)] (contact_Of.c5q o10 o31 v33 v34 y1 y7 y12 y17 y37 false)) (by kernel_rfl))))
noncomputable def contact_Of.c4p (o10 : ((List V28) × ((List V28) × Int))) (o31 : (Bool × (V28 × V28))) (y1 : ((Bool × V28) × (Bool × Int))) (y7 : (Bool × (Int × V28))) (y12 : V28) (y17 : Int) (v33 : Int) (v34 : (List (V28 × (V28 × V28)))) : SL := ⟨[(10, (.val .ptr ⟨0, 0, (0 : Int), 0, 0⟩)), (12, (.val T23 o10.2.1)), (13, (.val T2 (imul .i64 (iadd .i64 (imul .i64 o10.2.2 (8 : Int)) y17) (2 : Int)))), (14, (.val .ptr ⟨1, 0, (0 : Int), 0, 0⟩)), (18, (.val .clo (24, [⟨2, 0, (0 : Int), 0, 0⟩, ⟨1, 0, (0 : Int), 0, 0⟩]))), (19, (.val .ptr ⟨3, 0, (0 : Int), 0, 0⟩)), (20, (.val .ptr ⟨4, 0, (0 : Int), 0, 0⟩)), (21, (.val T4 o31.1)), (22, (.val .own (5 : Nat))), (123, (.val .own (6 : Nat))), (124, (.val T2 (len [o31.2.1, o31.2.2]))), (125, (.val T2 v33))], [(0, .cells T28 y7.2.2), (1, .cells T28 y12), (2, .cells T28 (el Z28 o10.1 y1.1.2.1)), (3, .cells T28 o31.2.1), (4, .cells T28 o31.2.2), (5, .row (.pair T28 (.pair T28 T28)) v34 35), (6, .row T28 [o31.2.1, o31.2.2] 29)]⟩
noncomputable def contact_Of.c4q (o10 : ((List V28) × ((List V28) × Int))) (y1 : ((Bool × V28) × (Bool × Int))) (y7 : (Bool × (Int × V28))) (y12 : V28) (y17 : Int) (o : (List (V28 × (V28 × V28)))) : SL := (fun v => ⟨[(10, (.val .ptr ⟨0, 0, (0 : Int), 0, 0⟩)), (12, (.val T23 o10.2.1)), (13, (.val T2 (imul .i64 (iadd .i64 (imul .i64 o10.2.2 (8 : Int)) y17) (2 : Int)))), (14, (.val .ptr ⟨1, 0, (0 : Int), 0, 0⟩)), (18, (.val .clo (24, [⟨2, 0, (0 : Int), 0, 0⟩, ⟨1, 0, (0 : Int), 0, 0⟩]))), (22, (.val .own (3 : Nat)))], [(0, .cells T28 y7.2.2), (1, .cells T28 y12), (2, .cells T28 (el Z28 o10.1 y1.1.2.1)), (3, .row (.pair T28 (.pair T28 T28)) v 35)]⟩) o
noncomputable def contact_Of.c4x (o : (List (V28 × (V28 × V28)))) : Ex := (fun _ => (.exit 0)) o
noncomputable def contact_Of.c4n (o : (List (V28 × (V28 × V28)))) : Nat := (fun _ => 4) o
theorem contact_Of.c4_ok (k : Nat) (o10 : ((List V28) × ((List V28) × Int))) (o31 : (Bool × (V28 × V28))) (y1 : ((Bool × V28) × (Bool × Int))) (y7 : (Bool × (Int × V28))) (y12 : V28) (y17 : Int) : ∀ (n : Nat) (v33 : Int) (v34 : (List (V28 × (V28 × V28)))), Owp (contact_Of.c4 k o10 o31 y1 y7 y12 y17 n v33 v34) fun o => LTriple PR (contact_Of.cx k) (sub contact_Of.code [1, 1, 1, 1, 1, 1, 1, 1, 1, 1, 1, 1, 1, 1, 0, 1, 0, 0]) 7 (contact_Of.c4p o10 o31 y1 y7 y12 y17 v33 v34) (contact_Of.c4x o) (contact_Of.c4n o) (contact_Of.c4q o10 y1 y7 y12 y17 o)
  | 0, _, _ => fun _ h => nomatch h
  | n + 1, v33, v34 => Owp.of (contact_Of.c4.eq_2 ..) (
   Owp.bif (fun e35 =>
   Owp.req fun h36 =>
    Owp.bnd fun y37 e38 =>
    Owp.bnd fun o42 e43 =>
    Owp.bif (fun e44 =>
    Owp.req fun h45 =>
     fun y hy => loop_back (contact_Of.cok k) hmix 7 (contact_Of.c4p o10 o31 y1 y7 y12 y17 (iadd .i64 v33 (1 : Int)) (v34 ++ [((el Z28 [o31.2.1, o31.2.2] v33), y7.2.2, y37.1, (iadd .i64 (imul .i64 (iadd .i64 (imul .i64 o10.2.2 (8 : Int)) y17) (2 : Int)) v33), ())])) [.dec true, .res (.more (.dp T2) (.one (.dp T4))) y37, .cutR 21 ⟨[], [(0, 0), (1, 1), (2, 2), (3, 3), (4, 4), (5, 5), (6, 11), (7, 6)], (contact_Of.c5p o10 o31 v33 v34 y1 y7 y12 y17 y37), 8, .normal, (contact_Of.c5q o10 o31 v33 v34 y1 y7 y12 y17 y37 o42), 8⟩, .dec true, .dec true] [] [(0, 0), (1, 1), (2, 2), (3, 3), (4, 4), (5, 17), (6, 7)] (via (cutP (And.intro (And.intro (And.intro (And.intro trivial e35) h36) h36) e38) [(0, 0), (1, 1), (2, 2), (3, 3), (4, 4), (5, 5), (6, 11), (7, 6)] (contact_Of.c5p o10 o31 v33 v34 y1 y7 y12 y17 y37) (((contact_Of.c5_ok k o10 o31 v33 v34 y1 y7 y12 y17 y37).ap e43)) (finP (And.intro (And.intro trivial e44) h45) .normal [(0, 0), (1, 1), (2, 2), (3, 3), (4, 4), (5, 17), (6, 7)] (contact_Of.c4p o10 o31 y1 y7 y12 y17 (iadd .i64 v33 (1 : Int)) (v34 ++ [((el Z28 [o31.2.1, o31.2.2] v33), y7.2.2, y37.1, (iadd .i64 (imul .i64 (iadd .i64 (imul .i64 o10.2.2 (8 : Int)) y17) (2 : Int)) v33), ())])))) (by kernel_rfl)) ((contact_Of.c4_ok k o10 o31 y1 y7 y12 y17 n (iadd .i64 v33 (1 : Int)) (v34 ++ [((el Z28 [o31.2.1, o31.2.2] v33), y7.2.2, y37.1, (iadd .i64 (imul .i64 (iadd .i64 (imul .i64 o10.2.2 (8 : Int)) y17) (2 : Int)) v33), ())])).ap hy)) (fun e44 =>
    fun y hy => loop_back (contact_Of.cok k) hmix 7 (contact_Of.c4p o10 o31 y1 y7 y12 y17 (iadd .i64 v33 (1 : Int)) v34) [.dec true, .res (.more (.dp T2) (.one (.dp T4))) y37, .cutR 21 ⟨[], [(0, 0), (1, 1), (2, 2), (3, 3), (4, 4), (5, 5), (6, 11), (7, 6)], (contact_Of.c5p o10 o31 v33 v34 y1 y7 y12 y17 y37), 8, .normal, (contact_Of.c5q o10 o31 v33 v34 y1 y7 y12 y17 y37 o42), 8⟩, .dec false] [] [(0, 0), (1, 1), (2, 2), (3, 3), (4, 4), (5, 5), (6, 7)] (via (cutP (And.intro (And.intro (And.intro (And.intro trivial e35) h36) h36) e38) [(0, 0), (1, 1), (2, 2), (3, 3), (4, 4), (5, 5), (6, 11), (7, 6)] (contact_Of.c5p o10 o31 v33 v34 y1 y7 y12 y17 y37) (((contact_Of.c5_ok k o10 o31 v33 v34 y1 y7 y12 y17 y37).ap e43)) (finP (And.intro trivial e44) .normal [(0, 0), (1, 1), (2, 2), (3, 3), (4, 4), (5, 5), (6, 7)] (contact_Of.c4p o10 o31 y1 y7 y12 y17 (iadd .i64 v33 (1 : Int)) v34))) (by kernel_rfl)) ((contact_Of.c4_ok k o10 o31 y1 y7 y12 y17 n (iadd .i64 v33 (1 : Int)) v34).ap hy))) (fun e35 =>
   Owp.some (loop_exit (contact_Of.cok k) hmix [.dec false] [] [(0, 0), (1, 1), (2, 2), (3, 5)] (exne 0) (via (finP (And.intro trivial e35) (.exit 0) [(0, 0), (1, 1), (2, 2), (3, 5)] (contact_Of.c4q o10 y1 y7 y12 y17 v34)) (by kernel_rfl)))))
theorem contact_Of.way (k : Nat) (a0 : (List V28)) (a1 : (List V28)) : Owp (contact_Of k a0 a1) fun y => ∃ answers cmds, exec PR (contact_Of.cx k) contact_Of.code 0 (entry (.pair T23 (.pair T23 .unit)) (a0, a1, ())).st answers (Ret (contact_Of.cx k) Try.f6 cmds (.one (.ow (.pair T28 (.pair T28 T28)) 35)) y) := by
  unfold contact_Of; exact
   Owp.bnd fun y1 e2 =>
   Owp.bnd fun o4 e5 =>
   Owp.bif (fun e6 =>
   Owp.some (⟨[.res (.more (.dp (.pair T4 T28)) (.more (.dp T4) (.one (.dp T2)))) y1, .cutR 2 ⟨[], [(0, 8)], (contact_Of.c1p a0 a1 y1), 1, .normal, (contact_Of.c1q a0 a1 y1 o4), 1⟩, .dec true], [.own 4 (.pair T28 (.pair T28 T28)) 35], via (cutP (And.intro trivial e2) [(0, 8)] (contact_Of.c1p a0 a1 y1) (((contact_Of.c1_ok k a0 a1 y1).ap e5)) (retP (And.intro trivial e6) (.one (.ow (.pair T28 (.pair T28 T28)) 35)) ([] : (List (V28 × (V28 × V28)))))) (by kernel_rfl)⟩)) (fun e6 =>
   Owp.bnd fun y7 e8 =>
    Owp.bnd fun o10 e11 =>
    Owp.bnd fun y12 e13 =>
    Owp.req fun h14 =>
    Owp.req fun h15 =>
    Owp.req fun h16 =>
    Owp.bnd fun y17 e18 =>
    Owp.req fun h19 =>
    Owp.req fun h20 =>
    Owp.req fun h21 =>
    Owp.bnd fun y22 e23 =>
    Owp.bnd fun y24 e25 =>
    Owp.bnd fun o31 e32 =>
    Owp.bnd fun o46 e47 =>
    Owp.bif (fun e48 =>
    Owp.bnd fun y49 e50 =>
     Owp.req fun h51 =>
     Owp.bnd fun y52 e53 =>
     Owp.req fun h54 =>
     Owp.some (⟨[.res (.more (.dp (.pair T4 T28)) (.more (.dp T4) (.one (.dp T2)))) y1, .cutR 2 ⟨[], [(0, 8)], (contact_Of.c1p a0 a1 y1), 1, .normal, (contact_Of.c1q a0 a1 y1 o4), 1⟩, .dec false, .res (.more (.dp T4) (.more (.dp T2) (.one (.dp T28)))) y7, .cut ⟨[], [(0, 0), (1, 8)], (contact_Of.c2p a0 a1 y1 y7), 2, .normal, (contact_Of.c2q y1 y7 o10), 2⟩, .res (.one (.dp T28)) y12, .res (.one (.dp T2)) y17, .res (.one (.dp T28)) y22, .res (.more (.dp T28) (.more (.dp T28) (.one (.dp T4)))) y24, .cut ⟨[], [(0, 1), (1, 6), (2, 22), (3, 23), (4, 59), (5, 60)], (contact_Of.c3p o10 y1 y7 y12 y17 y24), 6, .normal, (contact_Of.c3q o10 y1 y7 y12 y17 o31), 5⟩, .dec true, .cut ⟨[.own 22 (.pair T28 (.pair T28 T28)) 35], [(0, 0), (1, 1), (2, 2), (3, 3), (4, 4), (5, 11), (6, 8)], (contact_Of.c4p o10 o31 y1 y7 y12 y17 (0 : Int) []), 7, (.exit 0), (contact_Of.c4q o10 y1 y7 y12 y17 o46), 4⟩, .dec true, .res (.one (.dp T2)) y49, .res (.more (.dp T2) (.one (.dp T4))) y52, .dec true], [], via (cutP (And.intro trivial e2) [(0, 8)] (contact_Of.c1p a0 a1 y1) (((contact_Of.c1_ok k a0 a1 y1).ap e5)) (cutP (And.intro (And.intro trivial e6) e8) [(0, 0), (1, 8)] (contact_Of.c2p a0 a1 y1 y7) (((contact_Of.c2_ok k a0 a1 y1 y7).ap e11)) (cutP (And.intro (And.intro (And.intro (And.intro (And.intro (And.intro (And.intro (And.intro (And.intro (And.intro trivial e13) h14) h15) h16) e18) h19) h20) h21) e23) e25) [(0, 1), (1, 6), (2, 22), (3, 23), (4, 59), (5, 60)] (contact_Of.c3p o10 y1 y7 y12 y17 y24) (((contact_Of.c3_ok k o10 y1 y7 y12 y17 y24).ap e32)) (cutP trivial [(0, 0), (1, 1), (2, 2), (3, 3), (4, 4), (5, 11), (6, 8)] (contact_Of.c4p o10 o31 y1 y7 y12 y17 (0 : Int) []) (((contact_Of.c4_ok k o10 o31 y1 y7 y12 y17 k (0 : Int) []).ap e47).triple) (retP (And.intro (And.intro (And.intro (And.intro (And.intro trivial e48) e50) h51) e53) h54) (.one (.ow (.pair T28 (.pair T28 T28)) 35)) ((o46 ++ [((el Z28 o10.2.1 y49), y7.2.2, y52.1, (imul .i64 (iadd .i64 (imul .i64 o10.2.2 (8 : Int)) y17) (2 : Int)), ())]) : (List (V28 × (V28 × V28))))))))) (by kernel_rfl)⟩)) (fun e48 =>
    Owp.some (⟨[.res (.more (.dp (.pair T4 T28)) (.more (.dp T4) (.one (.dp T2)))) y1, .cutR 2 ⟨[], [(0, 8)], (contact_Of.c1p a0 a1 y1), 1, .normal, (contact_Of.c1q a0 a1 y1 o4), 1⟩, .dec false, .res (.more (.dp T4) (.more (.dp T2) (.one (.dp T28)))) y7, .cut ⟨[], [(0, 0), (1, 8)], (contact_Of.c2p a0 a1 y1 y7), 2, .normal, (contact_Of.c2q y1 y7 o10), 2⟩, .res (.one (.dp T28)) y12, .res (.one (.dp T2)) y17, .res (.one (.dp T28)) y22, .res (.more (.dp T28) (.more (.dp T28) (.one (.dp T4)))) y24, .cut ⟨[], [(0, 1), (1, 6), (2, 22), (3, 23), (4, 59), (5, 60)], (contact_Of.c3p o10 y1 y7 y12 y17 y24), 6, .normal, (contact_Of.c3q o10 y1 y7 y12 y17 o31), 5⟩, .dec true, .cut ⟨[.own 22 (.pair T28 (.pair T28 T28)) 35], [(0, 0), (1, 1), (2, 2), (3, 3), (4, 4), (5, 11), (6, 8)], (contact_Of.c4p o10 o31 y1 y7 y12 y17 (0 : Int) []), 7, (.exit 0), (contact_Of.c4q o10 y1 y7 y12 y17 o46), 4⟩, .dec false], [], via (cutP (And.intro trivial e2) [(0, 8)] (contact_Of.c1p a0 a1 y1) (((contact_Of.c1_ok k a0 a1 y1).ap e5)) (cutP (And.intro (And.intro trivial e6) e8) [(0, 0), (1, 8)] (contact_Of.c2p a0 a1 y1 y7) (((contact_Of.c2_ok k a0 a1 y1 y7).ap e11)) (cutP (And.intro (And.intro (And.intro (And.intro (And.intro (And.intro (And.intro (And.intro (And.intro (And.intro trivial e13) h14) h15) h16) e18) h19) h20) h21) e23) e25) [(0, 1), (1, 6), (2, 22), (3, 23), (4, 59), (5, 60)] (contact_Of.c3p o10 y1 y7 y12 y17 y24) (((contact_Of.c3_ok k o10 y1 y7 y12 y17 y24).ap e32)) (cutP trivial [(0, 0), (1, 1), (2, 2), (3, 3), (4, 4), (5, 11), (6, 8)] (contact_Of.c4p o10 o31 y1 y7 y12 y17 (0 : Int) []) (((contact_Of.c4_ok k o10 o31 y1 y7 y12 y17 k (0 : Int) []).ap e47).triple) (retP (And.intro trivial e48) (.one (.ow (.pair T28 (.pair T28 T28)) 35)) (o46 : (List (V28 × (V28 × V28))))))))) (by kernel_rfl)⟩)))
theorem contact_Of.ok (k : Nat) : FnOk PR 6 (contact_Of.sp k) :=
  fn_ok (contact_Of.cok k) hmix Try.func6 (code := contact_Of.code) (by kernel_rfl) (by kernel_rfl) (by kernel_rfl) rfl (by kernel_rfl) (by kernel_rfl) (by kernel_rfl) (fun x => Nat.le_of_ble_eq_true (by kernel_rfl)) fun x y hy => (contact_Of.way k x.1 x.2.1).ap hy

/-! slices.IndexFunc[[]tourney/contact.Point,tourney/contact.Point] -/
noncomputable def slices_IndexFunc_34.code : Code := Func.cd Try.f34
def slices_IndexFunc_34.c1 (k : Nat) (a0 : (List (V28 × (V28 × V28)))) (a1 : (((V28 × (V28 × V28)) × Unit) → Option Bool)) : Nat → Int → Option (Int ⊕ Unit)
  | 0, _ => none
  | n + 1, v1 =>
   bif' (ilt v1 (len a0))
   (req (inL v1 a0) <|
    bnd (a1 ((el ((0, 0, ()), (0, 0, ()), 0, 0, ()) a0 v1), ())) fun y4 =>
    bif' y4
    (some (.inl v1))
    (slices_IndexFunc_34.c1 k a0 a1 n (iadd .i64 v1 1)))
   (some (.inr ()))
def slices_IndexFunc_34 (k : Nat) (a0 : (List (V28 × (V28 × V28)))) (a1 : (((V28 × (V28 × V28)) × Unit) → Option Bool)) : Option Int :=
  bnd (slices_IndexFunc_34.c1 k a0 a1 k 0) fun o7 =>
  two o7 (fun y9 =>
  some y9) (fun y11 =>
  some (-1))
noncomputable def slices_IndexFunc_34.sp (k : Nat) : Go.Sx.Spec := ⟨(.pair (.slice (.pair T28 (.pair T28 T28))) (.pair (.fn (.pair (.pair T28 (.pair T28 T28)) .unit) T4) .unit)), (.one (.dp T2)), fun x => slices_IndexFunc_34 k x.1 x.2.1, false⟩
noncomputable def slices_IndexFunc_34.cx (k : Nat) : Go.Sx.Ctx := ⟨tys, [], eqs, 19, false⟩
theorem slices_IndexFunc_34.cok (k : Nat) : CtxOk PR (slices_IndexFunc_34.cx k) := ctx_ok tysOk eqsOk FnsOk.nil
noncomputable def slices_IndexFunc_34.c1p (a0 : (List (V28 × (V28 × V28)))) (a1 : (((V28 × (V28 × V28)) × Unit) → Option Bool)) (v1 : Int) : SL := ⟨[(0, (.val (.slice (.pair T28 (.pair T28 T28))) a0)), (1, (.val (.fn (.pair (.pair T28 (.pair T28 T28)) .unit) T4) a1)), (7, (.val T2 (len a0))), (8, (.val T2 v1))], []⟩
noncomputable def slices_IndexFunc_34.c1q (o : Int ⊕ Unit) : SL := (fun o => two o (fun v => ⟨[(4, (.val T2 v))], []⟩) (fun v => ⟨[], []⟩)) o
noncomputable def slices_IndexFunc_34.c1x (o : Int ⊕ Unit) : Ex := (fun o => two o (fun _ => .ret) (fun _ => (.exit 0))) o
noncomputable def slices_IndexFunc_34.c1n (o : Int ⊕ Unit) : Nat := (fun o => two o (fun _ => 0) (fun _ => 0)) o
theorem slices_IndexFunc_34.c1_ok (k : Nat) (a0 : (List (V28 × (V28 × V28)))) (a1 : (((V28 × (V28 × V28)) × Unit) → Option Bool)) : ∀ (n : Nat) (v1 : Int), Owp (slices_IndexFunc_34.c1 k a0 a1 n v1) fun o => LTriple PR (slices_IndexFunc_34.cx k) (sub slices_IndexFunc_34.code [1, 0, 1, 0, 0]) 0 (slices_IndexFunc_34.c1p a0 a1 v1) (slices_IndexFunc_34.c1x o) (slices_IndexFunc_34.c1n o) (slices_IndexFunc_34.c1q o)
  | 0, _ => fun _ h => nomatch h
  | n + 1, v1 => Owp.of (slices_IndexFunc_34.c1.eq_2 ..) (
   Owp.bif (fun e2 =>
   Owp.req fun h3 =>
    Owp.bnd fun y4 e5 =>
    Owp.bif (fun e6 =>
    Owp.some (loop_exit (slices_IndexFunc_34.cok k) hmix [.dec true, .res (.one (.dp T4)) y4, .dec true] [] [] exne_ret (via (finP (And.intro (And.intro (And.intro (And.intro trivial e2) h3) e5) e6) .ret [] (slices_IndexFunc_34.c1q (.inl v1))) (by kernel_rfl)))) (fun e6 =>
    fun y hy => loop_back (slices_IndexFunc_34.cok k) hmix 0 (slices_IndexFunc_34.c1p a0 a1 (iadd .i64 v1 (1 : Int))) [.dec true, .res (.one (.dp T4)) y4, .dec false] [] [] (via (finP (And.intro (And.intro (And.intro (And.intro trivial e2) h3) e5) e6) .normal [] (slices_IndexFunc_34.c1p a0 a1 (iadd .i64 v1 (1 : Int)))) (by kernel_rfl)) ((slices_IndexFunc_34.c1_ok k a0 a1 n (iadd .i64 v1 (1 : Int))).ap hy))) (fun e2 =>
   Owp.some (loop_exit (slices_IndexFunc_34.cok k) hmix [.dec false] [] [] (exne 0) (via (finP (And.intro trivial e2) (.exit 0) [] (slices_IndexFunc_34.c1q (.inr ()))) (by kernel_rfl)))))
theorem slices_IndexFunc_34.way (k : Nat) (a0 : (List (V28 × (V28 × V28)))) (a1 : (((V28 × (V28 × V28)) × Unit) → Option Bool)) : Owp (slices_IndexFunc_34 k a0 a1) fun y => ∃ answers cmds, exec PR (slices_IndexFunc_34.cx k) slices_IndexFunc_34.code 0 (entry (.pair (.slice (.pair T28 (.pair T28 T28))) (.pair (.fn (.pair (.pair T28 (.pair T28 T28)) .unit) T4) .unit)) (a0, a1, ())).st answers (Ret (slices_IndexFunc_34.cx k) Try.f34 cmds (.one (.dp T2)) y) := by
  unfold slices_IndexFunc_34; exact
   Owp.bnd fun o7 e8 =>
   Owp.two (fun y9 e10 =>
   Owp.some (⟨[.cut ⟨[], [], (slices_IndexFunc_34.c1p a0 a1 (0 : Int)), 0, .ret, (slices_IndexFunc_34.c1q (.inl y9)), 0⟩], [], via (cutP trivial [] (slices_IndexFunc_34.c1p a0 a1 (0 : Int)) (((slices_IndexFunc_34.c1_ok k a0 a1 k (0 : Int)).ap (e8.trans (congrArg some e10))).triple) (retP trivial (.one (.dp T2)) (y9 : Int))) (by kernel_rfl)⟩)) (fun y11 e12 =>
   Owp.some (⟨[.cut ⟨[], [], (slices_IndexFunc_34.c1p a0 a1 (0 : Int)), 0, (.exit 0), (slices_IndexFunc_34.c1q (.inr ())), 0⟩], [], via (cutP trivial [] (slices_IndexFunc_34.c1p a0 a1 (0 : Int)) (((slices_IndexFunc_34.c1_ok k a0 a1 k (0 : Int)).ap (e8.trans (congrArg some e12))).triple) (retP trivial (.one (.dp T2)) ((-1 : Int) : Int))) (by kernel_rfl)⟩))
theorem slices_IndexFunc_34.ok (k : Nat) : FnOk PR 34 (slices_IndexFunc_34.sp k) :=
  fn_ok (slices_IndexFunc_34.cok k) hmix Try.func34 (code := slices_IndexFunc_34.code) (by kernel_rfl) (by kernel_rfl) (by kernel_rfl) rfl (by kernel_rfl) (by kernel_rfl) (by kernel_rfl) (fun x => Nat.le_of_ble_eq_true (by kernel_rfl)) fun x y hy => (slices_IndexFunc_34.way k x.1 x.2.1).ap hy

/-! slices.ContainsFunc[[]tourney/contact.Point,tourney/contact.Point] -/
noncomputable def slices_ContainsFunc_10.code : Code := Func.cd Try.f10
def slices_ContainsFunc_10 (k : Nat) (a0 : (List (V28 × (V28 × V28)))) (a1 : (((V28 × (V28 × V28)) × Unit) → Option Bool)) : Option Bool :=
  bnd (slices_IndexFunc_34 k a0 a1) fun y1 =>
  some (ige y1 0)
noncomputable def slices_ContainsFunc_10.sp (k : Nat) : Go.Sx.Spec := ⟨(.pair (.slice (.pair T28 (.pair T28 T28))) (.pair (.fn (.pair (.pair T28 (.pair T28 T28)) .unit) T4) .unit)), (.one (.dp T4)), fun x => slices_ContainsFunc_10 k x.1 x.2.1, false⟩
noncomputable def slices_ContainsFunc_10.cx (k : Nat) : Go.Sx.Ctx := ⟨tys, [(34, slices_IndexFunc_34.sp k)], eqs, 9, false⟩
theorem slices_ContainsFunc_10.cok (k : Nat) : CtxOk PR (slices_ContainsFunc_10.cx k) := ctx_ok tysOk eqsOk (FnsOk.cons (slices_IndexFunc_34.ok k) FnsOk.nil)
theorem slices_ContainsFunc_10.way (k : Nat) (a0 : (List (V28 × (V28 × V28)))) (a1 : (((V28 × (V28 × V28)) × Unit) → Option Bool)) : Owp (slices_ContainsFunc_10 k a0 a1) fun y => ∃ answers cmds, exec PR (slices_ContainsFunc_10.cx k) slices_ContainsFunc_10.code 0 (entry (.pair (.slice (.pair T28 (.pair T28 T28))) (.pair (.fn (.pair (.pair T28 (.pair T28 T28)) .unit) T4) .unit)) (a0, a1, ())).st answers (Ret (slices_ContainsFunc_10.cx k) Try.f10 cmds (.one (.dp T4)) y) := by
  unfold slices_ContainsFunc_10; exact
   Owp.bnd fun y1 e2 =>
   Owp.some (⟨[.res (.one (.dp T2)) y1], [], via (retP (And.intro trivial e2) (.one (.dp T4)) ((ige y1 (0 : Int)) : Bool)) (by kernel_rfl)⟩)
theorem slices_ContainsFunc_10.ok (k : Nat) : FnOk PR 10 (slices_ContainsFunc_10.sp k) :=
  fn_ok (slices_ContainsFunc_10.cok k) hmix Try.func10 (code := slices_ContainsFunc_10.code) (by kernel_rfl) (by kernel_rfl) (by kernel_rfl) rfl (by kernel_rfl) (by kernel_rfl) (by kernel_rfl) (fun x => Nat.le_of_ble_eq_true (by kernel_rfl)) fun x y hy => (slices_ContainsFunc_10.way k x.1 x.2.1).ap hy

/-! tourney/tourkeep2.ContactPoints$1 -/
noncomputable def tourkeep2_ContactPoints_1.code : Code := Func.cd Try.f11
def tourkeep2_ContactPoints_1 (k : Nat) (a0 : (V28 × (V28 × V28))) (a1 : V28) : Option Bool :=
  bif' (Ty.eqb T28 a0.2.1 a1)
  (bif' (ilt a0.2.2.1 0)
   (some true)
   (bif' (igt a0.2.2.1 2621440)
    (some true)
    (bif' (ilt a0.2.2.2.1 0)
     (some true)
     (some (igt a0.2.2.2.1 255)))))
  (some true)
noncomputable def tourkeep2_ContactPoints_1.sp (k : Nat) : Go.Sx.Spec := ⟨(.pair (.pair T28 (.pair T28 T28)) (.pair (.ref T28) .unit)), (.one (.dp T4)), fun x => tourkeep2_ContactPoints_1 k x.1 x.2.1, false⟩
noncomputable def tourkeep2_ContactPoints_1.cx (k : Nat) : Go.Sx.Ctx := ⟨tys, [], eqs, 28, false⟩
theorem tourkeep2_ContactPoints_1.cok (k : Nat) : CtxOk PR (tourkeep2_ContactPoints_1.cx k) := ctx_ok tysOk eqsOk FnsOk.nil
theorem tourkeep2_ContactPoints_1.way (k : Nat) (a0 : (V28 × (V28 × V28))) (a1 : V28) : Owp (tourkeep2_ContactPoints_1 k a0 a1) fun y => ∃ answers cmds, exec PR (tourkeep2_ContactPoints_1.cx k) tourkeep2_ContactPoints_1.code 0 (entry (.pair (.pair T28 (.pair T28 T28)) (.pair (.ref T28) .unit)) (a0, a1, ())).st answers (Ret (tourkeep2_ContactPoints_1.cx k) Try.f11 cmds (.one (.dp T4)) y) := by
  unfold tourkeep2_ContactPoints_1; exact
   Owp.bif (fun e1 =>
   Owp.bif (fun e2 =>
    Owp.some (⟨[.dec false, .dec false, .dec false, .dec false, .dec true, .dec true, .dec true, .dec true, .dec true, .dec true, .dec true, .dec true, .dec true, .dec true, .dec true, .dec true], [], via (retP (And.intro (And.intro (And.intro (And.intro (And.intro (And.intro (And.intro (And.intro (And.intro (And.intro (And.intro (And.intro (And.intro (And.intro (And.intro (And.intro trivial (congrArg not e1)) (congrArg not e1)) (congrArg not e1)) (congrArg not e1)) e2) e2) e2) e2) tt) tt) tt) tt) tt) tt) tt) tt) (.one (.dp T4)) (true : Bool)) (by kernel_rfl)⟩)) (fun e2 =>
    Owp.bif (fun e3 =>
     Owp.some (⟨[.dec false, .dec false, .dec false, .dec false, .dec false, .dec false, .dec false, .dec false, .dec true, .dec true, .dec true, .dec true, .dec true, .dec true, .dec true, .dec true], [], via (retP (And.intro (And.intro (And.intro (And.intro (And.intro (And.intro (And.intro (And.intro (And.intro (And.intro (And.intro (And.intro (And.intro (And.intro (And.intro (And.intro trivial (congrArg not e1)) (congrArg not e1)) (congrArg not e1)) (congrArg not e1)) e2) e2) e2) e2) e3) e3) e3) e3) tt) tt) tt) tt) (.one (.dp T4)) (true : Bool)) (by kernel_rfl)⟩)) (fun e3 =>
     Owp.bif (fun e4 =>
      Owp.some (⟨[.dec false, .dec false, .dec false, .dec false, .dec false, .dec false, .dec false, .dec false, .dec false, .dec false, .dec false, .dec false, .dec true, .dec true, .dec true, .dec true], [], via (retP (And.intro (And.intro (And.intro (And.intro (And.intro (And.intro (And.intro (And.intro (And.intro (And.intro (And.intro (And.intro (And.intro (And.intro (And.intro (And.intro trivial (congrArg not e1)) (congrArg not e1)) (congrArg not e1)) (congrArg not e1)) e2) e2) e2) e2) e3) e3) e3) e3) e4) e4) e4) e4) (.one (.dp T4)) (true : Bool)) (by kernel_rfl)⟩)) (fun e4 =>
      Owp.some (⟨[.dec false, .dec false, .dec false, .dec false, .dec false, .dec false, .dec false, .dec false, .dec false, .dec false, .dec false, .dec false, .dec false, .dec false, .dec false, .dec false], [], via (retP (And.intro (And.intro (And.intro (And.intro (And.intro (And.intro (And.intro (And.intro (And.intro (And.intro (And.intro (And.intro (And.intro (And.intro (And.intro (And.intro trivial (congrArg not e1)) (congrArg not e1)) (congrArg not e1)) (congrArg not e1)) e2) e2) e2) e2) e3) e3) e3) e3) e4) e4) e4) e4) (.one (.dp T4)) ((igt a0.2.2.2.1 (255 : Int)) : Bool)) (by kernel_rfl)⟩))))) (fun e1 =>
   Owp.some (⟨[.dec true, .dec true, .dec true, .dec true, .dec true, .dec true, .dec true, .dec true, .dec true, .dec true, .dec true, .dec true, .dec true, .dec true, .dec true, .dec true], [], via (retP (And.intro (And.intro (And.intro (And.intro (And.intro (And.intro (And.intro (And.intro (And.intro (And.intro (And.intro (And.intro (And.intro (And.intro (And.intro (And.intro trivial (congrArg not e1)) (congrArg not e1)) (congrArg not e1)) (congrArg not e1)) tt) tt) tt) tt) tt) tt) tt) tt) tt) tt) tt) tt) (.one (.dp T4)) (true : Bool)) (by kernel_rfl)⟩))
theorem tourkeep2_ContactPoints_1.ok (k : Nat) : FnOk PR 11 (tourkeep2_ContactPoints_1.sp k) :=
  fn_ok (tourkeep2_ContactPoints_1.cok k) hmix Try.func11 (code := tourkeep2_ContactPoints_1.code) (by kernel_rfl) (by kernel_rfl) (by kernel_rfl) rfl (by kernel_rfl) (by kernel_rfl) (by kernel_rfl) (fun x => Nat.le_of_ble_eq_true (by kernel_rfl)) fun x y hy => (tourkeep2_ContactPoints_1.way k x.1 x.2.1).ap hy

/-! tourney/tourkeep2.ContactPoints -/
noncomputable def tourkeep2_ContactPoints.code : Code := Func.cd Try.f3
def tourkeep2_ContactPoints.c1 (k : Nat) (y11 : (List (V28 × (V28 × V28)))) : Option (Bool) :=
  bnd (tourkeep2_tests k) fun y13 =>
  bif' y13
  (bif' (ine (len y11) 2)
   (some true)
   (req (inL 0 y11) <|
    req (inL 1 y11) <|
    some (ieq (el ((0, 0, ()), (0, 0, ()), 0, 0, ()) y11 0).2.2.2.1 (el ((0, 0, ()), (0, 0, ()), 0, 0, ()) y11 1).2.2.2.1)))
  (some true)
def tourkeep2_ContactPoints.c2 (k : Nat) (y3 : (List (V28 × (V28 × V28)))) : Option (Bool) :=
  bif' (ilt (len y3) 1)
  (some true)
  (bif' (igt (len y3) 2)
   (some true)
   (bif' (ieq (len y3) 2)
    (req (inL 0 y3) <|
     req (inL 1 y3) <|
     bif' (ieq (el ((0, 0, ()), (0, 0, ()), 0, 0, ()) y3 0).2.2.2.1 (el ((0, 0, ()), (0, 0, ()), 0, 0, ()) y3 1).2.2.2.1)
     (some true)
     (some (Ty.eqb T28 (el (((0 : Int), (0 : Int), ()), ((0 : Int), (0 : Int), ()), (0 : Int), (0 : Int), ()) y3 (0 : Int)).1 (el (((0 : Int), (0 : Int), ()), ((0 : Int), (0 : Int), ()), (0 : Int), (0 : Int), ()) y3 (1 : Int)).1)))
    (some false)))
def tourkeep2_ContactPoints (k : Nat) (a0 : (List Int)) (a1 : (List Int)) (a2 : Int) (a3 : Int) : Option Bool :=
  bnd (tourkeep2_pair k a0 a1 a2 a3) fun y1 =>
  bnd (contact_Of k y1.1 y1.2) fun y3 =>
  bnd (sat_Test k y1.1 y1.2) fun y5 =>
  bnd (tourkeep2_square k 0 0 2) fun y7 =>
  bnd (tourkeep2_square k 3 1 2) fun y9 =>
  bnd (contact_Of k y7 y9) fun y11 =>
  bnd (tourkeep2_ContactPoints.c1 k y11) fun o19 =>
  bif' o19
  (some false)
  (bif' y5.1
   (bnd (tourkeep2_ContactPoints.c2 k y3) fun o29 =>
    bif' o29
    (some false)
    (bnd (slices_ContainsFunc_10 k y3 (fun x : ((V28 × (V28 × V28)) × Unit) => tourkeep2_ContactPoints_1 k (x.1) y5.2.2)) fun y32 =>
     some (!y32)))
   (some (ieq (len y3) 0)))
noncomputable def tourkeep2_ContactPoints.sp (k : Nat) : Go.Sx.Spec := ⟨(.pair T22 (.pair T22 T28)), (.one (.dp T4)), fun x => tourkeep2_ContactPoints k x.1 x.2.1 x.2.2.1 x.2.2.2.1, false⟩
noncomputable def tourkeep2_ContactPoints.cx (k : Nat) : Go.Sx.Ctx := ⟨tys, [(5, tourkeep2_pair.sp k), (6, contact_Of.sp k), (7, sat_Test.sp k), (8, tourkeep2_square.sp k), (9, tourkeep2_tests.sp k), (10, slices_ContainsFunc_10.sp k), (11, tourkeep2_ContactPoints_1.sp k)], eqs, 99, false⟩
theorem tourkeep2_ContactPoints.cok (k : Nat) : CtxOk PR (tourkeep2_ContactPoints.cx k) := ctx_ok tysOk eqsOk (FnsOk.cons (tourkeep2_pair.ok k) (FnsOk.cons (contact_Of.ok k) (FnsOk.cons (sat_Test.ok k) (FnsOk.cons (tourkeep2_square.ok k) (FnsOk.cons (tourkeep2_tests.ok k) (FnsOk.cons (slices_ContainsFunc_10.ok k) (FnsOk.cons (tourkeep2_ContactPoints_1.ok k) FnsOk.nil)))))))
noncomputable def tourkeep2_ContactPoints.c1p (y3 : (List (V28 × (V28 × V28)))) (y5 : (Bool × (Int × V28))) (y11 : (List (V28 × (V28 × V28)))) : SL := ⟨[(11, (.val .own (0 : Nat))), (12, (.val T4 y5.1)), (14, (.val .ptr ⟨1, 0, (0 : Int), 0, 0⟩)), (15, (.val .own (2 : Nat)))], [(0, .row (.pair T28 (.pair T28 T28)) y3 35), (1, .cells T28 y5.2.2), (2, .row (.pair T28 (.pair T28 T28)) y11 35)]⟩
noncomputable def tourkeep2_ContactPoints.c1q (y3 : (List (V28 × (V28 × V28)))) (y5 : (Bool × (Int × V28))) (o : Bool) : SL := (fun v => ⟨[(11, (.val .own (0 : Nat))), (12, (.val T4 y5.1)), (14, (.val .ptr ⟨1, 0, (0 : Int), 0, 0⟩)), (54, (.val T4 v))], [(0, .row (.pair T28 (.pair T28 T28)) y3 35), (1, .cells T28 y5.2.2)]⟩) o
noncomputable def tourkeep2_ContactPoints.c1x (o : Bool) : Ex := (fun _ => .normal) o
noncomputable def tourkeep2_ContactPoints.c1n (o : Bool) : Nat := (fun _ => 2) o
theorem tourkeep2_ContactPoints.c1_ok (k : Nat) (y3 : (List (V28 × (V28 × V28)))) (y5 : (Bool × (Int × V28))) (y11 : (List (V28 × (V28 × V28)))) : Owp (tourkeep2_ContactPoints.c1 k y11) fun o => Triple PR (tourkeep2_ContactPoints.cx k) (sub tourkeep2_ContactPoints.code [1, 1, 1, 1, 0, 1, 0]) 3 (tourkeep2_ContactPoints.c1p y3 y5 y11) (tourkeep2_ContactPoints.c1x o) (tourkeep2_ContactPoints.c1n o) (tourkeep2_ContactPoints.c1q y3 y5 o) := by
  unfold tourkeep2_ContactPoints.c1; exact
   Owp.bnd fun y13 e14 =>
   Owp.bif (fun e15 =>
   Owp.bif (fun e16 =>
    Owp.some (triple_way (tourkeep2_ContactPoints.cok k) hmix [.res (.one (.dp T4)) y13, .dec false, .dec false, .dec false, .dec false, .dec true, .dec true, .dec true, .dec true, .dec true, .dec true, .dec true, .dec true, .dec true, .dec true] [] [(0, 0), (1, 1)] (via (finP (And.intro (And.intro (And.intro (And.intro (And.intro (And.intro (And.intro (And.intro (And.intro (And.intro (And.intro (And.intro (And.intro (And.intro (And.intro trivial e14) (congrArg not e15)) (congrArg not e15)) (congrArg not e15)) (congrArg not e15)) e16) e16) e16) e16) e16) e16) e16) e16) e16) e16) .normal [(0, 0), (1, 1)] (tourkeep2_ContactPoints.c1q y3 y5 true)) (by kernel_rfl)))) (fun e16 =>
    Owp.req fun h17 =>
     Owp.req fun h18 =>
     Owp.some (triple_way (tourkeep2_ContactPoints.cok k) hmix [.res (.one (.dp T4)) y13, .dec false, .dec false, .dec false, .dec false, .dec false, .dec false, .dec false, .dec false, .dec false, .dec false, .dec false, .dec false, .dec false, .dec false] [] [(0, 0), (1, 1)] (via (finP (And.intro (And.intro (And.intro (And.intro (And.intro (And.intro (And.intro (And.intro (And.intro (And.intro (And.intro (And.intro (And.intro (And.intro (And.intro trivial e14) (congrArg not e15)) (congrArg not e15)) (congrArg not e15)) (congrArg not e15)) e16) (And.intro e16 h17)) e16) (And.intro e16 h17)) e16) (And.intro e16 h18)) e16) (And.intro e16 h18)) e16) e16) .normal [(0, 0), (1, 1)] (tourkeep2_ContactPoints.c1q y3 y5 (ieq (el (((0 : Int), (0 : Int), ()), ((0 : Int), (0 : Int), ()), (0 : Int), (0 : Int), ()) y11 (0 : Int)).2.2.2.1 (el (((0 : Int), (0 : Int), ()), ((0 : Int), (0 : Int), ()), (0 : Int), (0 : Int), ()) y11 (1 : Int)).2.2.2.1))) (by kernel_rfl))))) (fun e15 =>
   Owp.some (triple_way (tourkeep2_ContactPoints.cok k) hmix [.res (.one (.dp T4)) y13, .dec true, .dec true, .dec true, .dec true, .dec true, .dec true, .dec true, .dec true, .dec true, .dec true, .dec true, .dec true, .dec true, .dec true] [] [(0, 0), (1, 1)] (via (finP (And.intro (And.intro (And.intro (And.intro (And.intro (And.intro (And.intro (And.intro (And.intro (And.intro (And.intro (And.intro (And.intro (And.intro (And.intro trivial e14) (congrArg not e15)) (congrArg not e15)) (congrArg not e15)) (congrArg not e15)) tt) tt) tt) tt) tt) tt) tt) tt) tt) tt) .normal [(0, 0), (1, 1)] (tourkeep2_ContactPoints.c1q y3 y5 true)) (by kernel_rfl))))
noncomputable def tourkeep2_ContactPoints.c2p (y3 : (List (V28 × (V28 × V28)))) (y5 : (Bool × (Int × V28))) : SL := ⟨[(11, (.val .own (0 : Nat))), (14, (.val .ptr ⟨1, 0, (0 : Int), 0, 0⟩))], [(0, .row (.pair T28 (.pair T28 T28)) y3 35), (1, .cells T28 y5.2.2)]⟩
noncomputable def tourkeep2_ContactPoints.c2q (y3 : (List (V28 × (V28 × V28)))) (y5 : (Bool × (Int × V28))) (o : Bool) : SL := (fun v => ⟨[(11, (.val .own (0 : Nat))), (14, (.val .ptr ⟨1, 0, (0 : Int), 0, 0⟩)), (94, (.val T4 v))], [(0, .row (.pair T28 (.pair T28 T28)) y3 35), (1, .cells T28 y5.2.2)]⟩) o
noncomputable def tourkeep2_ContactPoints.c2x (o : Bool) : Ex := (fun _ => .normal) o
noncomputable def tourkeep2_ContactPoints.c2n (o : Bool) : Nat := (fun _ => 2) o
theorem tourkeep2_ContactPoints.c2_ok (k : Nat) (y3 : (List (V28 × (V28 × V28)))) (y5 : (Bool × (Int × V28))) : Owp (tourkeep2_ContactPoints.c2 k y3) fun o => Triple PR (tourkeep2_ContactPoints.cx k) (sub tourkeep2_ContactPoints.code [1, 1, 1, 1, 1, 1, 0, 0]) 2 (tourkeep2_ContactPoints.c2p y3 y5) (tourkeep2_ContactPoints.c2x o) (tourkeep2_ContactPoints.c2n o) (tourkeep2_ContactPoints.c2q y3 y5 o) := by
  unfold tourkeep2_ContactPoints.c2; exact
   Owp.bif (fun e23 =>
   Owp.some (triple_way (tourkeep2_ContactPoints.cok k) hmix [.dec true, .dec true, .dec true, .dec true, .dec true, .dec true, .dec true, .dec true, .dec true, .dec true, .dec true, .dec true, .dec true, .dec true, .dec true, .dec true, .dec true, .dec true, .dec true, .dec true, .dec true, .dec true, .dec true, .dec true, .dec true, .dec true, .dec true, .dec true, .dec true, .dec true, .dec true, .dec true] [] [(0, 0), (1, 1)] (via (finP (And.intro (And.intro (And.intro (And.intro (And.intro (And.intro (And.intro (And.intro (And.intro (And.intro trivial e23) e23) e23) e23) tt) tt) tt) tt) tt) tt) .normal [(0, 0), (1, 1)] (tourkeep2_ContactPoints.c2q y3 y5 true)) (by kernel_rfl)))) (fun e23 =>
   Owp.bif (fun e24 =>
    Owp.some (triple_way (tourkeep2_ContactPoints.cok k) hmix [.dec false, .dec false, .dec false, .dec false, .dec true, .dec true, .dec true, .dec true, .dec true, .dec true, .dec true, .dec true, .dec true, .dec true, .dec true, .dec true, .dec true, .dec true, .dec true, .dec true, .dec true, .dec true, .dec true, .dec true, .dec true, .dec true, .dec true, .dec true, .dec true, .dec true, .dec true, .dec true] [] [(0, 0), (1, 1)] (via (finP (And.intro (And.intro (And.intro (And.intro (And.intro (And.intro (And.intro (And.intro (And.intro (And.intro trivial e23) e23) e23) e23) e24) e24) e24) e24) e24) e24) .normal [(0, 0), (1, 1)] (tourkeep2_ContactPoints.c2q y3 y5 true)) (by kernel_rfl)))) (fun e24 =>
    Owp.bif (fun e25 =>
     Owp.req fun h26 =>
      Owp.req fun h27 =>
      Owp.bif (fun e28 =>
      Owp.some (triple_way (tourkeep2_ContactPoints.cok k) hmix [.dec false, .dec false, .dec false, .dec false, .dec false, .dec false, .dec false, .dec false, .dec true, .dec true, .dec true, .dec true, .dec true, .dec true, .dec true, .dec true, .dec true, .dec true, .dec true, .dec true, .dec true, .dec true, .dec true, .dec true, .dec true, .dec true, .dec true, .dec true, .dec true, .dec false, .dec true, .dec false] [] [(0, 0), (1, 1)] (via (finP (And.intro (And.intro (And.intro (And.intro (And.intro (And.intro (And.intro (And.intro (And.intro (And.intro (And.intro (And.intro (And.intro (And.intro (And.intro (And.intro (And.intro (And.intro (And.intro (And.intro (And.intro (And.intro (And.intro (And.intro (And.intro (And.intro (And.intro (And.intro (And.intro (And.intro trivial e23) e23) e23) e23) e24) e24) e24) e24) e25) (And.intro e25 h26)) e25) (And.intro e25 h26)) e25) (And.intro e25 h27)) e25) (And.intro e25 h27)) e25) e25) e28) e28) e28) e28) e28) e28) e28) e28) e28) (And.intro e25 e28)) (And.intro e24 e25)) e24) .normal [(0, 0), (1, 1)] (tourkeep2_ContactPoints.c2q y3 y5 true)) (by kernel_rfl)))) (fun e28 =>
      Owp.some (triple_way (tourkeep2_ContactPoints.cok k) hmix [.dec false, .dec false, .dec false, .dec false, .dec false, .dec false, .dec false, .dec false, .dec true, .dec true, .dec true, .dec true, .dec true, .dec true, .dec true, .dec true, .dec true, .dec true, .dec false, .dec false, .dec false, .dec false, .dec false, .dec false, .dec false, .dec false, .dec false, .dec true, .dec false, .dec false, .dec true, .dec false] [] [(0, 0), (1, 1)] (via (finP (And.intro (And.intro (And.intro (And.intro (And.intro (And.intro (And.intro (And.intro (And.intro (And.intro (And.intro (And.intro (And.intro (And.intro (And.intro (And.intro (And.intro (And.intro (And.intro (And.intro (And.intro (And.intro (And.intro (And.intro (And.intro (And.intro (And.intro (And.intro (And.intro (And.intro trivial e23) e23) e23) e23) e24) e24) e24) e24) e25) (And.intro e25 h26)) e25) (And.intro e25 h26)) e25) (And.intro e25 h27)) e25) (And.intro e25 h27)) e25) e25) e28) (And.intro e28 h26)) e28) (And.intro e28 h26)) e28) (And.intro e28 h27)) e28) (And.intro e28 h27)) e28) (And.intro e25 e28)) (And.intro e24 e25)) e24) .normal [(0, 0), (1, 1)] (tourkeep2_ContactPoints.c2q y3 y5 (Ty.eqb T28 (el (((0 : Int), (0 : Int), ()), ((0 : Int), (0 : Int), ()), (0 : Int), (0 : Int), ()) y3 (0 : Int)).1 (el (((0 : Int), (0 : Int), ()), ((0 : Int), (0 : Int), ()), (0 : Int), (0 : Int), ()) y3 (1 : Int)).1))) (by kernel_rfl))))) (fun e25 =>
     Owp.some (triple_way (tourkeep2_ContactPoints.cok k) hmix [.dec false, .dec false, .dec false, .dec false, .dec false, .dec false, .dec false, .dec false, .dec false, .dec false, .dec false, .dec false, .dec false, .dec false, .dec false, .dec false, .dec false, .dec false, .dec true, .dec true, .dec true, .dec true, .dec true, .dec true, .dec true, .dec true, .dec true, .dec false, .dec true, .dec false, .dec false, .dec false] [] [(0, 0), (1, 1)] (via (finP (And.intro (And.intro (And.intro (And.intro (And.intro (And.intro (And.intro (And.intro (And.intro (And.intro (And.intro (And.intro (And.intro (And.intro (And.intro (And.intro (And.intro (And.intro (And.intro (And.intro (And.intro trivial e23) e23) e23) e23) e24) e24) e24) e24) e25) e25) e25) e25) e25) e25) e25) e25) e25) e25) e25) (And.intro e24 e25)) e24) .normal [(0, 0), (1, 1)] (tourkeep2_ContactPoints.c2q y3 y5 false)) (by kernel_rfl))))))
theorem tourkeep2_ContactPoints.way (k : Nat) (a0 : (List Int)) (a1 : (List Int)) (a2 : Int) (a3 : Int) : Owp (tourkeep2_ContactPoints k a0 a1 a2 a3) fun y => ∃ answers cmds, exec PR (tourkeep2_ContactPoints.cx k) tourkeep2_ContactPoints.code 0 (entry (.pair T22 (.pair T22 T28)) (a0, a1, a2, a3, ())).st answers (Ret (tourkeep2_ContactPoints.cx k) Try.f3 cmds (.one (.dp T4)) y) := by
  unfold tourkeep2_ContactPoints; exact
   Owp.bnd fun y1 e2 =>
   Owp.bnd fun y3 e4 =>
   Owp.bnd fun y5 e6 =>
   Owp.bnd fun y7 e8 =>
   Owp.bnd fun y9 e10 =>
   Owp.bnd fun y11 e12 =>
   Owp.bnd fun o19 e20 =>
   Owp.bif (fun e21 =>
   Owp.some (⟨[.res (.more (.dp T23) (.one (.ow T28 29))) y1, .res (.one (.ow (.pair T28 (.pair T28 T28)) 35)) y3, .res (.more (.dp T4) (.more (.dp T2) (.one (.dp T28)))) y5, .res (.one (.ow T28 29)) y7, .res (.one (.ow T28 29)) y9, .res (.one (.ow (.pair T28 (.pair T28 T28)) 35)) y11, .cutR 5 ⟨[], [(0, 13), (1, 22), (2, 28)], (tourkeep2_ContactPoints.c1p y3 y5 y11), 3, .normal, (tourkeep2_ContactPoints.c1q y3 y5 o19), 2⟩, .dec true], [], via (cutP (And.intro (And.intro (And.intro (And.intro (And.intro (And.intro trivial e2) e4) e6) e8) e10) e12) [(0, 13), (1, 22), (2, 28)] (tourkeep2_ContactPoints.c1p y3 y5 y11) (((tourkeep2_ContactPoints.c1_ok k y3 y5 y11).ap e20)) (retP (And.intro trivial e21) (.one (.dp T4)) (false : Bool))) (by kernel_rfl)⟩)) (fun e21 =>
   Owp.bif (fun e22 =>
    Owp.bnd fun o29 e30 =>
     Owp.bif (fun e31 =>
     Owp.some (⟨[.res (.more (.dp T23) (.one (.ow T28 29))) y1, .res (.one (.ow (.pair T28 (.pair T28 T28)) 35)) y3, .res (.more (.dp T4) (.more (.dp T2) (.one (.dp T28)))) y5, .res (.one (.ow T28 29)) y7, .res (.one (.ow T28 29)) y9, .res (.one (.ow (.pair T28 (.pair T28 T28)) 35)) y11, .cutR 5 ⟨[], [(0, 13), (1, 22), (2, 28)], (tourkeep2_ContactPoints.c1p y3 y5 y11), 3, .normal, (tourkeep2_ContactPoints.c1q y3 y5 o19), 2⟩, .dec false, .dec false, .cutR 9 ⟨[], [(0, 0), (1, 1)], (tourkeep2_ContactPoints.c2p y3 y5), 2, .normal, (tourkeep2_ContactPoints.c2q y3 y5 o29), 2⟩, .dec true], [], via (cutP (And.intro (And.intro (And.intro (And.intro (And.intro (And.intro trivial e2) e4) e6) e8) e10) e12) [(0, 13), (1, 22), (2, 28)] (tourkeep2_ContactPoints.c1p y3 y5 y11) (((tourkeep2_ContactPoints.c1_ok k y3 y5 y11).ap e20)) (cutP (And.intro (And.intro trivial e21) (congrArg not e22)) [(0, 0), (1, 1)] (tourkeep2_ContactPoints.c2p y3 y5) (((tourkeep2_ContactPoints.c2_ok k y3 y5).ap e30)) (retP (And.intro trivial e31) (.one (.dp T4)) (false : Bool)))) (by kernel_rfl)⟩)) (fun e31 =>
     Owp.bnd fun y32 e33 =>
      Owp.some (⟨[.res (.more (.dp T23) (.one (.ow T28 29))) y1, .res (.one (.ow (.pair T28 (.pair T28 T28)) 35)) y3, .res (.more (.dp T4) (.more (.dp T2) (.one (.dp T28)))) y5, .res (.one (.ow T28 29)) y7, .res (.one (.ow T28 29)) y9, .res (.one (.ow (.pair T28 (.pair T28 T28)) 35)) y11, .cutR 5 ⟨[], [(0, 13), (1, 22), (2, 28)], (tourkeep2_ContactPoints.c1p y3 y5 y11), 3, .normal, (tourkeep2_ContactPoints.c1q y3 y5 o19), 2⟩, .dec false, .dec false, .cutR 9 ⟨[], [(0, 0), (1, 1)], (tourkeep2_ContactPoints.c2p y3 y5), 2, .normal, (tourkeep2_ContactPoints.c2q y3 y5 o29), 2⟩, .dec false, .res (.one (.dp T4)) y32], [], via (cutP (And.intro (And.intro (And.intro (And.intro (And.intro (And.intro trivial e2) e4) e6) e8) e10) e12) [(0, 13), (1, 22), (2, 28)] (tourkeep2_ContactPoints.c1p y3 y5 y11) (((tourkeep2_ContactPoints.c1_ok k y3 y5 y11).ap e20)) (cutP (And.intro (And.intro trivial e21) (congrArg not e22)) [(0, 0), (1, 1)] (tourkeep2_ContactPoints.c2p y3 y5) (((tourkeep2_ContactPoints.c2_ok k y3 y5).ap e30)) (retP (And.intro (And.intro trivial e31) e33) (.one (.dp T4)) ((!y32) : Bool)))) (by kernel_rfl)⟩))) (fun e22 =>
    Owp.some (⟨[.res (.more (.dp T23) (.one (.ow T28 29))) y1, .res (.one (.ow (.pair T28 (.pair T28 T28)) 35)) y3, .res (.more (.dp T4) (.more (.dp T2) (.one (.dp T28)))) y5, .res (.one (.ow T28 29)) y7, .res (.one (.ow T28 29)) y9, .res (.one (.ow (.pair T28 (.pair T28 T28)) 35)) y11, .cutR 5 ⟨[], [(0, 13), (1, 22), (2, 28)], (tourkeep2_ContactPoints.c1p y3 y5 y11), 3, .normal, (tourkeep2_ContactPoints.c1q y3 y5 o19), 2⟩, .dec false, .dec true], [], via (cutP (And.intro (And.intro (And.intro (And.intro (And.intro (And.intro trivial e2) e4) e6) e8) e10) e12) [(0, 13), (1, 22), (2, 28)] (tourkeep2_ContactPoints.c1p y3 y5 y11) (((tourkeep2_ContactPoints.c1_ok k y3 y5 y11).ap e20)) (retP (And.intro (And.intro trivial e21) (congrArg not e22)) (.one (.dp T4)) ((ieq (len y3) (0 : Int)) : Bool))) (by kernel_rfl)⟩)))
theorem tourkeep2_ContactPoints.ok (k : Nat) : FnOk PR 3 (tourkeep2_ContactPoints.sp k) :=
  fn_ok (tourkeep2_ContactPoints.cok k) hmix Try.func3 (code := tourkeep2_ContactPoints.code) (by kernel_rfl) (by kernel_rfl) (by kernel_rfl) rfl (by kernel_rfl) (by kernel_rfl) (by kernel_rfl) (fun x => Nat.le_of_ble_eq_true (by kernel_rfl)) fun x y hy => (tourkeep2_ContactPoints.way k x.1 x.2.1 x.2.2.1 x.2.2.2.1).ap hy

end Go.Proofs.T1
