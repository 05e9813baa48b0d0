import Derived.Test.YtcgcnojpcgjnmaaG0
import Derived.Test.YtcgcnojpcgjnmaaG1
import Derived.Test.YtcgcnojpcgjnmaaG2
import Derived.Test.YtcgcnojpcgjnmaaG3
import Derived.Test.YtcgcnojpcgjnmaaG4
import Derived.Test.YtcgcnojpcgjnmaaG5
import Derived.Test.YtcgcnojpcgjnmaaG8
namespace Go.Proofs.T1
open Go Go.Sx Go.Proofs
set_option maxRecDepth 100000
set_option linter.unusedVariables false
/-! tourney/contact.dot -/
noncomputable def contact_dot.code : Code := Func.cd Try.f143
def contact_dot (k : Nat) (a0 : V22) (a1 : V22) : Option Int :=
  some (iadd .i64 (imul .i64 a0.1 a1.1) (imul .i64 a0.2.1 a1.2.1))
noncomputable def contact_dot.sp (k : Nat) : Go.Sx.Spec := ⟨(.pair T22 (.pair T22 .unit)), (.one (.dp T2)), fun x => contact_dot k x.1 x.2.1, false⟩
noncomputable def contact_dot.cx (k : Nat) : Go.Sx.Ctx := ⟨tys, [], eqs, 16, false⟩
theorem contact_dot.cok (k : Nat) : CtxOk PR (contact_dot.cx k) := ctx_ok tysOk eqsOk FnsOk.nil
theorem contact_dot.way (k : Nat) (a0 : V22) (a1 : V22) : Owp (contact_dot k a0 a1) fun y => ∃ answers cmds, exec PR (contact_dot.cx k) contact_dot.code 0 (entry (.pair T22 (.pair T22 .unit)) (a0, a1, ())).st answers (Ret (contact_dot.cx k) Try.f143 cmds (.one (.dp T2)) y) := by
  unfold contact_dot; exact
   Owp.some (⟨[], [], via (retP trivial (.one (.dp T2)) ((iadd .i64 (imul .i64 a0.1 a1.1) (imul .i64 a0.2.1 a1.2.1)) : Int)) (by kernel_rfl)⟩)
theorem contact_dot.ok (k : Nat) : FnOk PR 143 (contact_dot.sp k) :=
  fn_ok (contact_dot.cok k) hmix Try.func143 (code := contact_dot.code) (by kernel_rfl) (by kernel_rfl) (by kernel_rfl) rfl (by kernel_rfl) (by kernel_rfl) (by kernel_rfl) (fun x => Nat.le_of_ble_eq_true (by kernel_rfl)) fun x y hy => (contact_dot.way k x.1 x.2.1).ap hy

/-! tourney/contact.facing -/
noncomputable def contact_facing.code : Code := Func.cd Try.f141
def contact_facing.c1 (k : Nat) (a0 : (List V22)) (a1 : V22) : Nat → Int → Int → Option (Int)
  | 0, _, _ => none
  | n + 1, v1, v2 =>
   bif' (ilt v2 (len a0))
   (req (inL v2 a0) <|
    bnd (contact_dot k (el Z22 a0 v2) a1) fun y5 =>
    req (inL v1 a0) <|
    bnd (contact_dot k (el Z22 a0 v1) a1) fun y8 =>
    bif' (ilt y5 y8)
    (contact_facing.c1 k a0 a1 n v2 (iadd .i64 v2 1))
    (contact_facing.c1 k a0 a1 n v1 (iadd .i64 v2 1)))
   (some v1)
def contact_facing (k : Nat) (a0 : (List V22)) (a1 : V22) : Option Int :=
  bnd (contact_facing.c1 k a0 a1 k 0 0) fun o11 =>
  req (nz (len a0)) <|
  req (inL (irem (isub .i64 (iadd .i64 o11 (len a0)) 1) (len a0)) a0) <|
  bnd (contact_dot k (el Z22 a0 (irem (isub .i64 (iadd .i64 o11 (len a0)) 1) (len a0))) a1) fun y15 =>
  req (inL (irem (iadd .i64 o11 1) (len a0)) a0) <|
  bnd (contact_dot k (el Z22 a0 (irem (iadd .i64 o11 1) (len a0))) a1) fun y18 =>
  bif' (ilt y15 y18)
  (some (irem (isub .i64 (iadd .i64 o11 (len a0)) 1) (len a0)))
  (some o11)
noncomputable def contact_facing.sp (k : Nat) : Go.Sx.Spec := ⟨(.pair T24 (.pair T22 .unit)), (.one (.dp T2)), fun x => contact_facing k x.1 x.2.1, false⟩
noncomputable def contact_facing.cx (k : Nat) : Go.Sx.Ctx := ⟨tys, [(143, contact_dot.sp k)], eqs, 55, false⟩
theorem contact_facing.cok (k : Nat) : CtxOk PR (contact_facing.cx k) := ctx_ok tysOk eqsOk (FnsOk.cons (contact_dot.ok k) FnsOk.nil)
noncomputable def contact_facing.c1p (a0 : (List V22)) (a1 : V22) (v1 : Int) (v2 : Int) : SL := ⟨[(0, (.val T24 a0)), (3, (.val .ptr ⟨0, 0, (0 : Int), 0, 0⟩)), (5, (.val T2 v1)), (9, (.val T24 a0)), (10, (.val T2 (len a0))), (11, (.val T2 v2))], [(0, .cells T22 a1)]⟩
noncomputable def contact_facing.c1q (a0 : (List V22)) (a1 : V22) (o : Int) : SL := (fun v => ⟨[(0, (.val T24 a0)), (3, (.val .ptr ⟨0, 0, (0 : Int), 0, 0⟩)), (5, (.val T2 v))], [(0, .cells T22 a1)]⟩) o
noncomputable def contact_facing.c1x (o : Int) : Ex := (fun _ => (.exit 0)) o
noncomputable def contact_facing.c1n (o : Int) : Nat := (fun _ => 1) o
theorem contact_facing.c1_ok (k : Nat) (a0 : (List V22)) (a1 : V22) : ∀ (n : Nat) (v1 : Int) (v2 : Int), Owp (contact_facing.c1 k a0 a1 n v1 v2) fun o => LTriple PR (contact_facing.cx k) (sub contact_facing.code [1, 1, 0, 1, 0, 0]) 1 (contact_facing.c1p a0 a1 v1 v2) (contact_facing.c1x o) (contact_facing.c1n o) (contact_facing.c1q a0 a1 o)
  | 0, _, _ => fun _ h => nomatch h
  | n + 1, v1, v2 => Owp.of (contact_facing.c1.eq_2 ..) (
   Owp.bif (fun e3 =>
   Owp.req fun h4 =>
    Owp.bnd fun y5 e6 =>
    Owp.req fun h7 =>
    Owp.bnd fun y8 e9 =>
    Owp.bif (fun e10 =>
    fun y hy => loop_back (contact_facing.cok k) hmix 1 (contact_facing.c1p a0 a1 v2 (iadd .i64 v2 (1 : Int))) [.dec true, .res (.one (.dp T2)) y5, .res (.one (.dp T2)) y8, .dec true] [] [(0, 0)] (via (finP (And.intro (And.intro (And.intro (And.intro (And.intro (And.intro trivial e3) h4) e6) h7) e9) e10) .normal [(0, 0)] (contact_facing.c1p a0 a1 v2 (iadd .i64 v2 (1 : Int)))) (by kernel_rfl)) ((contact_facing.c1_ok k a0 a1 n v2 (iadd .i64 v2 (1 : Int))).ap hy)) (fun e10 =>
    fun y hy => loop_back (contact_facing.cok k) hmix 1 (contact_facing.c1p a0 a1 v1 (iadd .i64 v2 (1 : Int))) [.dec true, .res (.one (.dp T2)) y5, .res (.one (.dp T2)) y8, .dec false] [] [(0, 0)] (via (finP (And.intro (And.intro (And.intro (And.intro (And.intro (And.intro trivial e3) h4) e6) h7) e9) e10) .normal [(0, 0)] (contact_facing.c1p a0 a1 v1 (iadd .i64 v2 (1 : Int)))) (by kernel_rfl)) ((contact_facing.c1_ok k a0 a1 n v1 (iadd .i64 v2 (1 : Int))).ap hy))) (fun e3 =>
   Owp.some (loop_exit (contact_facing.cok k) hmix [.dec false] [] [(0, 0)] (exne 0) (via (finP (And.intro trivial e3) (.exit 0) [(0, 0)] (contact_facing.c1q a0 a1 v1)) (by kernel_rfl)))))
theorem contact_facing.way (k : Nat) (a0 : (List V22)) (a1 : V22) : Owp (contact_facing k a0 a1) fun y => ∃ answers cmds, exec PR (contact_facing.cx k) contact_facing.code 0 (entry (.pair T24 (.pair T22 .unit)) (a0, a1, ())).st answers (Ret (contact_facing.cx k) Try.f141 cmds (.one (.dp T2)) y) := by
  unfold contact_facing; exact
   Owp.bnd fun o11 e12 =>
   Owp.req fun h13 =>
   Owp.req fun h14 =>
   Owp.bnd fun y15 e16 =>
   Owp.req fun h17 =>
   Owp.bnd fun y18 e19 =>
   Owp.bif (fun e20 =>
   Owp.some (⟨[.cut ⟨[], [(0, 0)], (contact_facing.c1p a0 a1 (0 : Int) (0 : Int)), 1, (.exit 0), (contact_facing.c1q a0 a1 o11), 1⟩, .res (.one (.dp T2)) y15, .res (.one (.dp T2)) y18, .dec true], [], via (cutP trivial [(0, 0)] (contact_facing.c1p a0 a1 (0 : Int) (0 : Int)) (((contact_facing.c1_ok k a0 a1 k (0 : Int) (0 : Int)).ap e12).triple) (retP (And.intro (And.intro (And.intro (And.intro (And.intro (And.intro (And.intro trivial h13) h14) e16) h13) h17) e19) e20) (.one (.dp T2)) ((irem (isub .i64 (iadd .i64 o11 (len a0)) (1 : Int)) (len a0)) : Int))) (by kernel_rfl)⟩)) (fun e20 =>
   Owp.some (⟨[.cut ⟨[], [(0, 0)], (contact_facing.c1p a0 a1 (0 : Int) (0 : Int)), 1, (.exit 0), (contact_facing.c1q a0 a1 o11), 1⟩, .res (.one (.dp T2)) y15, .res (.one (.dp T2)) y18, .dec false], [], via (cutP trivial [(0, 0)] (contact_facing.c1p a0 a1 (0 : Int) (0 : Int)) (((contact_facing.c1_ok k a0 a1 k (0 : Int) (0 : Int)).ap e12).triple) (retP (And.intro (And.intro (And.intro (And.intro (And.intro (And.intro (And.intro trivial h13) h14) e16) h13) h17) e19) e20) (.one (.dp T2)) (o11 : Int))) (by kernel_rfl)⟩))
theorem contact_facing.ok (k : Nat) : FnOk PR 141 (contact_facing.sp k) :=
  fn_ok (contact_facing.cok k) hmix Try.func141 (code := contact_facing.code) (by kernel_rfl) (by kernel_rfl) (by kernel_rfl) rfl (by kernel_rfl) (by kernel_rfl) (by kernel_rfl) (fun x => Nat.le_of_ble_eq_true (by kernel_rfl)) fun x y hy => (contact_facing.way k x.1 x.2.1).ap hy

/-! tourney/contact.minus -/
noncomputable def contact_minus.code : Code := Func.cd Try.f144
def contact_minus (k : Nat) (a0 : V22) (a1 : V22) : Option V22 :=
  some ((isub .i64 a0.1 a1.1), (isub .i64 a0.2.1 a1.2.1), ())
noncomputable def contact_minus.sp (k : Nat) : Go.Sx.Spec := ⟨(.pair T22 (.pair T22 .unit)), (.one (.dp T22)), fun x => contact_minus k x.1 x.2.1, false⟩
noncomputable def contact_minus.cx (k : Nat) : Go.Sx.Ctx := ⟨tys, [], eqs, 16, false⟩
theorem contact_minus.cok (k : Nat) : CtxOk PR (contact_minus.cx k) := ctx_ok tysOk eqsOk FnsOk.nil
theorem contact_minus.way (k : Nat) (a0 : V22) (a1 : V22) : Owp (contact_minus k a0 a1) fun y => ∃ answers cmds, exec PR (contact_minus.cx k) contact_minus.code 0 (entry (.pair T22 (.pair T22 .unit)) (a0, a1, ())).st answers (Ret (contact_minus.cx k) Try.f144 cmds (.one (.dp T22)) y) := by
  unfold contact_minus; exact
   Owp.some (⟨[], [], via (retP trivial (.one (.dp T22)) (((isub .i64 a0.1 a1.1), (isub .i64 a0.2.1 a1.2.1), ()) : V22)) (by kernel_rfl)⟩)
theorem contact_minus.ok (k : Nat) : FnOk PR 144 (contact_minus.sp k) :=
  fn_ok (contact_minus.cok k) hmix Try.func144 (code := contact_minus.code) (by kernel_rfl) (by kernel_rfl) (by kernel_rfl) rfl (by kernel_rfl) (by kernel_rfl) (by kernel_rfl) (fun x => Nat.le_of_ble_eq_true (by kernel_rfl)) fun x y hy => (contact_minus.way k x.1 x.2.1).ap hy

/-! tourney/contact.between -/
noncomputable def contact_between.code : Code := Func.cd Try.f187
def contact_between (k : Nat) (a0 : V22) (a1 : V22) (a2 : Int) (a3 : Int) : Option V22 :=
  bnd (poly_Times k (isub .i64 a1.1 a0.1) a2) fun y1 =>
  bnd (poly_Wide_Over k y1 (isub .i64 a2 a3)) fun y3 =>
  bnd (poly_Times k (isub .i64 a1.2.1 a0.2.1) a2) fun y5 =>
  bnd (poly_Wide_Over k y5 (isub .i64 a2 a3)) fun y7 =>
  some ((iadd .i64 a0.1 y3.1), (iadd .i64 a0.2.1 y7.1), ())
noncomputable def contact_between.sp (k : Nat) : Go.Sx.Spec := ⟨(.pair T22 (.pair T22 T22)), (.one (.dp T22)), fun x => contact_between k x.1 x.2.1 x.2.2.1 x.2.2.2.1, false⟩
noncomputable def contact_between.cx (k : Nat) : Go.Sx.Ctx := ⟨tys, [(96, poly_Times.sp k), (97, poly_Wide_Over.sp k)], eqs, 50, false⟩
theorem contact_between.cok (k : Nat) : CtxOk PR (contact_between.cx k) := ctx_ok tysOk eqsOk (FnsOk.cons (poly_Times.ok k) (FnsOk.cons (poly_Wide_Over.ok k) FnsOk.nil))
theorem contact_between.way (k : Nat) (a0 : V22) (a1 : V22) (a2 : Int) (a3 : Int) : Owp (contact_between k a0 a1 a2 a3) fun y => ∃ answers cmds, exec PR (contact_between.cx k) contact_between.code 0 (entry (.pair T22 (.pair T22 T22)) (a0, a1, a2, a3, ())).st answers (Ret (contact_between.cx k) Try.f187 cmds (.one (.dp T22)) y) := by
  unfold contact_between; exact
   Owp.bnd fun y1 e2 =>
   Owp.bnd fun y3 e4 =>
   Owp.bnd fun y5 e6 =>
   Owp.bnd fun y7 e8 =>
   Owp.some (⟨[.res (.one (.dp T90)) y1, .res (.more (.dp T2) (.one (.dp T2))) y3, .res (.one (.dp T90)) y5, .res (.more (.dp T2) (.one (.dp T2))) y7], [], via (retP (And.intro (And.intro (And.intro (And.intro trivial e2) e4) e6) e8) (.one (.dp T22)) (((iadd .i64 a0.1 y3.1), (iadd .i64 a0.2.1 y7.1), ()) : V22)) (by kernel_rfl)⟩)
theorem contact_between.ok (k : Nat) : FnOk PR 187 (contact_between.sp k) :=
  fn_ok (contact_between.cok k) hmix Try.func187 (code := contact_between.code) (by kernel_rfl) (by kernel_rfl) (by kernel_rfl) rfl (by kernel_rfl) (by kernel_rfl) (by kernel_rfl) (fun x => Nat.le_of_ble_eq_true (by kernel_rfl)) fun x y hy => (contact_between.way k x.1 x.2.1 x.2.2.1 x.2.2.2.1).ap hy

/-! tourney/contact.clip -/
noncomputable def contact_clip.code : Code := Func.cd Try.f145
def contact_clip.c1 (k : Nat) (y3 : Int) (y7 : Int) : Option (Bool) :=
  bif' (ilt y3 0)
  (some (ilt y7 0))
  (some false)
def contact_clip.c2 (k : Nat) (a0 : V22) (a1 : V22) (y3 : Int) (y7 : Int) : Option ((V22 × V22)) :=
  bif' (ilt y3 0)
  (bnd (contact_between k a0 a1 y3 y7) fun y14 =>
   some (y14, a1))
  (bif' (ilt y7 0)
   (bnd (contact_between k a0 a1 y3 y7) fun y17 =>
    some (a0, y17))
   (some (a0, a1)))
def contact_clip (k : Nat) (a0 : V22) (a1 : V22) (a2 : V22) (a3 : V22) : Option (V22 × (V22 × Bool)) :=
  bnd (contact_minus k a0 a2) fun y1 =>
  bnd (contact_dot k y1 a3) fun y3 =>
  bnd (contact_minus k a1 a2) fun y5 =>
  bnd (contact_dot k y5 a3) fun y7 =>
  bnd (contact_clip.c1 k y3 y7) fun o10 =>
  bif' o10
  (some (a0, a1, false))
  (bnd (contact_clip.c2 k a0 a1 y3 y7) fun o19 =>
   some (o19.1, o19.2, true))
noncomputable def contact_clip.sp (k : Nat) : Go.Sx.Spec := ⟨(.pair T22 (.pair T22 (.pair T22 (.pair T22 .unit)))), (.more (.dp T22) (.more (.dp T22) (.one (.dp T4)))), fun x => contact_clip k x.1 x.2.1 x.2.2.1 x.2.2.2.1, false⟩
noncomputable def contact_clip.cx (k : Nat) : Go.Sx.Ctx := ⟨tys, [(144, contact_minus.sp k), (143, contact_dot.sp k), (187, contact_between.sp k)], eqs, 50, false⟩
theorem contact_clip.cok (k : Nat) : CtxOk PR (contact_clip.cx k) := ctx_ok tysOk eqsOk (FnsOk.cons (contact_minus.ok k) (FnsOk.cons (contact_dot.ok k) (FnsOk.cons (contact_between.ok k) FnsOk.nil)))
noncomputable def contact_clip.c1p (a0 : V22) (a1 : V22) (y3 : Int) (y7 : Int) : SL := ⟨[(4, (.val .ptr ⟨0, 0, (0 : Int), 0, 0⟩)), (5, (.val .ptr ⟨1, 0, (0 : Int), 0, 0⟩)), (8, (.val .ptr ⟨2, 0, (0 : Int), 0, 0⟩)), (9, (.val .ptr ⟨3, 0, (0 : Int), 0, 0⟩)), (11, (.val T2 y3)), (12, (.val T2 y7))], [(0, .cells T22 a0), (1, .cells T22 a1), (2, .cells T22 ((0 : Int), (0 : Int), ())), (3, .cells T22 ((0 : Int), (0 : Int), ()))]⟩
noncomputable def contact_clip.c1q (a0 : V22) (a1 : V22) (y3 : Int) (y7 : Int) (o : Bool) : SL := (fun v => ⟨[(4, (.val .ptr ⟨0, 0, (0 : Int), 0, 0⟩)), (5, (.val .ptr ⟨1, 0, (0 : Int), 0, 0⟩)), (8, (.val .ptr ⟨2, 0, (0 : Int), 0, 0⟩)), (9, (.val .ptr ⟨3, 0, (0 : Int), 0, 0⟩)), (11, (.val T2 y3)), (12, (.val T2 y7)), (23, (.val T4 v))], [(0, .cells T22 a0), (1, .cells T22 a1), (2, .cells T22 ((0 : Int), (0 : Int), ())), (3, .cells T22 ((0 : Int), (0 : Int), ()))]⟩) o
noncomputable def contact_clip.c1x (o : Bool) : Ex := (fun _ => .normal) o
noncomputable def contact_clip.c1n (o : Bool) : Nat := (fun _ => 4) o
theorem contact_clip.c1_ok (k : Nat) (a0 : V22) (a1 : V22) (y3 : Int) (y7 : Int) : Owp (contact_clip.c1 k y3 y7) fun o => Triple PR (contact_clip.cx k) (sub contact_clip.code [1, 1, 0, 0, 0]) 4 (contact_clip.c1p a0 a1 y3 y7) (contact_clip.c1x o) (contact_clip.c1n o) (contact_clip.c1q a0 a1 y3 y7 o) := by
  unfold contact_clip.c1; exact
   Owp.bif (fun e9 =>
   Owp.some (triple_way (contact_clip.cok k) hmix [.dec true, .dec true, .dec true] [] [(0, 0), (1, 1), (2, 2), (3, 3)] (via (finP (And.intro (And.intro (And.intro trivial e9) e9) e9) .normal [(0, 0), (1, 1), (2, 2), (3, 3)] (contact_clip.c1q a0 a1 y3 y7 (ilt y7 (0 : Int)))) (by kernel_rfl)))) (fun e9 =>
   Owp.some (triple_way (contact_clip.cok k) hmix [.dec false, .dec false, .dec false] [] [(0, 0), (1, 1), (2, 2), (3, 3)] (via (finP (And.intro (And.intro (And.intro trivial e9) e9) e9) .normal [(0, 0), (1, 1), (2, 2), (3, 3)] (contact_clip.c1q a0 a1 y3 y7 false)) (by kernel_rfl))))
noncomputable def contact_clip.c2p (a0 : V22) (a1 : V22) (y3 : Int) (y7 : Int) : SL := ⟨[(4, (.val .ptr ⟨0, 0, (0 : Int), 0, 0⟩)), (5, (.val .ptr ⟨1, 0, (0 : Int), 0, 0⟩)), (8, (.val .ptr ⟨2, 0, (0 : Int), 0, 0⟩)), (9, (.val .ptr ⟨3, 0, (0 : Int), 0, 0⟩)), (11, (.val T2 y3)), (12, (.val T2 y7)), (32, (.val T4 (ilt y3 (0 : Int))))], [(0, .cells T22 a0), (1, .cells T22 a1), (2, .cells T22 ((0 : Int), (0 : Int), ())), (3, .cells T22 ((0 : Int), (0 : Int), ()))]⟩
noncomputable def contact_clip.c2q (o : (V22 × V22)) : SL := (fun v => ⟨[(4, (.val .ptr ⟨0, 0, (0 : Int), 0, 0⟩)), (5, (.val .ptr ⟨1, 0, (0 : Int), 0, 0⟩)), (8, (.val .ptr ⟨2, 0, (0 : Int), 0, 0⟩)), (9, (.val .ptr ⟨3, 0, (0 : Int), 0, 0⟩))], [(0, .cells T22 v.1), (1, .cells T22 v.2), (2, .cells T22 ((0 : Int), (0 : Int), ())), (3, .cells T22 ((0 : Int), (0 : Int), ()))]⟩) o
noncomputable def contact_clip.c2x (o : (V22 × V22)) : Ex := (fun _ => .normal) o
noncomputable def contact_clip.c2n (o : (V22 × V22)) : Nat := (fun _ => 4) o
theorem contact_clip.c2_ok (k : Nat) (a0 : V22) (a1 : V22) (y3 : Int) (y7 : Int) : Owp (contact_clip.c2 k a0 a1 y3 y7) fun o => Triple PR (contact_clip.cx k) (sub contact_clip.code [1, 1, 0, 0, 1, 1, 1]) 4 (contact_clip.c2p a0 a1 y3 y7) (contact_clip.c2x o) (contact_clip.c2n o) (contact_clip.c2q o) := by
  unfold contact_clip.c2; exact
   Owp.bif (fun e13 =>
   Owp.bnd fun y14 e15 =>
    Owp.some (triple_way (contact_clip.cok k) hmix [.dec true, .res (.one (.dp T22)) y14] [] [(0, 0), (1, 1), (2, 2), (3, 3)] (via (finP (And.intro (And.intro trivial e13) e15) .normal [(0, 0), (1, 1), (2, 2), (3, 3)] (contact_clip.c2q (y14, a1))) (by kernel_rfl)))) (fun e13 =>
   Owp.bif (fun e16 =>
    Owp.bnd fun y17 e18 =>
     Owp.some (triple_way (contact_clip.cok k) hmix [.dec false, .dec true, .res (.one (.dp T22)) y17] [] [(0, 0), (1, 1), (2, 2), (3, 3)] (via (finP (And.intro (And.intro (And.intro trivial e13) e16) e18) .normal [(0, 0), (1, 1), (2, 2), (3, 3)] (contact_clip.c2q (a0, y17))) (by kernel_rfl)))) (fun e16 =>
    Owp.some (triple_way (contact_clip.cok k) hmix [.dec false, .dec false] [] [(0, 0), (1, 1), (2, 2), (3, 3)] (via (finP (And.intro (And.intro trivial e13) e16) .normal [(0, 0), (1, 1), (2, 2), (3, 3)] (contact_clip.c2q (a0, a1))) (by kernel_rfl)))))
theorem contact_clip.way (k : Nat) (a0 : V22) (a1 : V22) (a2 : V22) (a3 : V22) : Owp (contact_clip k a0 a1 a2 a3) fun y => ∃ answers cmds, exec PR (contact_clip.cx k) contact_clip.code 0 (entry (.pair T22 (.pair T22 (.pair T22 (.pair T22 .unit)))) (a0, a1, a2, a3, ())).st answers (Ret (contact_clip.cx k) Try.f145 cmds (.more (.dp T22) (.more (.dp T22) (.one (.dp T4)))) y) := by
  unfold contact_clip; exact
   Owp.bnd fun y1 e2 =>
   Owp.bnd fun y3 e4 =>
   Owp.bnd fun y5 e6 =>
   Owp.bnd fun y7 e8 =>
   Owp.bnd fun o10 e11 =>
   Owp.bif (fun e12 =>
   Owp.some (⟨[.res (.one (.dp T22)) y1, .res (.one (.dp T2)) y3, .res (.one (.dp T22)) y5, .res (.one (.dp T2)) y7, .cutR 2 ⟨[], [(0, 0), (1, 1), (2, 4), (3, 5)], (contact_clip.c1p a0 a1 y3 y7), 4, .normal, (contact_clip.c1q a0 a1 y3 y7 o10), 4⟩, .dec true], [], via (cutP (And.intro (And.intro (And.intro (And.intro trivial e2) e4) e6) e8) [(0, 0), (1, 1), (2, 4), (3, 5)] (contact_clip.c1p a0 a1 y3 y7) (((contact_clip.c1_ok k a0 a1 y3 y7).ap e11)) (retP (And.intro trivial e12) (.more (.dp T22) (.more (.dp T22) (.one (.dp T4)))) ((a0, a1, false) : (V22 × (V22 × Bool))))) (by kernel_rfl)⟩)) (fun e12 =>
   Owp.bnd fun o19 e20 =>
    Owp.some (⟨[.res (.one (.dp T22)) y1, .res (.one (.dp T2)) y3, .res (.one (.dp T22)) y5, .res (.one (.dp T2)) y7, .cutR 2 ⟨[], [(0, 0), (1, 1), (2, 4), (3, 5)], (contact_clip.c1p a0 a1 y3 y7), 4, .normal, (contact_clip.c1q a0 a1 y3 y7 o10), 4⟩, .dec false, .cut ⟨[], [(0, 0), (1, 1), (2, 2), (3, 3)], (contact_clip.c2p a0 a1 y3 y7), 4, .normal, (contact_clip.c2q o19), 4⟩], [], via (cutP (And.intro (And.intro (And.intro (And.intro trivial e2) e4) e6) e8) [(0, 0), (1, 1), (2, 4), (3, 5)] (contact_clip.c1p a0 a1 y3 y7) (((contact_clip.c1_ok k a0 a1 y3 y7).ap e11)) (cutP (And.intro trivial e12) [(0, 0), (1, 1), (2, 2), (3, 3)] (contact_clip.c2p a0 a1 y3 y7) (((contact_clip.c2_ok k a0 a1 y3 y7).ap e20)) (retP trivial (.more (.dp T22) (.more (.dp T22) (.one (.dp T4)))) ((o19.1, o19.2, true) : (V22 × (V22 × Bool)))))) (by kernel_rfl)⟩))
theorem contact_clip.ok (k : Nat) : FnOk PR 145 (contact_clip.sp k) :=
  fn_ok (contact_clip.cok k) hmix Try.func145 (code := contact_clip.code) (by kernel_rfl) (by kernel_rfl) (by kernel_rfl) rfl (by kernel_rfl) (by kernel_rfl) (by kernel_rfl) (fun x => Nat.le_of_ble_eq_true (by kernel_rfl)) fun x y hy => (contact_clip.way k x.1 x.2.1 x.2.2.1 x.2.2.2.1).ap hy

/-! tourney/contact.Of$1 -/
noncomputable def contact_Of_1.code : Code := Func.cd Try.f142
def contact_Of_1 (k : Nat) (a0 : V22) (a1 : V22) (a2 : V22) : Option (Int × Bool) :=
  bnd (contact_minus k a1 a0) fun y1 =>
  bnd (contact_dot k y1 a2) fun y3 =>
  bnd (poly_Times k y3 1) fun y5 =>
  bnd (sat_Length k a2) fun y7 =>
  bnd (poly_Wide_Over k y5 y7) fun y9 =>
  some (y9.1, (ige y3 0))
noncomputable def contact_Of_1.sp (k : Nat) : Go.Sx.Spec := ⟨(.pair T22 (.pair (.ref T22) (.pair (.ref T22) .unit))), (.more (.dp T2) (.one (.dp T4))), fun x => contact_Of_1 k x.1 x.2.1 x.2.2.1, false⟩
noncomputable def contact_Of_1.cx (k : Nat) : Go.Sx.Ctx := ⟨tys, [(144, contact_minus.sp k), (143, contact_dot.sp k), (96, poly_Times.sp k), (27, sat_Length.sp k), (97, poly_Wide_Over.sp k)], eqs, 25, false⟩
theorem contact_Of_1.cok (k : Nat) : CtxOk PR (contact_Of_1.cx k) := ctx_ok tysOk eqsOk (FnsOk.cons (contact_minus.ok k) (FnsOk.cons (contact_dot.ok k) (FnsOk.cons (poly_Times.ok k) (FnsOk.cons (sat_Length.ok k) (FnsOk.cons (poly_Wide_Over.ok k) FnsOk.nil)))))
theorem contact_Of_1.way (k : Nat) (a0 : V22) (a1 : V22) (a2 : V22) : Owp (contact_Of_1 k a0 a1 a2) fun y => ∃ answers cmds, exec PR (contact_Of_1.cx k) contact_Of_1.code 0 (entry (.pair T22 (.pair (.ref T22) (.pair (.ref T22) .unit))) (a0, a1, a2, ())).st answers (Ret (contact_Of_1.cx k) Try.f142 cmds (.more (.dp T2) (.one (.dp T4))) y) := by
  unfold contact_Of_1; exact
   Owp.bnd fun y1 e2 =>
   Owp.bnd fun y3 e4 =>
   Owp.bnd fun y5 e6 =>
   Owp.bnd fun y7 e8 =>
   Owp.bnd fun y9 e10 =>
   Owp.some (⟨[.res (.one (.dp T22)) y1, .res (.one (.dp T2)) y3, .res (.one (.dp T90)) y5, .res (.one (.dp T2)) y7, .res (.more (.dp T2) (.one (.dp T2))) y9], [], via (retP (And.intro (And.intro (And.intro (And.intro (And.intro trivial e2) e4) e6) e8) e10) (.more (.dp T2) (.one (.dp T4))) ((y9.1, (ige y3 (0 : Int))) : (Int × Bool))) (by kernel_rfl)⟩)
theorem contact_Of_1.ok (k : Nat) : FnOk PR 142 (contact_Of_1.sp k) :=
  fn_ok (contact_Of_1.cok k) hmix Try.func142 (code := contact_Of_1.code) (by kernel_rfl) (by kernel_rfl) (by kernel_rfl) rfl (by kernel_rfl) (by kernel_rfl) (by kernel_rfl) (fun x => Nat.le_of_ble_eq_true (by kernel_rfl)) fun x y hy => (contact_Of_1.way k x.1 x.2.1 x.2.2.1).ap hy

/-! tourney/contact.Of -/
noncomputable def contact_Of.code : Code := Func.cd Try.f68
def contact_Of.c1 (k : Nat) (y1 : ((Bool × V22) × (Bool × Int))) : Option (Bool) :=
  bif' (ine y1.2.2 0)
  (some true)
  (some (!y1.2.1))
def contact_Of.c2 (k : Nat) (a0 : (List V22)) (a1 : (List V22)) (y1 : ((Bool × V22) × (Bool × Int))) : Option (((List V22) × ((List V22) × Int))) :=
  bif' y1.1.1
  (some (a1, a0, (iadd .i64 8 y1.1.2.1)))
  (some (a0, a1, y1.1.2.1))
def contact_Of.c3 (k : Nat) (o10 : ((List V22) × ((List V22) × Int))) (y1 : ((Bool × V22) × (Bool × Int))) (y24 : (V22 × (V22 × Bool))) : Option ((Bool × (V22 × V22))) :=
  bif' y24.2.2
  (bnd (contact_minus k (el Z22 o10.1 y1.1.2.1) (el Z22 o10.1 (irem (iadd .i64 y1.1.2.1 1) (len o10.1)))) fun y27 =>
   bnd (contact_clip k y24.1 y24.2.1 (el Z22 o10.1 (irem (iadd .i64 y1.1.2.1 1) (len o10.1))) y27) fun y29 =>
   some (y29.2.2, y29.1, y29.2.1))
  (some (y24.2.2, y24.1, y24.2.1))
def contact_Of.c5 (k : Nat) (o31 : (Bool × (V22 × V22))) (v33 : Int) (y37 : (Int × Bool)) : Option (Bool) :=
  bif' o31.1
  (bif' y37.2
   (bif' (ieq v33 0)
    (some true)
    (some (!(Ty.eqb T22 o31.2.2 o31.2.1))))
   (some false))
  (some false)
def contact_Of.c4 (k : Nat) (o10 : ((List V22) × ((List V22) × Int))) (o31 : (Bool × (V22 × V22))) (y1 : ((Bool × V22) × (Bool × Int))) (y7 : (Bool × (Int × V22))) (y12 : V22) (y17 : Int) : Nat → Int → (List (V22 × (V22 × V22))) → Option ((List (V22 × (V22 × V22))))
  | 0, _, _ => none
  | n + 1, v33, v34 =>
   bif' (ilt v33 (len [o31.2.1, o31.2.2]))
   (req (inL v33 [o31.2.1, o31.2.2]) <|
    bnd (contact_Of_1 k (el Z22 [o31.2.1, o31.2.2] v33) (el Z22 o10.1 y1.1.2.1) y12) fun y37 =>
    bnd (contact_Of.c5 k o31 v33 y37) fun o42 =>
    bif' o42
    (req (room 48 v34 [((el Z22 [o31.2.1, o31.2.2] v33), y7.2.2, y37.1, (iadd .i64 (imul .i64 (iadd .i64 (imul .i64 o10.2.2 8) y17) 2) v33), ())]) <|
     contact_Of.c4 k o10 o31 y1 y7 y12 y17 n (iadd .i64 v33 1) (v34 ++ [((el Z22 [o31.2.1, o31.2.2] v33), y7.2.2, y37.1, (iadd .i64 (imul .i64 (iadd .i64 (imul .i64 o10.2.2 8) y17) 2) v33), ())]))
    (contact_Of.c4 k o10 o31 y1 y7 y12 y17 n (iadd .i64 v33 1) v34))
   (some v34)
def contact_Of (k : Nat) (a0 : (List V22)) (a1 : (List V22)) : Option (List (V22 × (V22 × V22))) :=
  bnd (sat_Least k a0 a1) fun y1 =>
  bnd (contact_Of.c1 k y1) fun o4 =>
  bif' o4
  (some [])
  (bnd (sat_Test k a0 a1) fun y7 =>
   bnd (contact_Of.c2 k a0 a1 y1) fun o10 =>
   bnd (sat_Normal k o10.1 y1.1.2.1) fun y12 =>
   req (inL y1.1.2.1 o10.1) <|
   req (nz (len o10.1)) <|
   req (inL (irem (iadd .i64 y1.1.2.1 1) (len o10.1)) o10.1) <|
   bnd (contact_facing k o10.2.1 y12) fun y17 =>
   req (inL y17 o10.2.1) <|
   req (nz (len o10.2.1)) <|
   req (inL (irem (iadd .i64 y17 1) (len o10.2.1)) o10.2.1) <|
   bnd (contact_minus k (el Z22 o10.1 (irem (iadd .i64 y1.1.2.1 1) (len o10.1))) (el Z22 o10.1 y1.1.2.1)) fun y22 =>
   bnd (contact_clip k (el Z22 o10.2.1 y17) (el Z22 o10.2.1 (irem (iadd .i64 y17 1) (len o10.2.1))) (el Z22 o10.1 y1.1.2.1) y22) fun y24 =>
   bnd (contact_Of.c3 k o10 y1 y24) fun o31 =>
   bnd (contact_Of.c4 k o10 o31 y1 y7 y12 y17 k 0 []) fun o46 =>
   bif' (ieq (len o46) 0)
   (bnd (poly_Support k o10.2.1 ((ineg .i64 y12.1), (ineg .i64 y12.2.1), ())) fun y49 =>
    req (inL y49 o10.2.1) <|
    bnd (contact_Of_1 k (el Z22 o10.2.1 y49) (el Z22 o10.1 y1.1.2.1) y12) fun y52 =>
    req (room 48 o46 [((el Z22 o10.2.1 y49), y7.2.2, y52.1, (imul .i64 (iadd .i64 (imul .i64 o10.2.2 8) y17) 2), ())]) <|
    some (o46 ++ [((el Z22 o10.2.1 y49), y7.2.2, y52.1, (imul .i64 (iadd .i64 (imul .i64 o10.2.2 8) y17) 2), ())]))
   (some o46))
noncomputable def contact_Of.sp (k : Nat) : Go.Sx.Spec := ⟨(.pair T24 (.pair T24 .unit)), (.one (.ow (.pair T22 (.pair T22 T22)) 98)), fun x => contact_Of k x.1 x.2.1, false⟩
noncomputable def contact_Of.cx (k : Nat) : Go.Sx.Ctx := ⟨tys, [(24, sat_Least.sp k), (25, sat_Test.sp k), (31, sat_Normal.sp k), (141, contact_facing.sp k), (144, contact_minus.sp k), (145, contact_clip.sp k), (142, contact_Of_1.sp k), (146, poly_Support.sp k)], eqs, 190, false⟩
theorem contact_Of.cok (k : Nat) : CtxOk PR (contact_Of.cx k) := ctx_ok tysOk eqsOk (FnsOk.cons (sat_Least.ok k) (FnsOk.cons (sat_Test.ok k) (FnsOk.cons (sat_Normal.ok k) (FnsOk.cons (contact_facing.ok k) (FnsOk.cons (contact_minus.ok k) (FnsOk.cons (contact_clip.ok k) (FnsOk.cons (contact_Of_1.ok k) (FnsOk.cons (poly_Support.ok k) FnsOk.nil))))))))
noncomputable def contact_Of.c1p (a0 : (List V22)) (a1 : (List V22)) (y1 : ((Bool × V22) × (Bool × Int))) : SL := ⟨[(0, (.val T24 a0)), (1, (.val T24 a1)), (5, (.val .ptr ⟨0, 0, (0 : Int), 0, 0⟩)), (6, (.val T4 y1.2.1)), (7, (.val T2 y1.2.2))], [(0, .cells (.pair T4 T22) y1.1)]⟩
noncomputable def contact_Of.c1q (a0 : (List V22)) (a1 : (List V22)) (y1 : ((Bool × V22) × (Bool × Int))) (o : Bool) : SL := (fun v => ⟨[(0, (.val T24 a0)), (1, (.val T24 a1)), (5, (.val .ptr ⟨0, 0, (0 : Int), 0, 0⟩)), (42, (.val T4 v))], [(0, .cells (.pair T4 T22) y1.1)]⟩) o
noncomputable def contact_Of.c1x (o : Bool) : Ex := (fun _ => .normal) o
noncomputable def contact_Of.c1n (o : Bool) : Nat := (fun _ => 1) o
theorem contact_Of.c1_ok (k : Nat) (a0 : (List V22)) (a1 : (List V22)) (y1 : ((Bool × V22) × (Bool × Int))) : Owp (contact_Of.c1 k y1) fun o => Triple PR (contact_Of.cx k) (sub contact_Of.code [1, 1, 0, 0]) 1 (contact_Of.c1p a0 a1 y1) (contact_Of.c1x o) (contact_Of.c1n o) (contact_Of.c1q a0 a1 y1 o) := by
  unfold contact_Of.c1; exact
   Owp.bif (fun e3 =>
   Owp.some (triple_way (contact_Of.cok k) hmix [.dec true, .dec true, .dec true] [] [(0, 0)] (via (finP (And.intro (And.intro (And.intro trivial e3) e3) e3) .normal [(0, 0)] (contact_Of.c1q a0 a1 y1 true)) (by kernel_rfl)))) (fun e3 =>
   Owp.some (triple_way (contact_Of.cok k) hmix [.dec false, .dec false, .dec false] [] [(0, 0)] (via (finP (And.intro (And.intro (And.intro trivial e3) e3) e3) .normal [(0, 0)] (contact_Of.c1q a0 a1 y1 (!y1.2.1))) (by kernel_rfl))))
noncomputable def contact_Of.c2p (a0 : (List V22)) (a1 : (List V22)) (y1 : ((Bool × V22) × (Bool × Int))) (y7 : (Bool × (Int × V22))) : SL := ⟨[(0, (.val T24 a0)), (1, (.val T24 a1)), (5, (.val .ptr ⟨0, 0, (0 : Int), 0, 0⟩)), (10, (.val .ptr ⟨1, 0, (0 : Int), 0, 0⟩)), (11, (.val T24 a0)), (12, (.val T24 a1)), (13, (.val T2 y1.1.2.1)), (55, (.val T4 y1.1.1))], [(0, .cells (.pair T4 T22) y1.1), (1, .cells T22 y7.2.2)]⟩
noncomputable def contact_Of.c2q (y1 : ((Bool × V22) × (Bool × Int))) (y7 : (Bool × (Int × V22))) (o : ((List V22) × ((List V22) × Int))) : SL := (fun v => ⟨[(5, (.val .ptr ⟨0, 0, (0 : Int), 0, 0⟩)), (10, (.val .ptr ⟨1, 0, (0 : Int), 0, 0⟩)), (11, (.val T24 v.1)), (12, (.val T24 v.2.1)), (13, (.val T2 v.2.2))], [(0, .cells (.pair T4 T22) y1.1), (1, .cells T22 y7.2.2)]⟩) o
noncomputable def contact_Of.c2x (o : ((List V22) × ((List V22) × Int))) : Ex := (fun _ => .normal) o
noncomputable def contact_Of.c2n (o : ((List V22) × ((List V22) × Int))) : Nat := (fun _ => 2) o
theorem contact_Of.c2_ok (k : Nat) (a0 : (List V22)) (a1 : (List V22)) (y1 : ((Bool × V22) × (Bool × Int))) (y7 : (Bool × (Int × V22))) : Owp (contact_Of.c2 k a0 a1 y1) fun o => Triple PR (contact_Of.cx k) (sub contact_Of.code [1, 1, 1, 1, 1, 0, 1]) 2 (contact_Of.c2p a0 a1 y1 y7) (contact_Of.c2x o) (contact_Of.c2n o) (contact_Of.c2q y1 y7 o) := by
  unfold contact_Of.c2; exact
   Owp.bif (fun e9 =>
   Owp.some (triple_way (contact_Of.cok k) hmix [.dec true] [] [(0, 0), (1, 1)] (via (finP (And.intro trivial e9) .normal [(0, 0), (1, 1)] (contact_Of.c2q y1 y7 (a1, a0, (iadd .i64 (8 : Int) y1.1.2.1)))) (by kernel_rfl)))) (fun e9 =>
   Owp.some (triple_way (contact_Of.cok k) hmix [.dec false] [] [(0, 0), (1, 1)] (via (finP (And.intro trivial e9) .normal [(0, 0), (1, 1)] (contact_Of.c2q y1 y7 (a0, a1, y1.1.2.1))) (by kernel_rfl))))
noncomputable def contact_Of.c3p (o10 : ((List V22) × ((List V22) × Int))) (y1 : ((Bool × V22) × (Bool × Int))) (y7 : (Bool × (Int × V22))) (y12 : V22) (y17 : Int) (y24 : (V22 × (V22 × Bool))) : SL := ⟨[(10, (.val .ptr ⟨0, 0, (0 : Int), 0, 0⟩)), (12, (.val T24 o10.2.1)), (13, (.val T2 (imul .i64 (iadd .i64 (imul .i64 o10.2.2 (8 : Int)) y17) (2 : Int)))), (14, (.val .ptr ⟨1, 0, (0 : Int), 0, 0⟩)), (15, (.val .ptr ⟨2, 0, (0 : Int), 0, 0⟩)), (16, (.val .ptr ⟨3, 0, (0 : Int), 0, 0⟩)), (18, (.val .clo (142, [⟨2, 0, (0 : Int), 0, 0⟩, ⟨1, 0, (0 : Int), 0, 0⟩]))), (19, (.val .ptr ⟨4, 0, (0 : Int), 0, 0⟩)), (20, (.val .ptr ⟨5, 0, (0 : Int), 0, 0⟩)), (21, (.val T4 y24.2.2)), (109, (.val T4 y24.2.2))], [(0, .cells T22 y7.2.2), (1, .cells T22 y12), (2, .cells T22 (el Z22 o10.1 y1.1.2.1)), (3, .cells T22 (el Z22 o10.1 (irem (iadd .i64 y1.1.2.1 (1 : Int)) (len o10.1)))), (4, .cells T22 y24.1), (5, .cells T22 y24.2.1)]⟩
noncomputable def contact_Of.c3q (o10 : ((List V22) × ((List V22) × Int))) (y1 : ((Bool × V22) × (Bool × Int))) (y7 : (Bool × (Int × V22))) (y12 : V22) (y17 : Int) (o : (Bool × (V22 × V22))) : SL := (fun v => ⟨[(10, (.val .ptr ⟨0, 0, (0 : Int), 0, 0⟩)), (12, (.val T24 o10.2.1)), (13, (.val T2 (imul .i64 (iadd .i64 (imul .i64 o10.2.2 (8 : Int)) y17) (2 : Int)))), (14, (.val .ptr ⟨1, 0, (0 : Int), 0, 0⟩)), (18, (.val .clo (142, [⟨2, 0, (0 : Int), 0, 0⟩, ⟨1, 0, (0 : Int), 0, 0⟩]))), (19, (.val .ptr ⟨3, 0, (0 : Int), 0, 0⟩)), (20, (.val .ptr ⟨4, 0, (0 : Int), 0, 0⟩)), (21, (.val T4 v.1))], [(0, .cells T22 y7.2.2), (1, .cells T22 y12), (2, .cells T22 (el Z22 o10.1 y1.1.2.1)), (3, .cells T22 v.2.1), (4, .cells T22 v.2.2)]⟩) o
noncomputable def contact_Of.c3x (o : (Bool × (V22 × V22))) : Ex := (fun _ => .normal) o
noncomputable def contact_Of.c3n (o : (Bool × (V22 × V22))) : Nat := (fun _ => 5) o
theorem contact_Of.c3_ok (k : Nat) (o10 : ((List V22) × ((List V22) × Int))) (y1 : ((Bool × V22) × (Bool × Int))) (y7 : (Bool × (Int × V22))) (y12 : V22) (y17 : Int) (y24 : (V22 × (V22 × Bool))) : Owp (contact_Of.c3 k o10 y1 y24) fun o => Triple PR (contact_Of.cx k) (sub contact_Of.code [1, 1, 1, 1, 1, 1, 1, 1, 1, 1, 1, 1, 0, 1]) 6 (contact_Of.c3p o10 y1 y7 y12 y17 y24) (contact_Of.c3x o) (contact_Of.c3n o) (contact_Of.c3q o10 y1 y7 y12 y17 o) := by
  unfold contact_Of.c3; exact
   Owp.bif (fun e26 =>
   Owp.bnd fun y27 e28 =>
    Owp.bnd fun y29 e30 =>
    Owp.some (triple_way (contact_Of.cok k) hmix [.dec true, .res (.one (.dp T22)) y27, .res (.more (.dp T22) (.more (.dp T22) (.one (.dp T4)))) y29] [] [(0, 0), (1, 1), (2, 2), (3, 4), (4, 5)] (via (finP (And.intro (And.intro (And.intro trivial e26) e28) e30) .normal [(0, 0), (1, 1), (2, 2), (3, 4), (4, 5)] (contact_Of.c3q o10 y1 y7 y12 y17 (y29.2.2, y29.1, y29.2.1))) (by kernel_rfl)))) (fun e26 =>
   Owp.some (triple_way (contact_Of.cok k) hmix [.dec false] [] [(0, 0), (1, 1), (2, 2), (3, 4), (4, 5)] (via (finP (And.intro trivial e26) .normal [(0, 0), (1, 1), (2, 2), (3, 4), (4, 5)] (contact_Of.c3q o10 y1 y7 y12 y17 (y24.2.2, y24.1, y24.2.1))) (by kernel_rfl))))
noncomputable def contact_Of.c5p (o10 : ((List V22) × ((List V22) × Int))) (o31 : (Bool × (V22 × V22))) (v33 : Int) (v34 : (List (V22 × (V22 × V22)))) (y1 : ((Bool × V22) × (Bool × Int))) (y7 : (Bool × (Int × V22))) (y12 : V22) (y17 : Int) (y37 : (Int × Bool)) : SL := ⟨[(10, (.val .ptr ⟨0, 0, (0 : Int), 0, 0⟩)), (12, (.val T24 o10.2.1)), (13, (.val T2 (imul .i64 (iadd .i64 (imul .i64 o10.2.2 (8 : Int)) y17) (2 : Int)))), (14, (.val .ptr ⟨1, 0, (0 : Int), 0, 0⟩)), (18, (.val .clo (142, [⟨2, 0, (0 : Int), 0, 0⟩, ⟨1, 0, (0 : Int), 0, 0⟩]))), (19, (.val .ptr ⟨3, 0, (0 : Int), 0, 0⟩)), (20, (.val .ptr ⟨4, 0, (0 : Int), 0, 0⟩)), (21, (.val T4 o31.1)), (22, (.val .own (5 : Nat))), (23, (.val T2 v33)), (24, (.val .ptr ⟨6, 0, (0 : Int), 0, 0⟩)), (25, (.val T2 y37.1)), (26, (.val T4 y37.2)), (123, (.val .own (7 : Nat))), (124, (.val T2 (len [o31.2.1, o31.2.2]))), (125, (.val T2 v33))], [(0, .cells T22 y7.2.2), (1, .cells T22 y12), (2, .cells T22 (el Z22 o10.1 y1.1.2.1)), (3, .cells T22 o31.2.1), (4, .cells T22 o31.2.2), (5, .row (.pair T22 (.pair T22 T22)) v34 98), (6, .cells T22 (el Z22 [o31.2.1, o31.2.2] v33)), (7, .row T22 [o31.2.1, o31.2.2] 23)]⟩
noncomputable def contact_Of.c5q (o10 : ((List V22) × ((List V22) × Int))) (o31 : (Bool × (V22 × V22))) (v33 : Int) (v34 : (List (V22 × (V22 × V22)))) (y1 : ((Bool × V22) × (Bool × Int))) (y7 : (Bool × (Int × V22))) (y12 : V22) (y17 : Int) (y37 : (Int × Bool)) (o : Bool) : SL := (fun v => ⟨[(10, (.val .ptr ⟨0, 0, (0 : Int), 0, 0⟩)), (12, (.val T24 o10.2.1)), (13, (.val T2 (imul .i64 (iadd .i64 (imul .i64 o10.2.2 (8 : Int)) y17) (2 : Int)))), (14, (.val .ptr ⟨1, 0, (0 : Int), 0, 0⟩)), (18, (.val .clo (142, [⟨2, 0, (0 : Int), 0, 0⟩, ⟨1, 0, (0 : Int), 0, 0⟩]))), (19, (.val .ptr ⟨3, 0, (0 : Int), 0, 0⟩)), (20, (.val .ptr ⟨4, 0, (0 : Int), 0, 0⟩)), (21, (.val T4 o31.1)), (22, (.val .own (5 : Nat))), (23, (.val T2 v33)), (24, (.val .ptr ⟨6, 0, (0 : Int), 0, 0⟩)), (25, (.val T2 y37.1)), (123, (.val .own (7 : Nat))), (124, (.val T2 (len [o31.2.1, o31.2.2]))), (125, (.val T2 v33)), (148, (.val T4 v))], [(0, .cells T22 y7.2.2), (1, .cells T22 y12), (2, .cells T22 (el Z22 o10.1 y1.1.2.1)), (3, .cells T22 o31.2.1), (4, .cells T22 o31.2.2), (5, .row (.pair T22 (.pair T22 T22)) v34 98), (6, .cells T22 (el Z22 [o31.2.1, o31.2.2] v33)), (7, .row T22 [o31.2.1, o31.2.2] 23)]⟩) o
noncomputable def contact_Of.c5x (o : Bool) : Ex := (fun _ => .normal) o
noncomputable def contact_Of.c5n (o : Bool) : Nat := (fun _ => 8) o
theorem contact_Of.c5_ok (k : Nat) (o10 : ((List V22) × ((List V22) × Int))) (o31 : (Bool × (V22 × V22))) (v33 : Int) (v34 : (List (V22 × (V22 × V22)))) (y1 : ((Bool × V22) × (Bool × Int))) (y7 : (Bool × (Int × V22))) (y12 : V22) (y17 : Int) (y37 : (Int × Bool)) : Owp (contact_Of.c5 k o31 v33 y37) fun o => Triple PR (contact_Of.cx k) (sub contact_Of.code [1, 1, 1, 1, 1, 1, 1, 1, 1, 1, 1, 1, 1, 1, 0, 1, 0, 0, 1, 1, 0, 0, 1, 1, 0]) 8 (contact_Of.c5p o10 o31 v33 v34 y1 y7 y12 y17 y37) (contact_Of.c5x o) (contact_Of.c5n o) (contact_Of.c5q o10 o31 v33 v34 y1 y7 y12 y17 y37 o) := by
  unfold contact_Of.c5; exact
   Owp.bif (fun e39 =>
   Owp.bif (fun e40 =>
    Owp.bif (fun e41 =>
     Owp.some (triple_way (contact_Of.cok k) hmix [.dec true, .dec true, .dec true, .dec true, .dec true, .dec true, .dec true, .dec true, .dec true, .dec true, .dec true] [] [(0, 0), (1, 1), (2, 2), (3, 3), (4, 4), (5, 5), (6, 6), (7, 7)] (via (finP (And.intro (And.intro (And.intro (And.intro (And.intro (And.intro (And.intro (And.intro (And.intro (And.intro trivial e39) e39) e40) e40) e40) e41) e41) e41) (And.intro e40 e41)) e40) .normal [(0, 0), (1, 1), (2, 2), (3, 3), (4, 4), (5, 5), (6, 6), (7, 7)] (contact_Of.c5q o10 o31 v33 v34 y1 y7 y12 y17 y37 true)) (by kernel_rfl)))) (fun e41 =>
     Owp.some (triple_way (contact_Of.cok k) hmix [.dec true, .dec true, .dec true, .dec true, .dec true, .dec false, .dec false, .dec false, .dec true, .dec false, .dec true] [] [(0, 0), (1, 1), (2, 2), (3, 3), (4, 4), (5, 5), (6, 6), (7, 7)] (via (finP (And.intro (And.intro (And.intro (And.intro (And.intro (And.intro (And.intro (And.intro (And.intro (And.intro trivial e39) e39) e40) e40) e40) e41) e41) e41) (And.intro e40 e41)) e40) .normal [(0, 0), (1, 1), (2, 2), (3, 3), (4, 4), (5, 5), (6, 6), (7, 7)] (contact_Of.c5q o10 o31 v33 v34 y1 y7 y12 y17 y37 (!(Ty.eqb T22 o31.2.2 o31.2.1)))) (by kernel_rfl))))) (fun e40 =>
    Owp.some (triple_way (contact_Of.cok k) hmix [.dec true, .dec true, .dec false, .dec false, .dec false, .dec true, .dec true, .dec true, .dec false, .dec true, .dec false] [] [(0, 0), (1, 1), (2, 2), (3, 3), (4, 4), (5, 5), (6, 6), (7, 7)] (via (finP (And.intro (And.intro (And.intro (And.intro (And.intro (And.intro (And.intro trivial e39) e39) e40) e40) e40) e40) e40) .normal [(0, 0), (1, 1), (2, 2), (3, 3), (4, 4), (5, 5), (6, 6), (7, 7)] (contact_Of.c5q o10 o31 v33 v34 y1 y7 y12 y17 y37 false)) (by kernel_rfl))))) (fun e39 =>
   Owp.some (triple_way (contact_Of.cok k) hmix [.dec false, .dec false, .dec false, .dec false, .dec false, .dec true, .dec true, .dec true, .dec false, .dec true, .dec false] [] [(0, 0), (1, 1), (2, 2), (3, 3), (4, 4), (5, 5), (6, 6), (7, 7)] (via (finP (And.intro (And.intro (And.intro (And.intro (And.intro (And.intro (And.intro trivial e39) e39) ff) ff) ff) ff) ff) .normal [(0, 0), (1, 1), (2, 2), (3, 3), (4, 4), (5, 5), (6, 6), (7, 7)] (contact_Of.c5q o10 o31 v33 v34 y1 y7 y12 y17 y37 false)) (by kernel_rfl))))
noncomputable def contact_Of.c4p (o10 : ((List V22) × ((List V22) × Int))) (o31 : (Bool × (V22 × V22))) (y1 : ((Bool × V22) × (Bool × Int))) (y7 : (Bool × (Int × V22))) (y12 : V22) (y17 : Int) (v33 : Int) (v34 : (List (V22 × (V22 × V22)))) : SL := ⟨[(10, (.val .ptr ⟨0, 0, (0 : Int), 0, 0⟩)), (12, (.val T24 o10.2.1)), (13, (.val T2 (imul .i64 (iadd .i64 (imul .i64 o10.2.2 (8 : Int)) y17) (2 : Int)))), (14, (.val .ptr ⟨1, 0, (0 : Int), 0, 0⟩)), (18, (.val .clo (142, [⟨2, 0, (0 : Int), 0, 0⟩, ⟨1, 0, (0 : Int), 0, 0⟩]))), (19, (.val .ptr ⟨3, 0, (0 : Int), 0, 0⟩)), (20, (.val .ptr ⟨4, 0, (0 : Int), 0, 0⟩)), (21, (.val T4 o31.1)), (22, (.val .own (5 : Nat))), (123, (.val .own (6 : Nat))), (124, (.val T2 (len [o31.2.1, o31.2.2]))), (125, (.val T2 v33))], [(0, .cells T22 y7.2.2), (1, .cells T22 y12), (2, .cells T22 (el Z22 o10.1 y1.1.2.1)), (3, .cells T22 o31.2.1), (4, .cells T22 o31.2.2), (5, .row (.pair T22 (.pair T22 T22)) v34 98), (6, .row T22 [o31.2.1, o31.2.2] 23)]⟩
noncomputable def contact_Of.c4q (o10 : ((List V22) × ((List V22) × Int))) (y1 : ((Bool × V22) × (Bool × Int))) (y7 : (Bool × (Int × V22))) (y12 : V22) (y17 : Int) (o : (List (V22 × (V22 × V22)))) : SL := (fun v => ⟨[(10, (.val .ptr ⟨0, 0, (0 : Int), 0, 0⟩)), (12, (.val T24 o10.2.1)), (13, (.val T2 (imul .i64 (iadd .i64 (imul .i64 o10.2.2 (8 : Int)) y17) (2 : Int)))), (14, (.val .ptr ⟨1, 0, (0 : Int), 0, 0⟩)), (18, (.val .clo (142, [⟨2, 0, (0 : Int), 0, 0⟩, ⟨1, 0, (0 : Int), 0, 0⟩]))), (22, (.val .own (3 : Nat)))], [(0, .cells T22 y7.2.2), (1, .cells T22 y12), (2, .cells T22 (el Z22 o10.1 y1.1.2.1)), (3, .row (.pair T22 (.pair T22 T22)) v 98)]⟩) o
noncomputable def contact_Of.c4x (o : (List (V22 × (V22 × V22)))) : Ex := (fun _ => (.exit 0)) o
noncomputable def contact_Of.c4n (o : (List (V22 × (V22 × V22)))) : Nat := (fun _ => 4) o
theorem contact_Of.c4_ok (k : Nat) (o10 : ((List V22) × ((List V22) × Int))) (o31 : (Bool × (V22 × V22))) (y1 : ((Bool × V22) × (Bool × Int))) (y7 : (Bool × (Int × V22))) (y12 : V22) (y17 : Int) : ∀ (n : Nat) (v33 : Int) (v34 : (List (V22 × (V22 × V22)))), Owp (contact_Of.c4 k o10 o31 y1 y7 y12 y17 n v33 v34) fun o => LTriple PR (contact_Of.cx k) (sub contact_Of.code [1, 1, 1, 1, 1, 1, 1, 1, 1, 1, 1, 1, 1, 1, 0, 1, 0, 0]) 7 (contact_Of.c4p o10 o31 y1 y7 y12 y17 v33 v34) (contact_Of.c4x o) (contact_Of.c4n o) (contact_Of.c4q o10 y1 y7 y12 y17 o)
  | 0, _, _ => fun _ h => nomatch h
  | n + 1, v33, v34 => Owp.of (contact_Of.c4.eq_2 ..) (
   Owp.bif (fun e35 =>
   Owp.req fun h36 =>
    Owp.bnd fun y37 e38 =>
    Owp.bnd fun o42 e43 =>
    Owp.bif (fun e44 =>
    Owp.req fun h45 =>
     fun y hy => loop_back (contact_Of.cok k) hmix 7 (contact_Of.c4p o10 o31 y1 y7 y12 y17 (iadd .i64 v33 (1 : Int)) (v34 ++ [((el Z22 [o31.2.1, o31.2.2] v33), y7.2.2, y37.1, (iadd .i64 (imul .i64 (iadd .i64 (imul .i64 o10.2.2 (8 : Int)) y17) (2 : Int)) v33), ())])) [.dec true, .res (.more (.dp T2) (.one (.dp T4))) y37, .cutR 21 ⟨[], [(0, 0), (1, 1), (2, 2), (3, 3), (4, 4), (5, 5), (6, 11), (7, 6)], (contact_Of.c5p o10 o31 v33 v34 y1 y7 y12 y17 y37), 8, .normal, (contact_Of.c5q o10 o31 v33 v34 y1 y7 y12 y17 y37 o42), 8⟩, .dec true, .dec true] [] [(0, 0), (1, 1), (2, 2), (3, 3), (4, 4), (5, 17), (6, 7)] (via (cutP (And.intro (And.intro (And.intro (And.intro trivial e35) h36) h36) e38) [(0, 0), (1, 1), (2, 2), (3, 3), (4, 4), (5, 5), (6, 11), (7, 6)] (contact_Of.c5p o10 o31 v33 v34 y1 y7 y12 y17 y37) (((contact_Of.c5_ok k o10 o31 v33 v34 y1 y7 y12 y17 y37).ap e43)) (finP (And.intro (And.intro trivial e44) h45) .normal [(0, 0), (1, 1), (2, 2), (3, 3), (4, 4), (5, 17), (6, 7)] (contact_Of.c4p o10 o31 y1 y7 y12 y17 (iadd .i64 v33 (1 : Int)) (v34 ++ [((el Z22 [o31.2.1, o31.2.2] v33), y7.2.2, y37.1, (iadd .i64 (imul .i64 (iadd .i64 (imul .i64 o10.2.2 (8 : Int)) y17) (2 : Int)) v33), ())])))) (by kernel_rfl)) ((contact_Of.c4_ok k o10 o31 y1 y7 y12 y17 n (iadd .i64 v33 (1 : Int)) (v34 ++ [((el Z22 [o31.2.1, o31.2.2] v33), y7.2.2, y37.1, (iadd .i64 (imul .i64 (iadd .i64 (imul .i64 o10.2.2 (8 : Int)) y17) (2 : Int)) v33), ())])).ap hy)) (fun e44 =>
    fun y hy => loop_back (contact_Of.cok k) hmix 7 (contact_Of.c4p o10 o31 y1 y7 y12 y17 (iadd .i64 v33 (1 : Int)) v34) [.dec true, .res (.more (.dp T2) (.one (.dp T4))) y37, .cutR 21 ⟨[], [(0, 0), (1, 1), (2, 2), (3, 3), (4, 4), (5, 5), (6, 11), (7, 6)], (contact_Of.c5p o10 o31 v33 v34 y1 y7 y12 y17 y37), 8, .normal, (contact_Of.c5q o10 o31 v33 v34 y1 y7 y12 y17 y37 o42), 8⟩, .dec false] [] [(0, 0), (1, 1), (2, 2), (3, 3), (4, 4), (5, 5), (6, 7)] (via (cutP (And.intro (And.intro (And.intro (And.intro trivial e35) h36) h36) e38) [(0, 0), (1, 1), (2, 2), (3, 3), (4, 4), (5, 5), (6, 11), (7, 6)] (contact_Of.c5p o10 o31 v33 v34 y1 y7 y12 y17 y37) (((contact_Of.c5_ok k o10 o31 v33 v34 y1 y7 y12 y17 y37).ap e43)) (finP (And.intro trivial e44) .normal [(0, 0), (1, 1), (2, 2), (3, 3), (4, 4), (5, 5), (6, 7)] (contact_Of.c4p o10 o31 y1 y7 y12 y17 (iadd .i64 v33 (1 : Int)) v34))) (by kernel_rfl)) ((contact_Of.c4_ok k o10 o31 y1 y7 y12 y17 n (iadd .i64 v33 (1 : Int)) v34).ap hy))) (fun e35 =>
   Owp.some (loop_exit (contact_Of.cok k) hmix [.dec false] [] [(0, 0), (1, 1), (2, 2), (3, 5)] (exne 0) (via (finP (And.intro trivial e35) (.exit 0) [(0, 0), (1, 1), (2, 2), (3, 5)] (contact_Of.c4q o10 y1 y7 y12 y17 v34)) (by kernel_rfl)))))
theorem contact_Of.way (k : Nat) (a0 : (List V22)) (a1 : (List V22)) : Owp (contact_Of k a0 a1) fun y => ∃ answers cmds, exec PR (contact_Of.cx k) contact_Of.code 0 (entry (.pair T24 (.pair T24 .unit)) (a0, a1, ())).st answers (Ret (contact_Of.cx k) Try.f68 cmds (.one (.ow (.pair T22 (.pair T22 T22)) 98)) y) := by
  unfold contact_Of; exact
   Owp.bnd fun y1 e2 =>
   Owp.bnd fun o4 e5 =>
   Owp.bif (fun e6 =>
   Owp.some (⟨[.res (.more (.dp (.pair T4 T22)) (.more (.dp T4) (.one (.dp T2)))) y1, .cutR 2 ⟨[], [(0, 8)], (contact_Of.c1p a0 a1 y1), 1, .normal, (contact_Of.c1q a0 a1 y1 o4), 1⟩, .dec true], [.own 4 (.pair T22 (.pair T22 T22)) 98], via (cutP (And.intro trivial e2) [(0, 8)] (contact_Of.c1p a0 a1 y1) (((contact_Of.c1_ok k a0 a1 y1).ap e5)) (retP (And.intro trivial e6) (.one (.ow (.pair T22 (.pair T22 T22)) 98)) ([] : (List (V22 × (V22 × V22)))))) (by kernel_rfl)⟩)) (fun e6 =>
   Owp.bnd fun y7 e8 =>
    Owp.bnd fun o10 e11 =>
    Owp.bnd fun y12 e13 =>
    Owp.req fun h14 =>
    Owp.req fun h15 =>
    Owp.req fun h16 =>
    Owp.bnd fun y17 e18 =>
    Owp.req fun h19 =>
    Owp.req fun h20 =>
    Owp.req fun h21 =>
    Owp.bnd fun y22 e23 =>
    Owp.bnd fun y24 e25 =>
    Owp.bnd fun o31 e32 =>
    Owp.bnd fun o46 e47 =>
    Owp.bif (fun e48 =>
    Owp.bnd fun y49 e50 =>
     Owp.req fun h51 =>
     Owp.bnd fun y52 e53 =>
     Owp.req fun h54 =>
     Owp.some (⟨[.res (.more (.dp (.pair T4 T22)) (.more (.dp T4) (.one (.dp T2)))) y1, .cutR 2 ⟨[], [(0, 8)], (contact_Of.c1p a0 a1 y1), 1, .normal, (contact_Of.c1q a0 a1 y1 o4), 1⟩, .dec false, .res (.more (.dp T4) (.more (.dp T2) (.one (.dp T22)))) y7, .cut ⟨[], [(0, 0), (1, 8)], (contact_Of.c2p a0 a1 y1 y7), 2, .normal, (contact_Of.c2q y1 y7 o10), 2⟩, .res (.one (.dp T22)) y12, .res (.one (.dp T2)) y17, .res (.one (.dp T22)) y22, .res (.more (.dp T22) (.more (.dp T22) (.one (.dp T4)))) y24, .cut ⟨[], [(0, 1), (1, 6), (2, 22), (3, 23), (4, 59), (5, 60)], (contact_Of.c3p o10 y1 y7 y12 y17 y24), 6, .normal, (contact_Of.c3q o10 y1 y7 y12 y17 o31), 5⟩, .dec true, .cut ⟨[.own 22 (.pair T22 (.pair T22 T22)) 98], [(0, 0), (1, 1), (2, 2), (3, 3), (4, 4), (5, 11), (6, 8)], (contact_Of.c4p o10 o31 y1 y7 y12 y17 (0 : Int) []), 7, (.exit 0), (contact_Of.c4q o10 y1 y7 y12 y17 o46), 4⟩, .dec true, .res (.one (.dp T2)) y49, .res (.more (.dp T2) (.one (.dp T4))) y52, .dec true], [], via (cutP (And.intro trivial e2) [(0, 8)] (contact_Of.c1p a0 a1 y1) (((contact_Of.c1_ok k a0 a1 y1).ap e5)) (cutP (And.intro (And.intro trivial e6) e8) [(0, 0), (1, 8)] (contact_Of.c2p a0 a1 y1 y7) (((contact_Of.c2_ok k a0 a1 y1 y7).ap e11)) (cutP (And.intro (And.intro (And.intro (And.intro (And.intro (And.intro (And.intro (And.intro (And.intro (And.intro trivial e13) h14) h15) h16) e18) h19) h20) h21) e23) e25) [(0, 1), (1, 6), (2, 22), (3, 23), (4, 59), (5, 60)] (contact_Of.c3p o10 y1 y7 y12 y17 y24) (((contact_Of.c3_ok k o10 y1 y7 y12 y17 y24).ap e32)) (cutP trivial [(0, 0), (1, 1), (2, 2), (3, 3), (4, 4), (5, 11), (6, 8)] (contact_Of.c4p o10 o31 y1 y7 y12 y17 (0 : Int) []) (((contact_Of.c4_ok k o10 o31 y1 y7 y12 y17 k (0 : Int) []).ap e47).triple) (retP (And.intro (And.intro (And.intro (And.intro (And.intro trivial e48) e50) h51) e53) h54) (.one (.ow (.pair T22 (.pair T22 T22)) 98)) ((o46 ++ [((el Z22 o10.2.1 y49), y7.2.2, y52.1, (imul .i64 (iadd .i64 (imul .i64 o10.2.2 (8 : Int)) y17) (2 : Int)), ())]) : (List (V22 × (V22 × V22))))))))) (by kernel_rfl)⟩)) (fun e48 =>
    Owp.some (⟨[.res (.more (.dp (.pair T4 T22)) (.more (.dp T4) (.one (.dp T2)))) y1, .cutR 2 ⟨[], [(0, 8)], (contact_Of.c1p a0 a1 y1), 1, .normal, (contact_Of.c1q a0 a1 y1 o4), 1⟩, .dec false, .res (.more (.dp T4) (.more (.dp T2) (.one (.dp T22)))) y7, .cut ⟨[], [(0, 0), (1, 8)], (contact_Of.c2p a0 a1 y1 y7), 2, .normal, (contact_Of.c2q y1 y7 o10), 2⟩, .res (.one (.dp T22)) y12, .res (.one (.dp T2)) y17, .res (.one (.dp T22)) y22, .res (.more (.dp T22) (.more (.dp T22) (.one (.dp T4)))) y24, .cut ⟨[], [(0, 1), (1, 6), (2, 22), (3, 23), (4, 59), (5, 60)], (contact_Of.c3p o10 y1 y7 y12 y17 y24), 6, .normal, (contact_Of.c3q o10 y1 y7 y12 y17 o31), 5⟩, .dec true, .cut ⟨[.own 22 (.pair T22 (.pair T22 T22)) 98], [(0, 0), (1, 1), (2, 2), (3, 3), (4, 4), (5, 11), (6, 8)], (contact_Of.c4p o10 o31 y1 y7 y12 y17 (0 : Int) []), 7, (.exit 0), (contact_Of.c4q o10 y1 y7 y12 y17 o46), 4⟩, .dec false], [], via (cutP (And.intro trivial e2) [(0, 8)] (contact_Of.c1p a0 a1 y1) (((contact_Of.c1_ok k a0 a1 y1).ap e5)) (cutP (And.intro (And.intro trivial e6) e8) [(0, 0), (1, 8)] (contact_Of.c2p a0 a1 y1 y7) (((contact_Of.c2_ok k a0 a1 y1 y7).ap e11)) (cutP (And.intro (And.intro (And.intro (And.intro (And.intro (And.intro (And.intro (And.intro (And.intro (And.intro trivial e13) h14) h15) h16) e18) h19) h20) h21) e23) e25) [(0, 1), (1, 6), (2, 22), (3, 23), (4, 59), (5, 60)] (contact_Of.c3p o10 y1 y7 y12 y17 y24) (((contact_Of.c3_ok k o10 y1 y7 y12 y17 y24).ap e32)) (cutP trivial [(0, 0), (1, 1), (2, 2), (3, 3), (4, 4), (5, 11), (6, 8)] (contact_Of.c4p o10 o31 y1 y7 y12 y17 (0 : Int) []) (((contact_Of.c4_ok k o10 o31 y1 y7 y12 y17 k (0 : Int) []).ap e47).triple) (retP (And.intro trivial e48) (.one (.ow (.pair T22 (.pair T22 T22)) 98)) (o46 : (List (V22 × (V22 × V22))))))))) (by kernel_rfl)⟩)))
theorem contact_Of.ok (k : Nat) : FnOk PR 68 (contact_Of.sp k) :=
  fn_ok (contact_Of.cok k) hmix Try.func68 (code := contact_Of.code) (by kernel_rfl) (by kernel_rfl) (by kernel_rfl) rfl (by kernel_rfl) (by kernel_rfl) (by kernel_rfl) (fun x => Nat.le_of_ble_eq_true (by kernel_rfl)) fun x y hy => (contact_Of.way k x.1 x.2.1).ap hy

/-! tourney/tourref2.Facing -/
noncomputable def tourref2_Facing.code : Code := Func.cd Try.f147
def tourref2_Facing (k : Nat) (a0 : (List V22)) (a1 : V22) : Option Int :=
  bnd (tourref2_Far k a0 ((ineg .i64 a1.1), (ineg .i64 a1.2.1), ())) fun y1 =>
  req (nz (len a0)) <|
  req (inL (irem (isub .i64 (iadd .i64 y1 (len a0)) 1) (len a0)) a0) <|
  bnd (tourref2_Dot k (el Z22 a0 (irem (isub .i64 (iadd .i64 y1 (len a0)) 1) (len a0))) a1) fun y5 =>
  req (inL (irem (iadd .i64 y1 1) (len a0)) a0) <|
  bnd (tourref2_Dot k (el Z22 a0 (irem (iadd .i64 y1 1) (len a0))) a1) fun y8 =>
  bnd (tourref2_Big_Cmp k y5 y8) fun y10 =>
  bif' (ilt y10 0)
  (some (irem (isub .i64 (iadd .i64 y1 (len a0)) 1) (len a0)))
  (some y1)
noncomputable def tourref2_Facing.sp (k : Nat) : Go.Sx.Spec := ⟨(.pair T24 (.pair T22 .unit)), (.one (.dp T2)), fun x => tourref2_Facing k x.1 x.2.1, false⟩
noncomputable def tourref2_Facing.cx (k : Nat) : Go.Sx.Ctx := ⟨tys, [(149, tourref2_Far.sp k), (125, tourref2_Dot.sp k), (126, tourref2_Big_Cmp.sp k)], eqs, 47, false⟩
theorem tourref2_Facing.cok (k : Nat) : CtxOk PR (tourref2_Facing.cx k) := ctx_ok tysOk eqsOk (FnsOk.cons (tourref2_Far.ok k) (FnsOk.cons (tourref2_Dot.ok k) (FnsOk.cons (tourref2_Big_Cmp.ok k) FnsOk.nil)))
theorem tourref2_Facing.way (k : Nat) (a0 : (List V22)) (a1 : V22) : Owp (tourref2_Facing k a0 a1) fun y => ∃ answers cmds, exec PR (tourref2_Facing.cx k) tourref2_Facing.code 0 (entry (.pair T24 (.pair T22 .unit)) (a0, a1, ())).st answers (Ret (tourref2_Facing.cx k) Try.f147 cmds (.one (.dp T2)) y) := by
  unfold tourref2_Facing; exact
   Owp.bnd fun y1 e2 =>
   Owp.req fun h3 =>
   Owp.req fun h4 =>
   Owp.bnd fun y5 e6 =>
   Owp.req fun h7 =>
   Owp.bnd fun y8 e9 =>
   Owp.bnd fun y10 e11 =>
   Owp.bif (fun e12 =>
   Owp.some (⟨[.res (.one (.dp T2)) y1, .res (.one (.dp T134)) y5, .res (.one (.dp T134)) y8, .res (.one (.dp T2)) y10, .dec true], [], via (retP (And.intro (And.intro (And.intro (And.intro (And.intro (And.intro (And.intro (And.intro (And.intro (And.intro trivial e2) h3) h4) e6) h3) h7) e9) e11) e12) h3) (.one (.dp T2)) ((irem (isub .i64 (iadd .i64 y1 (len a0)) (1 : Int)) (len a0)) : Int)) (by kernel_rfl)⟩)) (fun e12 =>
   Owp.some (⟨[.res (.one (.dp T2)) y1, .res (.one (.dp T134)) y5, .res (.one (.dp T134)) y8, .res (.one (.dp T2)) y10, .dec false], [], via (retP (And.intro (And.intro (And.intro (And.intro (And.intro (And.intro (And.intro (And.intro (And.intro trivial e2) h3) h4) e6) h3) h7) e9) e11) e12) (.one (.dp T2)) (y1 : Int)) (by kernel_rfl)⟩))
theorem tourref2_Facing.ok (k : Nat) : FnOk PR 147 (tourref2_Facing.sp k) :=
  fn_ok (tourref2_Facing.cok k) hmix Try.func147 (code := tourref2_Facing.code) (by kernel_rfl) (by kernel_rfl) (by kernel_rfl) rfl (by kernel_rfl) (by kernel_rfl) (by kernel_rfl) (fun x => Nat.le_of_ble_eq_true (by kernel_rfl)) fun x y hy => (tourref2_Facing.way k x.1 x.2.1).ap hy

/-! tourney/tourref2.clip -/
noncomputable def tourref2_clip.code : Code := Func.cd Try.f148
def tourref2_clip.c2 (k : Nat) (y3 : (List Int)) (y7 : (List Int)) : Option (Bool) :=
  bnd (tourref2_Big_Below k y3) fun y16 =>
  bif' y16
  (bnd (tourref2_Big_Below k y7) fun y19 =>
   some y19)
  (some false)
def tourref2_clip.c1 (k : Nat) (a0 : (List V22)) (y3 : (List Int)) (y7 : (List Int)) : Nat → Int → (List V22) → Option (Unit ⊕ (List V22))
  | 0, _, _ => none
  | n + 1, v9, v10 =>
   bif' (ilt v9 (len [y3, y7]))
   (req (inL v9 [y3, y7]) <|
    bnd (tourref2_Big_Below k (el (List.replicate 8 0) [y3, y7] v9)) fun y13 =>
    bif' y13
    (bnd (tourref2_clip.c2 k y3 y7) fun o21 =>
     bif' o21
     (some (.inl ()))
     (bnd (tourref2_Big_Sub k y3 y7) fun y24 =>
      bnd (tourref2_Big_Wide k y24) fun y26 =>
      bnd (tourref2_Of k (isub .i64 (el Z22 a0 1).1 (el Z22 a0 0).1)) fun y28 =>
      bnd (tourref2_Big_Mul k y28 y3) fun y30 =>
      bnd (tourref2_Big_Over k y30 (icv .i64 y26.2.1)) fun y32 =>
      bnd (tourref2_Of k (isub .i64 (el Z22 a0 1).2.1 (el Z22 a0 0).2.1)) fun y34 =>
      bnd (tourref2_Big_Mul k y34 y3) fun y36 =>
      bnd (tourref2_Big_Over k y36 (icv .i64 y26.2.1)) fun y38 =>
      req (inR v9 2) <|
      tourref2_clip.c1 k a0 y3 y7 n (iadd .i64 v9 1) (st v10 v9 ((iadd .i64 (el Z22 a0 0).1 y32.1), (iadd .i64 (el Z22 a0 0).2.1 y38.1), ()))))
    (tourref2_clip.c1 k a0 y3 y7 n (iadd .i64 v9 1) v10))
   (some (.inr v10))
def tourref2_clip (k : Nat) (a0 : (List V22)) (a1 : V22) (a2 : V22) : Option ((List V22) × Bool) :=
  bnd (tourref2_sub k (el Z22 a0 0) a1) fun y1 =>
  bnd (tourref2_Dot k y1 a2) fun y3 =>
  bnd (tourref2_sub k (el Z22 a0 1) a1) fun y5 =>
  bnd (tourref2_Dot k y5 a2) fun y7 =>
  bnd (tourref2_clip.c1 k a0 y3 y7 k 0 a0) fun o41 =>
  two o41 (fun y43 =>
  some (a0, false)) (fun y45 =>
  some (y45, true))
noncomputable def tourref2_clip.sp (k : Nat) : Go.Sx.Spec := ⟨(.pair (.arr 2 T22) (.pair T22 (.pair T22 .unit))), (.more (.dp (.arr 2 T22)) (.one (.dp T4))), fun x => tourref2_clip k x.1 x.2.1 x.2.2.1, false⟩
noncomputable def tourref2_clip.cx (k : Nat) : Go.Sx.Ctx := ⟨tys, [(102, tourref2_sub.sp k), (125, tourref2_Dot.sp k), (179, tourref2_Big_Below.sp k), (189, tourref2_Big_Sub.sp k), (190, tourref2_Big_Wide.sp k), (159, tourref2_Of.sp k), (177, tourref2_Big_Mul.sp k), (166, tourref2_Big_Over.sp k)], eqs, 101, false⟩
theorem tourref2_clip.cok (k : Nat) : CtxOk PR (tourref2_clip.cx k) := ctx_ok tysOk eqsOk (FnsOk.cons (tourref2_sub.ok k) (FnsOk.cons (tourref2_Dot.ok k) (FnsOk.cons (tourref2_Big_Below.ok k) (FnsOk.cons (tourref2_Big_Sub.ok k) (FnsOk.cons (tourref2_Big_Wide.ok k) (FnsOk.cons (tourref2_Of.ok k) (FnsOk.cons (tourref2_Big_Mul.ok k) (FnsOk.cons (tourref2_Big_Over.ok k) FnsOk.nil))))))))
noncomputable def tourref2_clip.c2p (a0 : (List V22)) (v9 : Int) (v10 : (List V22)) (y3 : (List Int)) (y7 : (List Int)) : SL := ⟨[(3, (.val .ptr ⟨0, 0, (0 : Int), 0, 0⟩)), (6, (.val .ptr ⟨1, 0, (0 : Int), 0, 0⟩)), (8, (.val .ptr ⟨2, 0, (0 : Int), 0, 0⟩)), (9, (.val .ptr ⟨3, 0, (0 : Int), 0, 0⟩)), (10, (.val .ptr ⟨4, 0, (0 : Int), 0, 0⟩)), (11, (.val T2 v9)), (33, (.val .own (5 : Nat))), (34, (.val T2 (len [y3, y7]))), (35, (.val T2 v9))], [(0, .cells (.arr 2 T22) a0), (1, .cells (.arr 2 T22) (List.replicate 2 ((0 : Int), (0 : Int), ()))), (2, .cells T134 y3), (3, .cells T134 y7), (4, .cells (.arr 2 T22) v10), (5, .row T134 [y3, y7] 135)]⟩
noncomputable def tourref2_clip.c2q (a0 : (List V22)) (v9 : Int) (v10 : (List V22)) (y3 : (List Int)) (y7 : (List Int)) (o : Bool) : SL := (fun v => ⟨[(3, (.val .ptr ⟨0, 0, (0 : Int), 0, 0⟩)), (6, (.val .ptr ⟨1, 0, (0 : Int), 0, 0⟩)), (8, (.val .ptr ⟨2, 0, (0 : Int), 0, 0⟩)), (9, (.val .ptr ⟨3, 0, (0 : Int), 0, 0⟩)), (10, (.val .ptr ⟨4, 0, (0 : Int), 0, 0⟩)), (11, (.val T2 v9)), (33, (.val .own (5 : Nat))), (34, (.val T2 (len [y3, y7]))), (35, (.val T2 v9)), (48, (.val T4 v))], [(0, .cells (.arr 2 T22) a0), (1, .cells (.arr 2 T22) (List.replicate 2 ((0 : Int), (0 : Int), ()))), (2, .cells T134 y3), (3, .cells T134 y7), (4, .cells (.arr 2 T22) v10), (5, .row T134 [y3, y7] 135)]⟩) o
noncomputable def tourref2_clip.c2x (o : Bool) : Ex := (fun _ => .normal) o
noncomputable def tourref2_clip.c2n (o : Bool) : Nat := (fun _ => 6) o
theorem tourref2_clip.c2_ok (k : Nat) (a0 : (List V22)) (v9 : Int) (v10 : (List V22)) (y3 : (List Int)) (y7 : (List Int)) : Owp (tourref2_clip.c2 k y3 y7) fun o => Triple PR (tourref2_clip.cx k) (sub tourref2_clip.code [1, 1, 1, 0, 1, 0, 0, 1, 1, 0, 0, 1, 1, 0, 0]) 6 (tourref2_clip.c2p a0 v9 v10 y3 y7) (tourref2_clip.c2x o) (tourref2_clip.c2n o) (tourref2_clip.c2q a0 v9 v10 y3 y7 o) := by
  unfold tourref2_clip.c2; exact
   Owp.bnd fun y16 e17 =>
   Owp.bif (fun e18 =>
   Owp.bnd fun y19 e20 =>
    Owp.some (triple_way (tourref2_clip.cok k) hmix [.res (.one (.dp T4)) y16, .dec true, .dec true, .res (.one (.dp T4)) y19, .dec true] [] [(0, 0), (1, 1), (2, 2), (3, 3), (4, 4), (5, 5)] (via (finP (And.intro (And.intro (And.intro (And.intro trivial e17) e18) (And.intro e18 e20)) e18) .normal [(0, 0), (1, 1), (2, 2), (3, 3), (4, 4), (5, 5)] (tourref2_clip.c2q a0 v9 v10 y3 y7 y19)) (by kernel_rfl)))) (fun e18 =>
   Owp.some (triple_way (tourref2_clip.cok k) hmix [.res (.one (.dp T4)) y16, .dec false, .dec false, .dec true, .dec false] [] [(0, 0), (1, 1), (2, 2), (3, 3), (4, 4), (5, 5)] (via (finP (And.intro (And.intro (And.intro (And.intro trivial e17) e18) e18) e18) .normal [(0, 0), (1, 1), (2, 2), (3, 3), (4, 4), (5, 5)] (tourref2_clip.c2q a0 v9 v10 y3 y7 false)) (by kernel_rfl))))
noncomputable def tourref2_clip.c1p (a0 : (List V22)) (y3 : (List Int)) (y7 : (List Int)) (v9 : Int) (v10 : (List V22)) : SL := ⟨[(3, (.val .ptr ⟨0, 0, (0 : Int), 0, 0⟩)), (6, (.val .ptr ⟨1, 0, (0 : Int), 0, 0⟩)), (8, (.val .ptr ⟨2, 0, (0 : Int), 0, 0⟩)), (9, (.val .ptr ⟨3, 0, (0 : Int), 0, 0⟩)), (10, (.val .ptr ⟨4, 0, (0 : Int), 0, 0⟩)), (33, (.val .own (5 : Nat))), (34, (.val T2 (len [y3, y7]))), (35, (.val T2 v9))], [(0, .cells (.arr 2 T22) a0), (1, .cells (.arr 2 T22) (List.replicate 2 ((0 : Int), (0 : Int), ()))), (2, .cells T134 y3), (3, .cells T134 y7), (4, .cells (.arr 2 T22) v10), (5, .row T134 [y3, y7] 135)]⟩
noncomputable def tourref2_clip.c1q (a0 : (List V22)) (o : Unit ⊕ (List V22)) : SL := (fun o => two o (fun v => ⟨[(6, (.val .ptr ⟨0, 0, (0 : Int), 0, 0⟩)), (7, (.val T4 false))], [(0, .cells (.arr 2 T22) a0)]⟩) (fun v => ⟨[(6, (.val .ptr ⟨0, 0, (0 : Int), 0, 0⟩)), (10, (.val .ptr ⟨1, 0, (0 : Int), 0, 0⟩))], [(0, .cells (.arr 2 T22) (List.replicate 2 ((0 : Int), (0 : Int), ()))), (1, .cells (.arr 2 T22) v)]⟩)) o
noncomputable def tourref2_clip.c1x (o : Unit ⊕ (List V22)) : Ex := (fun o => two o (fun _ => .ret) (fun _ => (.exit 0))) o
noncomputable def tourref2_clip.c1n (o : Unit ⊕ (List V22)) : Nat := (fun o => two o (fun _ => 1) (fun _ => 2)) o
theorem tourref2_clip.c1_ok (k : Nat) (a0 : (List V22)) (y3 : (List Int)) (y7 : (List Int)) : ∀ (n : Nat) (v9 : Int) (v10 : (List V22)), Owp (tourref2_clip.c1 k a0 y3 y7 n v9 v10) fun o => LTriple PR (tourref2_clip.cx k) (sub tourref2_clip.code [1, 1, 1, 0, 1, 0, 0]) 6 (tourref2_clip.c1p a0 y3 y7 v9 v10) (tourref2_clip.c1x o) (tourref2_clip.c1n o) (tourref2_clip.c1q a0 o)
  | 0, _, _ => fun _ h => nomatch h
  | n + 1, v9, v10 => Owp.of (tourref2_clip.c1.eq_2 ..) (
   Owp.bif (fun e11 =>
   Owp.req fun h12 =>
    Owp.bnd fun y13 e14 =>
    Owp.bif (fun e15 =>
    Owp.bnd fun o21 e22 =>
     Owp.bif (fun e23 =>
     Owp.some (loop_exit (tourref2_clip.cok k) hmix [.dec true, .res (.one (.dp T4)) y13, .dec false, .cutR 7 ⟨[], [(0, 0), (1, 1), (2, 2), (3, 3), (4, 4), (5, 5)], (tourref2_clip.c2p a0 v9 v10 y3 y7), 6, .normal, (tourref2_clip.c2q a0 v9 v10 y3 y7 o21), 6⟩, .dec true] [] [(0, 1)] exne_ret (via (cutP (And.intro (And.intro (And.intro (And.intro (And.intro trivial e11) h12) h12) e14) (congrArg not e15)) [(0, 0), (1, 1), (2, 2), (3, 3), (4, 4), (5, 5)] (tourref2_clip.c2p a0 v9 v10 y3 y7) (((tourref2_clip.c2_ok k a0 v9 v10 y3 y7).ap e22)) (finP (And.intro trivial e23) .ret [(0, 1)] (tourref2_clip.c1q a0 (.inl ())))) (by kernel_rfl)))) (fun e23 =>
     Owp.bnd fun y24 e25 =>
      Owp.bnd fun y26 e27 =>
      Owp.bnd fun y28 e29 =>
      Owp.bnd fun y30 e31 =>
      Owp.bnd fun y32 e33 =>
      Owp.bnd fun y34 e35 =>
      Owp.bnd fun y36 e37 =>
      Owp.bnd fun y38 e39 =>
      Owp.req fun h40 =>
      fun y hy => loop_back (tourref2_clip.cok k) hmix 6 (tourref2_clip.c1p a0 y3 y7 (iadd .i64 v9 (1 : Int)) (st v10 v9 ((iadd .i64 (el Z22 a0 (0 : Int)).1 y32.1), (iadd .i64 (el Z22 a0 (0 : Int)).2.1 y38.1), ()))) [.dec true, .res (.one (.dp T4)) y13, .dec false, .cutR 7 ⟨[], [(0, 0), (1, 1), (2, 2), (3, 3), (4, 4), (5, 5)], (tourref2_clip.c2p a0 v9 v10 y3 y7), 6, .normal, (tourref2_clip.c2q a0 v9 v10 y3 y7 o21), 6⟩, .dec false, .res (.one (.dp T134)) y24, .res (.one (.dp T90)) y26, .res (.one (.dp T134)) y28, .res (.one (.dp T134)) y30, .res (.more (.dp T2) (.one (.dp T2))) y32, .res (.one (.dp T134)) y34, .res (.one (.dp T134)) y36, .res (.more (.dp T2) (.one (.dp T2))) y38] [] [(0, 0), (1, 1), (2, 2), (3, 3), (4, 4), (5, 5)] (via (cutP (And.intro (And.intro (And.intro (And.intro (And.intro trivial e11) h12) h12) e14) (congrArg not e15)) [(0, 0), (1, 1), (2, 2), (3, 3), (4, 4), (5, 5)] (tourref2_clip.c2p a0 v9 v10 y3 y7) (((tourref2_clip.c2_ok k a0 v9 v10 y3 y7).ap e22)) (finP (And.intro (And.intro (And.intro (And.intro (And.intro (And.intro (And.intro (And.intro (And.intro (And.intro (And.intro (And.intro (And.intro (And.intro (And.intro (And.intro (And.intro (And.intro (And.intro (And.intro (And.intro (And.intro (And.intro trivial e23) e25) e27) (by decide : inR (1 : Int) 2)) (by decide : inR (1 : Int) 2)) (by decide : inR (0 : Int) 2)) (by decide : inR (0 : Int) 2)) e29) e31) e33) (by decide : inR (1 : Int) 2)) (by decide : inR (1 : Int) 2)) (by decide : inR (0 : Int) 2)) (by decide : inR (0 : Int) 2)) e35) e37) e39) (by decide : inR (0 : Int) 2)) (by decide : inR (0 : Int) 2)) (by decide : inR (0 : Int) 2)) (by decide : inR (0 : Int) 2)) h40) h40) .normal [(0, 0), (1, 1), (2, 2), (3, 3), (4, 4), (5, 5)] (tourref2_clip.c1p a0 y3 y7 (iadd .i64 v9 (1 : Int)) (st v10 v9 ((iadd .i64 (el Z22 a0 (0 : Int)).1 y32.1), (iadd .i64 (el Z22 a0 (0 : Int)).2.1 y38.1), ()))))) (by kernel_rfl)) ((tourref2_clip.c1_ok k a0 y3 y7 n (iadd .i64 v9 (1 : Int)) (st v10 v9 ((iadd .i64 (el Z22 a0 (0 : Int)).1 y32.1), (iadd .i64 (el Z22 a0 (0 : Int)).2.1 y38.1), ()))).ap hy))) (fun e15 =>
    fun y hy => loop_back (tourref2_clip.cok k) hmix 6 (tourref2_clip.c1p a0 y3 y7 (iadd .i64 v9 (1 : Int)) v10) [.dec true, .res (.one (.dp T4)) y13, .dec true] [] [(0, 0), (1, 1), (2, 2), (3, 3), (4, 4), (5, 5)] (via (finP (And.intro (And.intro (And.intro (And.intro (And.intro trivial e11) h12) h12) e14) (congrArg not e15)) .normal [(0, 0), (1, 1), (2, 2), (3, 3), (4, 4), (5, 5)] (tourref2_clip.c1p a0 y3 y7 (iadd .i64 v9 (1 : Int)) v10)) (by kernel_rfl)) ((tourref2_clip.c1_ok k a0 y3 y7 n (iadd .i64 v9 (1 : Int)) v10).ap hy))) (fun e11 =>
   Owp.some (loop_exit (tourref2_clip.cok k) hmix [.dec false] [] [(0, 1), (1, 4)] (exne 0) (via (finP (And.intro trivial e11) (.exit 0) [(0, 1), (1, 4)] (tourref2_clip.c1q a0 (.inr v10))) (by kernel_rfl)))))
theorem tourref2_clip.way (k : Nat) (a0 : (List V22)) (a1 : V22) (a2 : V22) : Owp (tourref2_clip k a0 a1 a2) fun y => ∃ answers cmds, exec PR (tourref2_clip.cx k) tourref2_clip.code 0 (entry (.pair (.arr 2 T22) (.pair T22 (.pair T22 .unit))) (a0, a1, a2, ())).st answers (Ret (tourref2_clip.cx k) Try.f148 cmds (.more (.dp (.arr 2 T22)) (.one (.dp T4))) y) := by
  unfold tourref2_clip; exact
   Owp.bnd fun y1 e2 =>
   Owp.bnd fun y3 e4 =>
   Owp.bnd fun y5 e6 =>
   Owp.bnd fun y7 e8 =>
   Owp.bnd fun o41 e42 =>
   Owp.two (fun y43 e44 =>
   Owp.some (⟨[.res (.one (.dp T22)) y1, .res (.one (.dp T134)) y3, .res (.one (.dp T22)) y5, .res (.one (.dp T134)) y7, .dec true, .cut ⟨[], [(0, 0), (1, 3), (2, 17), (3, 18), (4, 22), (5, 26)], (tourref2_clip.c1p a0 y3 y7 (0 : Int) a0), 6, .ret, (tourref2_clip.c1q a0 (.inl ())), 1⟩], [], via (cutP (And.intro (And.intro (And.intro (And.intro (And.intro (And.intro (And.intro (And.intro trivial (by decide : inR (0 : Int) 2)) (by decide : inR (0 : Int) 2)) e2) e4) (by decide : inR (1 : Int) 2)) (by decide : inR (1 : Int) 2)) e6) e8) [(0, 0), (1, 3), (2, 17), (3, 18), (4, 22), (5, 26)] (tourref2_clip.c1p a0 y3 y7 (0 : Int) a0) (((tourref2_clip.c1_ok k a0 y3 y7 k (0 : Int) a0).ap (e42.trans (congrArg some e44))).triple) (retP trivial (.more (.dp (.arr 2 T22)) (.one (.dp T4))) ((a0, false) : ((List V22) × Bool)))) (by kernel_rfl)⟩)) (fun y45 e46 =>
   Owp.some (⟨[.res (.one (.dp T22)) y1, .res (.one (.dp T134)) y3, .res (.one (.dp T22)) y5, .res (.one (.dp T134)) y7, .dec true, .cut ⟨[], [(0, 0), (1, 3), (2, 17), (3, 18), (4, 22), (5, 26)], (tourref2_clip.c1p a0 y3 y7 (0 : Int) a0), 6, (.exit 0), (tourref2_clip.c1q a0 (.inr y45)), 2⟩], [], via (cutP (And.intro (And.intro (And.intro (And.intro (And.intro (And.intro (And.intro (And.intro trivial (by decide : inR (0 : Int) 2)) (by decide : inR (0 : Int) 2)) e2) e4) (by decide : inR (1 : Int) 2)) (by decide : inR (1 : Int) 2)) e6) e8) [(0, 0), (1, 3), (2, 17), (3, 18), (4, 22), (5, 26)] (tourref2_clip.c1p a0 y3 y7 (0 : Int) a0) (((tourref2_clip.c1_ok k a0 y3 y7 k (0 : Int) a0).ap (e42.trans (congrArg some e46))).triple) (retP trivial (.more (.dp (.arr 2 T22)) (.one (.dp T4))) ((y45, true) : ((List V22) × Bool)))) (by kernel_rfl)⟩))
theorem tourref2_clip.ok (k : Nat) : FnOk PR 148 (tourref2_clip.sp k) :=
  fn_ok (tourref2_clip.cok k) hmix Try.func148 (code := tourref2_clip.code) (by kernel_rfl) (by kernel_rfl) (by kernel_rfl) rfl (by kernel_rfl) (by kernel_rfl) (by kernel_rfl) (fun x => Nat.le_of_ble_eq_true (by kernel_rfl)) fun x y hy => (tourref2_clip.way k x.1 x.2.1 x.2.2.1).ap hy

/-! tourney/tourref2.Points -/
noncomputable def tourref2_Points.code : Code := Func.cd Try.f71
def tourref2_Points.c1 (k : Nat) (a0 : (List V22)) (a1 : (List V22)) (y1 : (Bool × V22)) : Option (((List V22) × ((List V22) × Int))) :=
  bif' y1.1
  (some (a1, a0, 1))
  (some (a0, a1, 0))
def tourref2_Points.c2 (k : Nat) (o6 : ((List V22) × ((List V22) × Int))) (y1 : (Bool × V22)) (y20 : ((List V22) × Bool)) : Option ((Bool × (List V22))) :=
  bif' y20.2
  (bnd (tourref2_sub k (el Z22 o6.1 y1.2.1) (el Z22 o6.1 (irem (iadd .i64 y1.2.1 1) (len o6.1)))) fun y23 =>
   bnd (tourref2_clip k y20.1 (el Z22 o6.1 (irem (iadd .i64 y1.2.1 1) (len o6.1))) y23) fun y25 =>
   some (y25.2, y25.1))
  (some (y20.2, y20.1))
def tourref2_Points.c4 (k : Nat) (o27 : (Bool × (List V22))) (v29 : Int) (y33 : (Int × Bool)) : Option (Bool) :=
  bif' o27.1
  (bif' y33.2
   (bif' (ieq v29 0)
    (some true)
    (some (!(Ty.eqb T22 (el Z22 o27.2 v29) (el Z22 o27.2 (0 : Int))))))
   (some false))
  (some false)
def tourref2_Points.c3 (k : Nat) (o6 : ((List V22) × ((List V22) × Int))) (o27 : (Bool × (List V22))) (y1 : (Bool × V22)) (y3 : V22) (y13 : Int) : Nat → Int → (List (V22 × (V22 × V22))) → Option ((List (V22 × (V22 × V22))))
  | 0, _, _ => none
  | n + 1, v29, v30 =>
   bif' (ilt v29 2)
   (req (inR v29 2) <|
    bnd (tourref2_depth k o6.1 y1.2.1 (el Z22 o27.2 v29)) fun y33 =>
    bnd (tourref2_Points.c4 k o27 v29 y33) fun o38 =>
    bif' o38
    (req (room 48 v30 [((el Z22 o27.2 v29), y3, y33.1, (iadd .i64 (imul .i64 (iadd .i64 (imul .i64 (iadd .i64 (imul .i64 8 o6.2.2) y1.2.1) 8) y13) 2) v29), ())]) <|
     tourref2_Points.c3 k o6 o27 y1 y3 y13 n (iadd .i64 v29 1) (v30 ++ [((el Z22 o27.2 v29), y3, y33.1, (iadd .i64 (imul .i64 (iadd .i64 (imul .i64 (iadd .i64 (imul .i64 8 o6.2.2) y1.2.1) 8) y13) 2) v29), ())]))
    (tourref2_Points.c3 k o6 o27 y1 y3 y13 n (iadd .i64 v29 1) v30))
   (some v30)
def tourref2_Points (k : Nat) (a0 : (List V22)) (a1 : (List V22)) : Option (List (V22 × (V22 × V22))) :=
  bnd (tourref2_Least k a0 a1) fun y1 =>
  bnd (tourref2_Way k a0 a1 y1) fun y3 =>
  bnd (tourref2_Points.c1 k a0 a1 y1) fun o6 =>
  req (inL y1.2.1 o6.1) <|
  req (nz (len o6.1)) <|
  req (inL (irem (iadd .i64 y1.2.1 1) (len o6.1)) o6.1) <|
  bnd (tourref2_Out k o6.1 y1.2.1) fun y11 =>
  bnd (tourref2_Facing k o6.2.1 y11) fun y13 =>
  req (inL y13 o6.2.1) <|
  req (nz (len o6.2.1)) <|
  req (inL (irem (iadd .i64 y13 1) (len o6.2.1)) o6.2.1) <|
  bnd (tourref2_sub k (el Z22 o6.1 (irem (iadd .i64 y1.2.1 1) (len o6.1))) (el Z22 o6.1 y1.2.1)) fun y18 =>
  bnd (tourref2_clip k [(el Z22 o6.2.1 y13), (el Z22 o6.2.1 (irem (iadd .i64 y13 1) (len o6.2.1)))] (el Z22 o6.1 y1.2.1) y18) fun y20 =>
  bnd (tourref2_Points.c2 k o6 y1 y20) fun o27 =>
  bnd (tourref2_Points.c3 k o6 o27 y1 y3 y13 k 0 []) fun o42 =>
  bif' (ieq (len o42) 0)
  (bnd (tourref2_Far k o6.2.1 ((ineg .i64 y11.1), (ineg .i64 y11.2.1), ())) fun y45 =>
   req (inL y45 o6.2.1) <|
   bnd (tourref2_depth k o6.1 y1.2.1 (el Z22 o6.2.1 y45)) fun y48 =>
   req (room 48 o42 [((el Z22 o6.2.1 y45), y3, y48.1, (imul .i64 (iadd .i64 (imul .i64 (iadd .i64 (imul .i64 8 o6.2.2) y1.2.1) 8) y13) 2), ())]) <|
   some (o42 ++ [((el Z22 o6.2.1 y45), y3, y48.1, (imul .i64 (iadd .i64 (imul .i64 (iadd .i64 (imul .i64 8 o6.2.2) y1.2.1) 8) y13) 2), ())]))
  (some o42)
noncomputable def tourref2_Points.sp (k : Nat) : Go.Sx.Spec := ⟨(.pair T24 (.pair T24 .unit)), (.one (.ow (.pair T22 (.pair T22 T22)) 98)), fun x => tourref2_Points k x.1 x.2.1, false⟩
noncomputable def tourref2_Points.cx (k : Nat) : Go.Sx.Ctx := ⟨tys, [(33, tourref2_Least.sp k), (34, tourref2_Way.sp k), (32, tourref2_Out.sp k), (147, tourref2_Facing.sp k), (102, tourref2_sub.sp k), (148, tourref2_clip.sp k), (103, tourref2_depth.sp k), (149, tourref2_Far.sp k)], eqs, 169, false⟩
theorem tourref2_Points.cok (k : Nat) : CtxOk PR (tourref2_Points.cx k) := ctx_ok tysOk eqsOk (FnsOk.cons (tourref2_Least.ok k) (FnsOk.cons (tourref2_Way.ok k) (FnsOk.cons (tourref2_Out.ok k) (FnsOk.cons (tourref2_Facing.ok k) (FnsOk.cons (tourref2_sub.ok k) (FnsOk.cons (tourref2_clip.ok k) (FnsOk.cons (tourref2_depth.ok k) (FnsOk.cons (tourref2_Far.ok k) FnsOk.nil))))))))
noncomputable def tourref2_Points.c1p (a0 : (List V22)) (a1 : (List V22)) (y1 : (Bool × V22)) (y3 : V22) : SL := ⟨[(0, (.val T24 a0)), (1, (.val T24 a1)), (5, (.val .ptr ⟨0, 0, (0 : Int), 0, 0⟩)), (6, (.val .ptr ⟨1, 0, (0 : Int), 0, 0⟩)), (7, (.val T24 a0)), (8, (.val T24 a1)), (9, (.val T2 (0 : Int))), (35, (.val T4 y1.1))], [(0, .cells (.pair T4 T22) y1), (1, .cells T22 y3)]⟩
noncomputable def tourref2_Points.c1q (y1 : (Bool × V22)) (y3 : V22) (o : ((List V22) × ((List V22) × Int))) : SL := (fun v => ⟨[(5, (.val .ptr ⟨0, 0, (0 : Int), 0, 0⟩)), (6, (.val .ptr ⟨1, 0, (0 : Int), 0, 0⟩)), (7, (.val T24 v.1)), (8, (.val T24 v.2.1)), (9, (.val T2 v.2.2))], [(0, .cells (.pair T4 T22) y1), (1, .cells T22 y3)]⟩) o
noncomputable def tourref2_Points.c1x (o : ((List V22) × ((List V22) × Int))) : Ex := (fun _ => .normal) o
noncomputable def tourref2_Points.c1n (o : ((List V22) × ((List V22) × Int))) : Nat := (fun _ => 2) o
theorem tourref2_Points.c1_ok (k : Nat) (a0 : (List V22)) (a1 : (List V22)) (y1 : (Bool × V22)) (y3 : V22) : Owp (tourref2_Points.c1 k a0 a1 y1) fun o => Triple PR (tourref2_Points.cx k) (sub tourref2_Points.code [1, 1, 1, 1, 0, 1]) 2 (tourref2_Points.c1p a0 a1 y1 y3) (tourref2_Points.c1x o) (tourref2_Points.c1n o) (tourref2_Points.c1q y1 y3 o) := by
  unfold tourref2_Points.c1; exact
   Owp.bif (fun e5 =>
   Owp.some (triple_way (tourref2_Points.cok k) hmix [.dec true] [] [(0, 0), (1, 1)] (via (finP (And.intro trivial e5) .normal [(0, 0), (1, 1)] (tourref2_Points.c1q y1 y3 (a1, a0, (1 : Int)))) (by kernel_rfl)))) (fun e5 =>
   Owp.some (triple_way (tourref2_Points.cok k) hmix [.dec false] [] [(0, 0), (1, 1)] (via (finP (And.intro trivial e5) .normal [(0, 0), (1, 1)] (tourref2_Points.c1q y1 y3 (a0, a1, (0 : Int)))) (by kernel_rfl))))
noncomputable def tourref2_Points.c2p (o6 : ((List V22) × ((List V22) × Int))) (y1 : (Bool × V22)) (y3 : V22) (y11 : V22) (y13 : Int) (y20 : ((List V22) × Bool)) : SL := ⟨[(5, (.val .ptr ⟨0, 0, (0 : Int), 0, 0⟩)), (6, (.val .ptr ⟨1, 0, (0 : Int), 0, 0⟩)), (7, (.val T24 o6.1)), (8, (.val T24 o6.2.1)), (10, (.val .ptr ⟨2, 0, (0 : Int), 0, 0⟩)), (11, (.val .ptr ⟨3, 0, (0 : Int), 0, 0⟩)), (12, (.val .ptr ⟨4, 0, (0 : Int), 0, 0⟩)), (14, (.val T2 (imul .i64 (iadd .i64 (imul .i64 (iadd .i64 (imul .i64 (8 : Int) o6.2.2) y1.2.1) (8 : Int)) y13) (2 : Int)))), (15, (.val .ptr ⟨5, 0, (0 : Int), 0, 0⟩)), (16, (.val T4 y20.2)), (89, (.val T4 y20.2))], [(0, .cells (.pair T4 T22) y1), (1, .cells T22 y3), (2, .cells T22 (el Z22 o6.1 y1.2.1)), (3, .cells T22 (el Z22 o6.1 (irem (iadd .i64 y1.2.1 (1 : Int)) (len o6.1)))), (4, .cells T22 y11), (5, .cells (.arr 2 T22) y20.1)]⟩
noncomputable def tourref2_Points.c2q (o6 : ((List V22) × ((List V22) × Int))) (y1 : (Bool × V22)) (y3 : V22) (y11 : V22) (y13 : Int) (o : (Bool × (List V22))) : SL := (fun v => ⟨[(5, (.val .ptr ⟨0, 0, (0 : Int), 0, 0⟩)), (6, (.val .ptr ⟨1, 0, (0 : Int), 0, 0⟩)), (7, (.val T24 o6.1)), (8, (.val T24 o6.2.1)), (12, (.val .ptr ⟨2, 0, (0 : Int), 0, 0⟩)), (14, (.val T2 (imul .i64 (iadd .i64 (imul .i64 (iadd .i64 (imul .i64 (8 : Int) o6.2.2) y1.2.1) (8 : Int)) y13) (2 : Int)))), (15, (.val .ptr ⟨3, 0, (0 : Int), 0, 0⟩)), (16, (.val T4 v.1))], [(0, .cells (.pair T4 T22) y1), (1, .cells T22 y3), (2, .cells T22 y11), (3, .cells (.arr 2 T22) v.2)]⟩) o
noncomputable def tourref2_Points.c2x (o : (Bool × (List V22))) : Ex := (fun _ => .normal) o
noncomputable def tourref2_Points.c2n (o : (Bool × (List V22))) : Nat := (fun _ => 4) o
theorem tourref2_Points.c2_ok (k : Nat) (o6 : ((List V22) × ((List V22) × Int))) (y1 : (Bool × V22)) (y3 : V22) (y11 : V22) (y13 : Int) (y20 : ((List V22) × Bool)) : Owp (tourref2_Points.c2 k o6 y1 y20) fun o => Triple PR (tourref2_Points.cx k) (sub tourref2_Points.code [1, 1, 1, 1, 1, 1, 1, 1, 1, 0, 1]) 6 (tourref2_Points.c2p o6 y1 y3 y11 y13 y20) (tourref2_Points.c2x o) (tourref2_Points.c2n o) (tourref2_Points.c2q o6 y1 y3 y11 y13 o) := by
  unfold tourref2_Points.c2; exact
   Owp.bif (fun e22 =>
   Owp.bnd fun y23 e24 =>
    Owp.bnd fun y25 e26 =>
    Owp.some (triple_way (tourref2_Points.cok k) hmix [.dec true, .res (.one (.dp T22)) y23, .res (.more (.dp (.arr 2 T22)) (.one (.dp T4))) y25] [] [(0, 0), (1, 1), (2, 4), (3, 5)] (via (finP (And.intro (And.intro (And.intro trivial e22) e24) e26) .normal [(0, 0), (1, 1), (2, 4), (3, 5)] (tourref2_Points.c2q o6 y1 y3 y11 y13 (y25.2, y25.1))) (by kernel_rfl)))) (fun e22 =>
   Owp.some (triple_way (tourref2_Points.cok k) hmix [.dec false] [] [(0, 0), (1, 1), (2, 4), (3, 5)] (via (finP (And.intro trivial e22) .normal [(0, 0), (1, 1), (2, 4), (3, 5)] (tourref2_Points.c2q o6 y1 y3 y11 y13 (y20.2, y20.1))) (by kernel_rfl))))
noncomputable def tourref2_Points.c4p (o6 : ((List V22) × ((List V22) × Int))) (o27 : (Bool × (List V22))) (v29 : Int) (v30 : (List (V22 × (V22 × V22)))) (y1 : (Bool × V22)) (y3 : V22) (y11 : V22) (y13 : Int) (y33 : (Int × Bool)) : SL := ⟨[(5, (.val .ptr ⟨0, 0, (0 : Int), 0, 0⟩)), (6, (.val .ptr ⟨1, 0, (0 : Int), 0, 0⟩)), (7, (.val T24 o6.1)), (8, (.val T24 o6.2.1)), (12, (.val .ptr ⟨2, 0, (0 : Int), 0, 0⟩)), (14, (.val T2 (imul .i64 (iadd .i64 (imul .i64 (iadd .i64 (imul .i64 (8 : Int) o6.2.2) y1.2.1) (8 : Int)) y13) (2 : Int)))), (15, (.val .ptr ⟨3, 0, (0 : Int), 0, 0⟩)), (16, (.val T4 o27.1)), (17, (.val .own (4 : Nat))), (18, (.val T2 v29)), (19, (.val .ptr ⟨5, 0, (0 : Int), 0, 0⟩)), (20, (.val T2 y33.1)), (21, (.val T4 y33.2)), (99, (.val (.arr 2 T22) o27.2)), (100, (.val T2 v29))], [(0, .cells (.pair T4 T22) y1), (1, .cells T22 y3), (2, .cells T22 y11), (3, .cells (.arr 2 T22) o27.2), (4, .row (.pair T22 (.pair T22 T22)) v30 98), (5, .cells T22 (el Z22 o27.2 v29))]⟩
noncomputable def tourref2_Points.c4q (o6 : ((List V22) × ((List V22) × Int))) (o27 : (Bool × (List V22))) (v29 : Int) (v30 : (List (V22 × (V22 × V22)))) (y1 : (Bool × V22)) (y3 : V22) (y11 : V22) (y13 : Int) (y33 : (Int × Bool)) (o : Bool) : SL := (fun v => ⟨[(5, (.val .ptr ⟨0, 0, (0 : Int), 0, 0⟩)), (6, (.val .ptr ⟨1, 0, (0 : Int), 0, 0⟩)), (7, (.val T24 o6.1)), (8, (.val T24 o6.2.1)), (12, (.val .ptr ⟨2, 0, (0 : Int), 0, 0⟩)), (14, (.val T2 (imul .i64 (iadd .i64 (imul .i64 (iadd .i64 (imul .i64 (8 : Int) o6.2.2) y1.2.1) (8 : Int)) y13) (2 : Int)))), (15, (.val .ptr ⟨3, 0, (0 : Int), 0, 0⟩)), (16, (.val T4 o27.1)), (17, (.val .own (4 : Nat))), (18, (.val T2 v29)), (19, (.val .ptr ⟨5, 0, (0 : Int), 0, 0⟩)), (20, (.val T2 y33.1)), (99, (.val (.arr 2 T22) o27.2)), (100, (.val T2 v29)), (125, (.val T4 v))], [(0, .cells (.pair T4 T22) y1), (1, .cells T22 y3), (2, .cells T22 y11), (3, .cells (.arr 2 T22) o27.2), (4, .row (.pair T22 (.pair T22 T22)) v30 98), (5, .cells T22 (el Z22 o27.2 v29))]⟩) o
noncomputable def tourref2_Points.c4x (o : Bool) : Ex := (fun _ => .normal) o
noncomputable def tourref2_Points.c4n (o : Bool) : Nat := (fun _ => 6) o
theorem tourref2_Points.c4_ok (k : Nat) (o6 : ((List V22) × ((List V22) × Int))) (o27 : (Bool × (List V22))) (v29 : Int) (v30 : (List (V22 × (V22 × V22)))) (y1 : (Bool × V22)) (y3 : V22) (y11 : V22) (y13 : Int) (y33 : (Int × Bool)) : Owp (tourref2_Points.c4 k o27 v29 y33) fun o => Triple PR (tourref2_Points.cx k) (sub tourref2_Points.code [1, 1, 1, 1, 1, 1, 1, 1, 1, 1, 1, 0, 1, 0, 0, 1, 1, 0, 0, 1, 1, 0]) 6 (tourref2_Points.c4p o6 o27 v29 v30 y1 y3 y11 y13 y33) (tourref2_Points.c4x o) (tourref2_Points.c4n o) (tourref2_Points.c4q o6 o27 v29 v30 y1 y3 y11 y13 y33 o) := by
  unfold tourref2_Points.c4; exact
   Owp.bif (fun e35 =>
   Owp.bif (fun e36 =>
    Owp.bif (fun e37 =>
     Owp.some (triple_way (tourref2_Points.cok k) hmix [.dec true, .dec true, .dec true, .dec true, .dec true, .dec true, .dec true, .dec true, .dec true, .dec true, .dec true, .dec true] [] [(0, 0), (1, 1), (2, 2), (3, 3), (4, 4), (5, 5)] (via (finP (And.intro (And.intro (And.intro (And.intro (And.intro (And.intro (And.intro (And.intro (And.intro (And.intro (And.intro trivial e35) e35) e36) e36) e36) e37) e37) e37) e37) (And.intro e36 e37)) e36) .normal [(0, 0), (1, 1), (2, 2), (3, 3), (4, 4), (5, 5)] (tourref2_Points.c4q o6 o27 v29 v30 y1 y3 y11 y13 y33 true)) (by kernel_rfl)))) (fun e37 =>
     Owp.some (triple_way (tourref2_Points.cok k) hmix [.dec true, .dec true, .dec true, .dec true, .dec true, .dec false, .dec false, .dec false, .dec false, .dec true, .dec false, .dec true] [] [(0, 0), (1, 1), (2, 2), (3, 3), (4, 4), (5, 5)] (via (finP (And.intro (And.intro (And.intro (And.intro (And.intro (And.intro (And.intro (And.intro (And.intro (And.intro (And.intro trivial e35) e35) e36) e36) e36) e37) (And.intro e37 (by decide : inR (0 : Int) 2))) (And.intro e37 (by decide : inR (0 : Int) 2))) e37) (And.intro e36 e37)) e36) .normal [(0, 0), (1, 1), (2, 2), (3, 3), (4, 4), (5, 5)] (tourref2_Points.c4q o6 o27 v29 v30 y1 y3 y11 y13 y33 (!(Ty.eqb T22 (el Z22 o27.2 v29) (el Z22 o27.2 (0 : Int)))))) (by kernel_rfl))))) (fun e36 =>
    Owp.some (triple_way (tourref2_Points.cok k) hmix [.dec true, .dec true, .dec false, .dec false, .dec false, .dec true, .dec true, .dec true, .dec true, .dec false, .dec true, .dec false] [] [(0, 0), (1, 1), (2, 2), (3, 3), (4, 4), (5, 5)] (via (finP (And.intro (And.intro (And.intro (And.intro (And.intro (And.intro (And.intro trivial e35) e35) e36) e36) e36) e36) e36) .normal [(0, 0), (1, 1), (2, 2), (3, 3), (4, 4), (5, 5)] (tourref2_Points.c4q o6 o27 v29 v30 y1 y3 y11 y13 y33 false)) (by kernel_rfl))))) (fun e35 =>
   Owp.some (triple_way (tourref2_Points.cok k) hmix [.dec false, .dec false, .dec false, .dec false, .dec false, .dec true, .dec true, .dec true, .dec true, .dec false, .dec true, .dec false] [] [(0, 0), (1, 1), (2, 2), (3, 3), (4, 4), (5, 5)] (via (finP (And.intro (And.intro (And.intro (And.intro (And.intro (And.intro (And.intro trivial e35) e35) ff) ff) ff) ff) ff) .normal [(0, 0), (1, 1), (2, 2), (3, 3), (4, 4), (5, 5)] (tourref2_Points.c4q o6 o27 v29 v30 y1 y3 y11 y13 y33 false)) (by kernel_rfl))))
noncomputable def tourref2_Points.c3p (o6 : ((List V22) × ((List V22) × Int))) (o27 : (Bool × (List V22))) (y1 : (Bool × V22)) (y3 : V22) (y11 : V22) (y13 : Int) (v29 : Int) (v30 : (List (V22 × (V22 × V22)))) : SL := ⟨[(5, (.val .ptr ⟨0, 0, (0 : Int), 0, 0⟩)), (6, (.val .ptr ⟨1, 0, (0 : Int), 0, 0⟩)), (7, (.val T24 o6.1)), (8, (.val T24 o6.2.1)), (12, (.val .ptr ⟨2, 0, (0 : Int), 0, 0⟩)), (14, (.val T2 (imul .i64 (iadd .i64 (imul .i64 (iadd .i64 (imul .i64 (8 : Int) o6.2.2) y1.2.1) (8 : Int)) y13) (2 : Int)))), (15, (.val .ptr ⟨3, 0, (0 : Int), 0, 0⟩)), (16, (.val T4 o27.1)), (17, (.val .own (4 : Nat))), (99, (.val (.arr 2 T22) o27.2)), (100, (.val T2 v29))], [(0, .cells (.pair T4 T22) y1), (1, .cells T22 y3), (2, .cells T22 y11), (3, .cells (.arr 2 T22) o27.2), (4, .row (.pair T22 (.pair T22 T22)) v30 98)]⟩
noncomputable def tourref2_Points.c3q (o6 : ((List V22) × ((List V22) × Int))) (y1 : (Bool × V22)) (y3 : V22) (y11 : V22) (y13 : Int) (o : (List (V22 × (V22 × V22)))) : SL := (fun v => ⟨[(5, (.val .ptr ⟨0, 0, (0 : Int), 0, 0⟩)), (6, (.val .ptr ⟨1, 0, (0 : Int), 0, 0⟩)), (7, (.val T24 o6.1)), (8, (.val T24 o6.2.1)), (12, (.val .ptr ⟨2, 0, (0 : Int), 0, 0⟩)), (14, (.val T2 (imul .i64 (iadd .i64 (imul .i64 (iadd .i64 (imul .i64 (8 : Int) o6.2.2) y1.2.1) (8 : Int)) y13) (2 : Int)))), (17, (.val .own (3 : Nat)))], [(0, .cells (.pair T4 T22) y1), (1, .cells T22 y3), (2, .cells T22 y11), (3, .row (.pair T22 (.pair T22 T22)) v 98)]⟩) o
noncomputable def tourref2_Points.c3x (o : (List (V22 × (V22 × V22)))) : Ex := (fun _ => (.exit 0)) o
noncomputable def tourref2_Points.c3n (o : (List (V22 × (V22 × V22)))) : Nat := (fun _ => 4) o
theorem tourref2_Points.c3_ok (k : Nat) (o6 : ((List V22) × ((List V22) × Int))) (o27 : (Bool × (List V22))) (y1 : (Bool × V22)) (y3 : V22) (y11 : V22) (y13 : Int) : ∀ (n : Nat) (v29 : Int) (v30 : (List (V22 × (V22 × V22)))), Owp (tourref2_Points.c3 k o6 o27 y1 y3 y13 n v29 v30) fun o => LTriple PR (tourref2_Points.cx k) (sub tourref2_Points.code [1, 1, 1, 1, 1, 1, 1, 1, 1, 1, 1, 0, 1, 0, 0]) 5 (tourref2_Points.c3p o6 o27 y1 y3 y11 y13 v29 v30) (tourref2_Points.c3x o) (tourref2_Points.c3n o) (tourref2_Points.c3q o6 y1 y3 y11 y13 o)
  | 0, _, _ => fun _ h => nomatch h
  | n + 1, v29, v30 => Owp.of (tourref2_Points.c3.eq_2 ..) (
   Owp.bif (fun e31 =>
   Owp.req fun h32 =>
    Owp.bnd fun y33 e34 =>
    Owp.bnd fun o38 e39 =>
    Owp.bif (fun e40 =>
    Owp.req fun h41 =>
     fun y hy => loop_back (tourref2_Points.cok k) hmix 5 (tourref2_Points.c3p o6 o27 y1 y3 y11 y13 (iadd .i64 v29 (1 : Int)) (v30 ++ [((el Z22 o27.2 v29), y3, y33.1, (iadd .i64 (imul .i64 (iadd .i64 (imul .i64 (iadd .i64 (imul .i64 (8 : Int) o6.2.2) y1.2.1) (8 : Int)) y13) (2 : Int)) v29), ())])) [.dec true, .res (.more (.dp T2) (.one (.dp T4))) y33, .cutR 17 ⟨[], [(0, 0), (1, 1), (2, 2), (3, 3), (4, 4), (5, 8)], (tourref2_Points.c4p o6 o27 v29 v30 y1 y3 y11 y13 y33), 6, .normal, (tourref2_Points.c4q o6 o27 v29 v30 y1 y3 y11 y13 y33 o38), 6⟩, .dec true, .dec true] [] [(0, 0), (1, 1), (2, 2), (3, 3), (4, 15)] (via (cutP (And.intro (And.intro (And.intro trivial e31) h32) e34) [(0, 0), (1, 1), (2, 2), (3, 3), (4, 4), (5, 8)] (tourref2_Points.c4p o6 o27 v29 v30 y1 y3 y11 y13 y33) (((tourref2_Points.c4_ok k o6 o27 v29 v30 y1 y3 y11 y13 y33).ap e39)) (finP (And.intro (And.intro trivial e40) h41) .normal [(0, 0), (1, 1), (2, 2), (3, 3), (4, 15)] (tourref2_Points.c3p o6 o27 y1 y3 y11 y13 (iadd .i64 v29 (1 : Int)) (v30 ++ [((el Z22 o27.2 v29), y3, y33.1, (iadd .i64 (imul .i64 (iadd .i64 (imul .i64 (iadd .i64 (imul .i64 (8 : Int) o6.2.2) y1.2.1) (8 : Int)) y13) (2 : Int)) v29), ())])))) (by kernel_rfl)) ((tourref2_Points.c3_ok k o6 o27 y1 y3 y11 y13 n (iadd .i64 v29 (1 : Int)) (v30 ++ [((el Z22 o27.2 v29), y3, y33.1, (iadd .i64 (imul .i64 (iadd .i64 (imul .i64 (iadd .i64 (imul .i64 (8 : Int) o6.2.2) y1.2.1) (8 : Int)) y13) (2 : Int)) v29), ())])).ap hy)) (fun e40 =>
    fun y hy => loop_back (tourref2_Points.cok k) hmix 5 (tourref2_Points.c3p o6 o27 y1 y3 y11 y13 (iadd .i64 v29 (1 : Int)) v30) [.dec true, .res (.more (.dp T2) (.one (.dp T4))) y33, .cutR 17 ⟨[], [(0, 0), (1, 1), (2, 2), (3, 3), (4, 4), (5, 8)], (tourref2_Points.c4p o6 o27 v29 v30 y1 y3 y11 y13 y33), 6, .normal, (tourref2_Points.c4q o6 o27 v29 v30 y1 y3 y11 y13 y33 o38), 6⟩, .dec false] [] [(0, 0), (1, 1), (2, 2), (3, 3), (4, 4)] (via (cutP (And.intro (And.intro (And.intro trivial e31) h32) e34) [(0, 0), (1, 1), (2, 2), (3, 3), (4, 4), (5, 8)] (tourref2_Points.c4p o6 o27 v29 v30 y1 y3 y11 y13 y33) (((tourref2_Points.c4_ok k o6 o27 v29 v30 y1 y3 y11 y13 y33).ap e39)) (finP (And.intro trivial e40) .normal [(0, 0), (1, 1), (2, 2), (3, 3), (4, 4)] (tourref2_Points.c3p o6 o27 y1 y3 y11 y13 (iadd .i64 v29 (1 : Int)) v30))) (by kernel_rfl)) ((tourref2_Points.c3_ok k o6 o27 y1 y3 y11 y13 n (iadd .i64 v29 (1 : Int)) v30).ap hy))) (fun e31 =>
   Owp.some (loop_exit (tourref2_Points.cok k) hmix [.dec false] [] [(0, 0), (1, 1), (2, 2), (3, 4)] (exne 0) (via (finP (And.intro trivial e31) (.exit 0) [(0, 0), (1, 1), (2, 2), (3, 4)] (tourref2_Points.c3q o6 y1 y3 y11 y13 v30)) (by kernel_rfl)))))
theorem tourref2_Points.way (k : Nat) (a0 : (List V22)) (a1 : (List V22)) : Owp (tourref2_Points k a0 a1) fun y => ∃ answers cmds, exec PR (tourref2_Points.cx k) tourref2_Points.code 0 (entry (.pair T24 (.pair T24 .unit)) (a0, a1, ())).st answers (Ret (tourref2_Points.cx k) Try.f71 cmds (.one (.ow (.pair T22 (.pair T22 T22)) 98)) y) := by
  unfold tourref2_Points; exact
   Owp.bnd fun y1 e2 =>
   Owp.bnd fun y3 e4 =>
   Owp.bnd fun o6 e7 =>
   Owp.req fun h8 =>
   Owp.req fun h9 =>
   Owp.req fun h10 =>
   Owp.bnd fun y11 e12 =>
   Owp.bnd fun y13 e14 =>
   Owp.req fun h15 =>
   Owp.req fun h16 =>
   Owp.req fun h17 =>
   Owp.bnd fun y18 e19 =>
   Owp.bnd fun y20 e21 =>
   Owp.bnd fun o27 e28 =>
   Owp.bnd fun o42 e43 =>
   Owp.bif (fun e44 =>
   Owp.bnd fun y45 e46 =>
    Owp.req fun h47 =>
    Owp.bnd fun y48 e49 =>
    Owp.req fun h50 =>
    Owp.some (⟨[.res (.one (.dp (.pair T4 T22))) y1, .res (.one (.dp T22)) y3, .cut ⟨[], [(0, 4), (1, 10)], (tourref2_Points.c1p a0 a1 y1 y3), 2, .normal, (tourref2_Points.c1q y1 y3 o6), 2⟩, .res (.one (.dp T22)) y11, .res (.one (.dp T2)) y13, .res (.one (.dp T22)) y18, .res (.more (.dp (.arr 2 T22)) (.one (.dp T4))) y20, .cut ⟨[], [(0, 0), (1, 1), (2, 20), (3, 21), (4, 22), (5, 61)], (tourref2_Points.c2p o6 y1 y3 y11 y13 y20), 6, .normal, (tourref2_Points.c2q o6 y1 y3 y11 y13 o27), 4⟩, .cut ⟨[.own 17 (.pair T22 (.pair T22 T22)) 98], [(0, 0), (1, 1), (2, 2), (3, 3), (4, 7)], (tourref2_Points.c3p o6 o27 y1 y3 y11 y13 (0 : Int) []), 5, (.exit 0), (tourref2_Points.c3q o6 y1 y3 y11 y13 o42), 4⟩, .dec true, .res (.one (.dp T2)) y45, .res (.more (.dp T2) (.one (.dp T4))) y48, .dec true], [], via (cutP (And.intro (And.intro trivial e2) e4) [(0, 4), (1, 10)] (tourref2_Points.c1p a0 a1 y1 y3) (((tourref2_Points.c1_ok k a0 a1 y1 y3).ap e7)) (cutP (And.intro (And.intro (And.intro (And.intro (And.intro (And.intro (And.intro (And.intro (And.intro (And.intro trivial h8) h9) h10) e12) e14) h15) h16) h17) e19) e21) [(0, 0), (1, 1), (2, 20), (3, 21), (4, 22), (5, 61)] (tourref2_Points.c2p o6 y1 y3 y11 y13 y20) (((tourref2_Points.c2_ok k o6 y1 y3 y11 y13 y20).ap e28)) (cutP trivial [(0, 0), (1, 1), (2, 2), (3, 3), (4, 7)] (tourref2_Points.c3p o6 o27 y1 y3 y11 y13 (0 : Int) []) (((tourref2_Points.c3_ok k o6 o27 y1 y3 y11 y13 k (0 : Int) []).ap e43).triple) (retP (And.intro (And.intro (And.intro (And.intro (And.intro trivial e44) e46) h47) e49) h50) (.one (.ow (.pair T22 (.pair T22 T22)) 98)) ((o42 ++ [((el Z22 o6.2.1 y45), y3, y48.1, (imul .i64 (iadd .i64 (imul .i64 (iadd .i64 (imul .i64 (8 : Int) o6.2.2) y1.2.1) (8 : Int)) y13) (2 : Int)), ())]) : (List (V22 × (V22 × V22)))))))) (by kernel_rfl)⟩)) (fun e44 =>
   Owp.some (⟨[.res (.one (.dp (.pair T4 T22))) y1, .res (.one (.dp T22)) y3, .cut ⟨[], [(0, 4), (1, 10)], (tourref2_Points.c1p a0 a1 y1 y3), 2, .normal, (tourref2_Points.c1q y1 y3 o6), 2⟩, .res (.one (.dp T22)) y11, .res (.one (.dp T2)) y13, .res (.one (.dp T22)) y18, .res (.more (.dp (.arr 2 T22)) (.one (.dp T4))) y20, .cut ⟨[], [(0, 0), (1, 1), (2, 20), (3, 21), (4, 22), (5, 61)], (tourref2_Points.c2p o6 y1 y3 y11 y13 y20), 6, .normal, (tourref2_Points.c2q o6 y1 y3 y11 y13 o27), 4⟩, .cut ⟨[.own 17 (.pair T22 (.pair T22 T22)) 98], [(0, 0), (1, 1), (2, 2), (3, 3), (4, 7)], (tourref2_Points.c3p o6 o27 y1 y3 y11 y13 (0 : Int) []), 5, (.exit 0), (tourref2_Points.c3q o6 y1 y3 y11 y13 o42), 4⟩, .dec false], [], via (cutP (And.intro (And.intro trivial e2) e4) [(0, 4), (1, 10)] (tourref2_Points.c1p a0 a1 y1 y3) (((tourref2_Points.c1_ok k a0 a1 y1 y3).ap e7)) (cutP (And.intro (And.intro (And.intro (And.intro (And.intro (And.intro (And.intro (And.intro (And.intro (And.intro trivial h8) h9) h10) e12) e14) h15) h16) h17) e19) e21) [(0, 0), (1, 1), (2, 20), (3, 21), (4, 22), (5, 61)] (tourref2_Points.c2p o6 y1 y3 y11 y13 y20) (((tourref2_Points.c2_ok k o6 y1 y3 y11 y13 y20).ap e28)) (cutP trivial [(0, 0), (1, 1), (2, 2), (3, 3), (4, 7)] (tourref2_Points.c3p o6 o27 y1 y3 y11 y13 (0 : Int) []) (((tourref2_Points.c3_ok k o6 o27 y1 y3 y11 y13 k (0 : Int) []).ap e43).triple) (retP (And.intro trivial e44) (.one (.ow (.pair T22 (.pair T22 T22)) 98)) (o42 : (List (V22 × (V22 × V22)))))))) (by kernel_rfl)⟩))
theorem tourref2_Points.ok (k : Nat) : FnOk PR 71 (tourref2_Points.sp k) :=
  fn_ok (tourref2_Points.cok k) hmix Try.func71 (code := tourref2_Points.code) (by kernel_rfl) (by kernel_rfl) (by kernel_rfl) rfl (by kernel_rfl) (by kernel_rfl) (by kernel_rfl) (fun x => Nat.le_of_ble_eq_true (by kernel_rfl)) fun x y hy => (tourref2_Points.way k x.1 x.2.1).ap hy

end Go.Proofs.T1
