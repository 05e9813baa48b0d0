import Derived.Test.YtddbhngnhegndaaG0
import Derived.Test.YtddbhngnhegndaaG1
import Derived.Test.YtddbhngnhegndaaG2
import Derived.Test.YtddbhngnhegndaaG3
namespace Go.Proofs.T1
open Go Go.Sx Go.Proofs
set_option maxRecDepth 100000
set_option linter.unusedVariables false
/-! tourney/tourmake.body -/
noncomputable def tourmake_body.code : Code := Func.cd Try.f35
def tourmake_body.c1 (k : Nat) (y7 : (((List Int) × Unit) × Int)) (y9 : (((List Int) × Unit) × Int)) : Option (Int) :=
  bif' (ieq y9.2 0)
  (some 0)
  (some y7.2)
def tourmake_body (k : Nat) (a0 : ((List Int) × Unit)) : Option (((List Int) × Unit) × V39) :=
  bnd (tourmake_poly k a0) fun y1 =>
  bnd (tourmake_Stream_Next k y1.1 41) fun y3 =>
  bnd (tourmake_Stream_Next k y3.1 41) fun y5 =>
  bnd (tourmake_Stream_Next k y5.1 65536) fun y7 =>
  bnd (tourmake_Stream_Next k y7.1 3) fun y9 =>
  bnd (tourmake_body.c1 k y7 y9) fun o12 =>
  bnd (tourmake_Stream_Next k y9.1 65537) fun y14 =>
  bnd (tourmake_Stream_Next k y14.1 65537) fun y16 =>
  bnd (tourmake_Stream_Next k y16.1 4) fun y18 =>
  bif' (ieq y18.2 0)
  (some (y18.1, (((iquo .i64 (imul .i64 (isub .i64 y3.2 20) 65536) 2), (iquo .i64 (imul .i64 (isub .i64 y5.2 20) 65536) 2), ()), (0, 0, ()), o12, 0, 0, 0, y14.2, y16.2, y1.2, false, 0, ())))
  (bnd (tourmake_Stream_Next k y18.1 21) fun y21 =>
   bnd (tourmake_Stream_Next k y21.1 21) fun y23 =>
   bnd (tourmake_Stream_Next k y23.1 65536) fun y25 =>
   bnd (tourmake_Stream_Next k y25.1 8) fun y27 =>
   bnd (tourmake_Stream_Next k y27.1 30) fun y29 =>
   some (y29.1, (((iquo .i64 (imul .i64 (isub .i64 y3.2 20) 65536) 2), (iquo .i64 (imul .i64 (isub .i64 y5.2 20) 65536) 2), ()), ((iquo .i64 (imul .i64 (isub .i64 y21.2 10) 65536) 2), (iquo .i64 (imul .i64 (isub .i64 y23.2 10) 65536) 2), ()), o12, (isub .i64 y25.2 32768), (imul .i64 (iadd .i64 1 y27.2) 65536), (imul .i64 (iadd .i64 1 y29.2) 65536), y14.2, y16.2, y1.2, false, 0, ())))
noncomputable def tourmake_body.sp (k : Nat) : Go.Sx.Spec := ⟨(.pair (.ref (.pair T22 .unit)) .unit), (.more (.dp (.pair T22 .unit)) (.one (.dp T39))), fun x => tourmake_body k x.1, true⟩
noncomputable def tourmake_body.cx (k : Nat) : Go.Sx.Ctx := ⟨tys, [(46, tourmake_poly.sp k), (62, tourmake_Stream_Next.sp k)], eqs, 63, true⟩
theorem tourmake_body.cok (k : Nat) : CtxOk PR (tourmake_body.cx k) := ctx_ok tysOk eqsOk (FnsOk.cons (tourmake_poly.ok k) (FnsOk.cons (tourmake_Stream_Next.ok k) FnsOk.nil))
noncomputable def tourmake_body.c1p (y1 : (((List Int) × Unit) × (List V28))) (y3 : (((List Int) × Unit) × Int)) (y5 : (((List Int) × Unit) × Int)) (y7 : (((List Int) × Unit) × Int)) (y9 : (((List Int) × Unit) × Int)) : SL := ⟨[(0, (.val .ptr ⟨0, 0, (0 : Int), 0, 0⟩)), (2, (.val .ptr ⟨1, 0, (0 : Int), 0, 0⟩)), (3, (.val .ptr ⟨2, 0, (0 : Int), 0, 0⟩)), (24, (.val T4 (ieq y9.2 (0 : Int))))], [(0, .cells (.pair T22 .unit) y9.1), (1, .cells T39 (((0 : Int), (0 : Int), ()), ((0 : Int), (0 : Int), ()), (0 : Int), (0 : Int), (0 : Int), (0 : Int), (0 : Int), (0 : Int), [], false, (0 : Int), ())), (2, .cells T39 (((iquo .i64 (imul .i64 (isub .i64 y3.2 (20 : Int)) (65536 : Int)) (2 : Int)), (iquo .i64 (imul .i64 (isub .i64 y5.2 (20 : Int)) (65536 : Int)) (2 : Int)), ()), ((0 : Int), (0 : Int), ()), y7.2, (0 : Int), (0 : Int), (0 : Int), (0 : Int), (0 : Int), y1.2, false, (0 : Int), ()))]⟩
noncomputable def tourmake_body.c1q (y1 : (((List Int) × Unit) × (List V28))) (y3 : (((List Int) × Unit) × Int)) (y5 : (((List Int) × Unit) × Int)) (y9 : (((List Int) × Unit) × Int)) (o : Int) : SL := (fun v => ⟨[(0, (.val .ptr ⟨0, 0, (0 : Int), 0, 0⟩)), (2, (.val .ptr ⟨1, 0, (0 : Int), 0, 0⟩)), (3, (.val .ptr ⟨2, 0, (0 : Int), 0, 0⟩))], [(0, .cells (.pair T22 .unit) y9.1), (1, .cells T39 (((0 : Int), (0 : Int), ()), ((0 : Int), (0 : Int), ()), (0 : Int), (0 : Int), (0 : Int), (0 : Int), (0 : Int), (0 : Int), [], false, (0 : Int), ())), (2, .cells T39 (((iquo .i64 (imul .i64 (isub .i64 y3.2 (20 : Int)) (65536 : Int)) (2 : Int)), (iquo .i64 (imul .i64 (isub .i64 y5.2 (20 : Int)) (65536 : Int)) (2 : Int)), ()), ((0 : Int), (0 : Int), ()), v, (0 : Int), (0 : Int), (0 : Int), (0 : Int), (0 : Int), y1.2, false, (0 : Int), ()))]⟩) o
noncomputable def tourmake_body.c1x (o : Int) : Ex := (fun _ => .normal) o
noncomputable def tourmake_body.c1n (o : Int) : Nat := (fun _ => 3) o
theorem tourmake_body.c1_ok (k : Nat) (y1 : (((List Int) × Unit) × (List V28))) (y3 : (((List Int) × Unit) × Int)) (y5 : (((List Int) × Unit) × Int)) (y7 : (((List Int) × Unit) × Int)) (y9 : (((List Int) × Unit) × Int)) : Owp (tourmake_body.c1 k y7 y9) fun o => Triple PR (tourmake_body.cx k) (sub tourmake_body.code [1, 1, 1, 1, 0, 1]) 3 (tourmake_body.c1p y1 y3 y5 y7 y9) (tourmake_body.c1x o) (tourmake_body.c1n o) (tourmake_body.c1q y1 y3 y5 y9 o) := by
  unfold tourmake_body.c1; exact
   Owp.bif (fun e11 =>
   Owp.some (triple_way (tourmake_body.cok k) hmix [.dec true] [] [(0, 0), (1, 1), (2, 2)] (via (finP (And.intro trivial e11) .normal [(0, 0), (1, 1), (2, 2)] (tourmake_body.c1q y1 y3 y5 y9 (0 : Int))) (by kernel_rfl)))) (fun e11 =>
   Owp.some (triple_way (tourmake_body.cok k) hmix [.dec false] [] [(0, 0), (1, 1), (2, 2)] (via (finP (And.intro trivial e11) .normal [(0, 0), (1, 1), (2, 2)] (tourmake_body.c1q y1 y3 y5 y9 y7.2)) (by kernel_rfl))))
@[irreducible] noncomputable def tourmake_body.P (k : Nat) (a0 : ((List Int) × Unit)) (y : (((List Int) × Unit) × V39)) (answers : List Ans) (cmds : List Cmd) : Prop := exec PR (tourmake_body.cx k) tourmake_body.code 1 (entryW (.pair T22 .unit) .unit (a0, ())).st answers (RetW (tourmake_body.cx k) Try.f35 cmds (.pair T22 .unit) (.one (.dp T39)) y)
theorem tourmake_body.way (k : Nat) (a0 : ((List Int) × Unit)) : Owp (tourmake_body k a0) fun y => ∃ answers cmds, tourmake_body.P k a0 y answers cmds := by
  unfold tourmake_body; exact
   Owp.bnd fun y1 e2 =>
   Owp.bnd fun y3 e4 =>
   Owp.bnd fun y5 e6 =>
   Owp.bnd fun y7 e8 =>
   Owp.bnd fun y9 e10 =>
   Owp.bnd fun o12 e13 =>
   Owp.bnd fun y14 e15 =>
   Owp.bnd fun y16 e17 =>
   Owp.bnd fun y18 e19 =>
   Owp.bif (fun e20 =>
   Owp.some (⟨[.res (.more (.dp (.pair T22 .unit)) (.one (.dp T23))) y1, .res (.more (.dp (.pair T22 .unit)) (.one (.dp T2))) y3, .res (.more (.dp (.pair T22 .unit)) (.one (.dp T2))) y5, .res (.more (.dp (.pair T22 .unit)) (.one (.dp T2))) y7, .res (.more (.dp (.pair T22 .unit)) (.one (.dp T2))) y9, .cut ⟨[], [(0, 0), (1, 1), (2, 5)], (tourmake_body.c1p y1 y3 y5 y7 y9), 3, .normal, (tourmake_body.c1q y1 y3 y5 y9 o12), 3⟩, .res (.more (.dp (.pair T22 .unit)) (.one (.dp T2))) y14, .res (.more (.dp (.pair T22 .unit)) (.one (.dp T2))) y16, .res (.more (.dp (.pair T22 .unit)) (.one (.dp T2))) y18, .dec true], [], via (cutP (And.intro (And.intro (And.intro (And.intro (And.intro (And.intro (And.intro trivial e2) e4) (by decide : nz (2 : Int))) e6) (by decide : nz (2 : Int))) e8) e10) [(0, 0), (1, 1), (2, 5)] (tourmake_body.c1p y1 y3 y5 y7 y9) (((tourmake_body.c1_ok k y1 y3 y5 y7 y9).ap e13)) (retwP (And.intro (And.intro (And.intro (And.intro trivial e15) e17) e19) e20) (.pair T22 .unit) (y18.1 : ((List Int) × Unit)) (.one (.dp T39)) ((((iquo .i64 (imul .i64 (isub .i64 y3.2 (20 : Int)) (65536 : Int)) (2 : Int)), (iquo .i64 (imul .i64 (isub .i64 y5.2 (20 : Int)) (65536 : Int)) (2 : Int)), ()), ((0 : Int), (0 : Int), ()), o12, (0 : Int), (0 : Int), (0 : Int), y14.2, y16.2, y1.2, false, (0 : Int), ()) : V39))) (by kernel_rfl)⟩)) (fun e20 =>
   Owp.bnd fun y21 e22 =>
    Owp.bnd fun y23 e24 =>
    Owp.bnd fun y25 e26 =>
    Owp.bnd fun y27 e28 =>
    Owp.bnd fun y29 e30 =>
    Owp.some (⟨[.res (.more (.dp (.pair T22 .unit)) (.one (.dp T23))) y1, .res (.more (.dp (.pair T22 .unit)) (.one (.dp T2))) y3, .res (.more (.dp (.pair T22 .unit)) (.one (.dp T2))) y5, .res (.more (.dp (.pair T22 .unit)) (.one (.dp T2))) y7, .res (.more (.dp (.pair T22 .unit)) (.one (.dp T2))) y9, .cut ⟨[], [(0, 0), (1, 1), (2, 5)], (tourmake_body.c1p y1 y3 y5 y7 y9), 3, .normal, (tourmake_body.c1q y1 y3 y5 y9 o12), 3⟩, .res (.more (.dp (.pair T22 .unit)) (.one (.dp T2))) y14, .res (.more (.dp (.pair T22 .unit)) (.one (.dp T2))) y16, .res (.more (.dp (.pair T22 .unit)) (.one (.dp T2))) y18, .dec false, .res (.more (.dp (.pair T22 .unit)) (.one (.dp T2))) y21, .res (.more (.dp (.pair T22 .unit)) (.one (.dp T2))) y23, .res (.more (.dp (.pair T22 .unit)) (.one (.dp T2))) y25, .res (.more (.dp (.pair T22 .unit)) (.one (.dp T2))) y27, .res (.more (.dp (.pair T22 .unit)) (.one (.dp T2))) y29], [], via (cutP (And.intro (And.intro (And.intro (And.intro (And.intro (And.intro (And.intro trivial e2) e4) (by decide : nz (2 : Int))) e6) (by decide : nz (2 : Int))) e8) e10) [(0, 0), (1, 1), (2, 5)] (tourmake_body.c1p y1 y3 y5 y7 y9) (((tourmake_body.c1_ok k y1 y3 y5 y7 y9).ap e13)) (retwP (And.intro (And.intro (And.intro (And.intro (And.intro (And.intro (And.intro (And.intro (And.intro (And.intro (And.intro trivial e15) e17) e19) e20) e22) (by decide : nz (2 : Int))) e24) (by decide : nz (2 : Int))) e26) e28) e30) (.pair T22 .unit) (y29.1 : ((List Int) × Unit)) (.one (.dp T39)) ((((iquo .i64 (imul .i64 (isub .i64 y3.2 (20 : Int)) (65536 : Int)) (2 : Int)), (iquo .i64 (imul .i64 (isub .i64 y5.2 (20 : Int)) (65536 : Int)) (2 : Int)), ()), ((iquo .i64 (imul .i64 (isub .i64 y21.2 (10 : Int)) (65536 : Int)) (2 : Int)), (iquo .i64 (imul .i64 (isub .i64 y23.2 (10 : Int)) (65536 : Int)) (2 : Int)), ()), o12, (isub .i64 y25.2 (32768 : Int)), (imul .i64 (iadd .i64 (1 : Int) y27.2) (65536 : Int)), (imul .i64 (iadd .i64 (1 : Int) y29.2) (65536 : Int)), y14.2, y16.2, y1.2, false, (0 : Int), ()) : V39))) (by kernel_rfl)⟩))
theorem tourmake_body.ok (k : Nat) : FnOk PR 35 (tourmake_body.sp k) :=
  fnW_ok (t := (.pair T22 .unit)) (ps := .unit) (t' := (.pair T22 .unit)) (rs := (.one (.dp T39))) (g := fun x => tourmake_body k x.1) (tourmake_body.cok k) hmix Try.func35 (code := tourmake_body.code) (by kernel_rfl) (by kernel_rfl) (by kernel_rfl) (by kernel_rfl) (by kernel_rfl) (by kernel_rfl) (by kernel_rfl) (by kernel_rfl) (by kernel_rfl) (fun x => Nat.le_of_ble_eq_true (by kernel_rfl)) fun x y hy => match (tourmake_body.way k x.1).ap hy with | ⟨ans, cmds, h⟩ => ⟨ans, cmds, via h (by kernel_rfl)⟩

/-! tourney/tourmake.Body -/
noncomputable def tourmake_Body.code : Code := Func.cd Try.f12
def tourmake_Body (k : Nat) (a0 : (List Int)) : Option V39 :=
  bnd (tourmake_body k (a0, ())) fun y1 =>
  some y1.2
noncomputable def tourmake_Body.sp (k : Nat) : Go.Sx.Spec := ⟨(.pair T22 .unit), (.one (.dp T39)), fun x => tourmake_Body k x.1, false⟩
noncomputable def tourmake_Body.cx (k : Nat) : Go.Sx.Ctx := ⟨tys, [(35, tourmake_body.sp k)], eqs, 7, false⟩
theorem tourmake_Body.cok (k : Nat) : CtxOk PR (tourmake_Body.cx k) := ctx_ok tysOk eqsOk (FnsOk.cons (tourmake_body.ok k) FnsOk.nil)
theorem tourmake_Body.way (k : Nat) (a0 : (List Int)) : Owp (tourmake_Body k a0) fun y => ∃ answers cmds, exec PR (tourmake_Body.cx k) tourmake_Body.code 0 (entry (.pair T22 .unit) (a0, ())).st answers (Ret (tourmake_Body.cx k) Try.f12 cmds (.one (.dp T39)) y) := by
  unfold tourmake_Body; exact
   Owp.bnd fun y1 e2 =>
   Owp.some (⟨[.res (.more (.dp (.pair T22 .unit)) (.one (.dp T39))) y1], [], via (retP (And.intro trivial e2) (.one (.dp T39)) (y1.2 : V39)) (by kernel_rfl)⟩)
theorem tourmake_Body.ok (k : Nat) : FnOk PR 12 (tourmake_Body.sp k) :=
  fn_ok (tourmake_Body.cok k) hmix Try.func12 (code := tourmake_Body.code) (by kernel_rfl) (by kernel_rfl) (by kernel_rfl) rfl (by kernel_rfl) (by kernel_rfl) (by kernel_rfl) (fun x => Nat.le_of_ble_eq_true (by kernel_rfl)) fun x y hy => (tourmake_Body.way k x.1).ap hy

/-! tourney/body.within -/
noncomputable def body_within.code : Code := Func.cd Try.f73
def body_within (k : Nat) (a0 : V28) (a1 : Int) : Option Bool :=
  bif' (ige a0.1 (ineg .i64 a1))
  (bif' (ile a0.1 a1)
   (bif' (ige a0.2.1 (ineg .i64 a1))
    (some (ile a0.2.1 a1))
    (some false))
   (some false))
  (some false)
noncomputable def body_within.sp (k : Nat) : Go.Sx.Spec := ⟨(.pair T28 (.pair T2 .unit)), (.one (.dp T4)), fun x => body_within k x.1 x.2.1, false⟩
noncomputable def body_within.cx (k : Nat) : Go.Sx.Ctx := ⟨tys, [], eqs, 29, false⟩
theorem body_within.cok (k : Nat) : CtxOk PR (body_within.cx k) := ctx_ok tysOk eqsOk FnsOk.nil
theorem body_within.way (k : Nat) (a0 : V28) (a1 : Int) : Owp (body_within k a0 a1) fun y => ∃ answers cmds, exec PR (body_within.cx k) body_within.code 0 (entry (.pair T28 (.pair T2 .unit)) (a0, a1, ())).st answers (Ret (body_within.cx k) Try.f73 cmds (.one (.dp T4)) y) := by
  unfold body_within; exact
   Owp.bif (fun e1 =>
   Owp.bif (fun e2 =>
    Owp.bif (fun e3 =>
     Owp.some (⟨[.dec true, .dec true, .dec true, .dec true, .dec true, .dec true, .dec true, .dec true, .dec true, .dec true, .dec true, .dec true, .dec true, .dec true, .dec true, .dec true], [], via (retP (And.intro (And.intro (And.intro (And.intro (And.intro (And.intro (And.intro (And.intro (And.intro (And.intro (And.intro (And.intro (And.intro (And.intro (And.intro (And.intro trivial e1) e1) e1) e1) e1) e2) e2) e2) e2) e2) e2) e3) e3) e3) e3) e3) (.one (.dp T4)) ((ile a0.2.1 a1) : Bool)) (by kernel_rfl)⟩)) (fun e3 =>
     Owp.some (⟨[.dec true, .dec true, .dec true, .dec true, .dec true, .dec true, .dec true, .dec true, .dec true, .dec true, .dec true, .dec false, .dec false, .dec false, .dec false, .dec false], [], via (retP (And.intro (And.intro (And.intro (And.intro (And.intro (And.intro (And.intro (And.intro (And.intro (And.intro (And.intro (And.intro (And.intro (And.intro (And.intro (And.intro trivial e1) e1) e1) e1) e1) e2) e2) e2) e2) e2) e2) e3) e3) e3) e3) e3) (.one (.dp T4)) (false : Bool)) (by kernel_rfl)⟩))) (fun e2 =>
    Owp.some (⟨[.dec true, .dec true, .dec true, .dec true, .dec true, .dec false, .dec false, .dec false, .dec false, .dec false, .dec false, .dec false, .dec false, .dec false, .dec false, .dec false], [], via (retP (And.intro (And.intro (And.intro (And.intro (And.intro (And.intro (And.intro (And.intro (And.intro (And.intro (And.intro (And.intro (And.intro (And.intro (And.intro (And.intro trivial e1) e1) e1) e1) e1) e2) e2) e2) e2) e2) e2) ff) ff) ff) ff) ff) (.one (.dp T4)) (false : Bool)) (by kernel_rfl)⟩))) (fun e1 =>
   Owp.some (⟨[.dec false, .dec false, .dec false, .dec false, .dec false, .dec false, .dec false, .dec false, .dec false, .dec false, .dec false, .dec false, .dec false, .dec false, .dec false, .dec false], [], via (retP (And.intro (And.intro (And.intro (And.intro (And.intro (And.intro (And.intro (And.intro (And.intro (And.intro (And.intro (And.intro (And.intro (And.intro (And.intro (And.intro trivial e1) e1) e1) e1) e1) ff) ff) ff) ff) ff) ff) ff) ff) ff) ff) ff) (.one (.dp T4)) (false : Bool)) (by kernel_rfl)⟩))
theorem body_within.ok (k : Nat) : FnOk PR 73 (body_within.sp k) :=
  fn_ok (body_within.cok k) hmix Try.func73 (code := body_within.code) (by kernel_rfl) (by kernel_rfl) (by kernel_rfl) rfl (by kernel_rfl) (by kernel_rfl) (by kernel_rfl) (fun x => Nat.le_of_ble_eq_true (by kernel_rfl)) fun x y hy => (body_within.way k x.1 x.2.1).ap hy

/-! tourney/body.shape$1 -/
noncomputable def body_shape_1.code : Code := Func.cd Try.f93
def body_shape_1 (k : Nat) (a0 : V28) : Option Bool :=
  bnd (body_within k a0 2097152) fun y1 =>
  some (!y1)
noncomputable def body_shape_1.sp (k : Nat) : Go.Sx.Spec := ⟨(.pair T28 .unit), (.one (.dp T4)), fun x => body_shape_1 k x.1, false⟩
noncomputable def body_shape_1.cx (k : Nat) : Go.Sx.Ctx := ⟨tys, [(73, body_within.sp k)], eqs, 6, false⟩
theorem body_shape_1.cok (k : Nat) : CtxOk PR (body_shape_1.cx k) := ctx_ok tysOk eqsOk (FnsOk.cons (body_within.ok k) FnsOk.nil)
theorem body_shape_1.way (k : Nat) (a0 : V28) : Owp (body_shape_1 k a0) fun y => ∃ answers cmds, exec PR (body_shape_1.cx k) body_shape_1.code 0 (entry (.pair T28 .unit) (a0, ())).st answers (Ret (body_shape_1.cx k) Try.f93 cmds (.one (.dp T4)) y) := by
  unfold body_shape_1; exact
   Owp.bnd fun y1 e2 =>
   Owp.some (⟨[.res (.one (.dp T4)) y1], [], via (retP (And.intro trivial e2) (.one (.dp T4)) ((!y1) : Bool)) (by kernel_rfl)⟩)
theorem body_shape_1.ok (k : Nat) : FnOk PR 93 (body_shape_1.sp k) :=
  fn_ok (body_shape_1.cok k) hmix Try.func93 (code := body_shape_1.code) (by kernel_rfl) (by kernel_rfl) (by kernel_rfl) rfl (by kernel_rfl) (by kernel_rfl) (by kernel_rfl) (fun x => Nat.le_of_ble_eq_true (by kernel_rfl)) fun x y hy => (body_shape_1.way k x.1).ap hy

/-! tourney/body.size -/
noncomputable def body_size.code : Code := Func.cd Try.f99
def body_size (k : Nat) (a0 : V28) : Option Int :=
  some (iadd .i64 (imax a0.1 (ineg .i64 a0.1)) (imax a0.2.1 (ineg .i64 a0.2.1)))
noncomputable def body_size.sp (k : Nat) : Go.Sx.Spec := ⟨(.pair T28 .unit), (.one (.dp T2)), fun x => body_size k x.1, false⟩
noncomputable def body_size.cx (k : Nat) : Go.Sx.Ctx := ⟨tys, [], eqs, 16, false⟩
theorem body_size.cok (k : Nat) : CtxOk PR (body_size.cx k) := ctx_ok tysOk eqsOk FnsOk.nil
theorem body_size.way (k : Nat) (a0 : V28) : Owp (body_size k a0) fun y => ∃ answers cmds, exec PR (body_size.cx k) body_size.code 0 (entry (.pair T28 .unit) (a0, ())).st answers (Ret (body_size.cx k) Try.f99 cmds (.one (.dp T2)) y) := by
  unfold body_size; exact
   Owp.some (⟨[], [], via (retP trivial (.one (.dp T2)) ((iadd .i64 (imax a0.1 (ineg .i64 a0.1)) (imax a0.2.1 (ineg .i64 a0.2.1))) : Int)) (by kernel_rfl)⟩)
theorem body_size.ok (k : Nat) : FnOk PR 99 (body_size.sp k) :=
  fn_ok (body_size.cok k) hmix Try.func99 (code := body_size.code) (by kernel_rfl) (by kernel_rfl) (by kernel_rfl) rfl (by kernel_rfl) (by kernel_rfl) (by kernel_rfl) (fun x => Nat.le_of_ble_eq_true (by kernel_rfl)) fun x y hy => (body_size.way k x.1).ap hy

/-! tourney/body.fat -/
noncomputable def body_fat.code : Code := Func.cd Try.f94
def body_fat.c3 (k : Nat) (a0 : (List V28)) (v1 : Int) (v6 : Int) : Option (Bool) :=
  bif' (ine v6 v1)
  (req (nz (len a0)) <|
   bif' (ine v6 (irem (iadd .i64 v1 1) (len a0)))
   (bnd (body_size k ((isub .i64 (el Z28 a0 (irem (iadd .i64 v1 1) (len a0))).1 (el Z28 a0 v1).1), (isub .i64 (el Z28 a0 (irem (iadd .i64 v1 1) (len a0))).2.1 (el Z28 a0 v1).2.1), ())) fun y12 =>
    bnd (body_size k ((isub .i64 (el Z28 a0 v6).1 (el Z28 a0 v1).1), (isub .i64 (el Z28 a0 v6).2.1 (el Z28 a0 v1).2.1), ())) fun y14 =>
    some (ilt (isub .i64 (imul .i64 (isub .i64 (el Z28 a0 (irem (iadd .i64 v1 1) (len a0))).1 (el Z28 a0 v1).1) (isub .i64 (el Z28 a0 v6).2.1 (el Z28 a0 v1).2.1)) (imul .i64 (isub .i64 (el Z28 a0 (irem (iadd .i64 v1 1) (len a0))).2.1 (el Z28 a0 v1).2.1) (isub .i64 (el Z28 a0 v6).1 (el Z28 a0 v1).1))) (imul .i64 8 (iadd .i64 y12 y14))))
   (some false))
  (some false)
def body_fat.c2 (k : Nat) (a0 : (List V28)) (v1 : Int) : Nat → Int → Option (Unit ⊕ Unit)
  | 0, _ => none
  | n + 1, v6 =>
   bif' (ilt v6 (len a0))
   (req (inL v6 a0) <|
    bnd (body_fat.c3 k a0 v1 v6) fun o16 =>
    bif' o16
    (some (.inl ()))
    (body_fat.c2 k a0 v1 n (iadd .i64 v6 1)))
   (some (.inr ()))
def body_fat.c1 (k : Nat) (a0 : (List V28)) : Nat → Int → Option (Unit ⊕ Unit)
  | 0, _ => none
  | n + 1, v1 =>
   bif' (ilt v1 (len a0))
   (req (inL v1 a0) <|
    req (nz (len a0)) <|
    req (inL (irem (iadd .i64 v1 1) (len a0)) a0) <|
    bnd (body_fat.c2 k a0 v1 k 0) fun o19 =>
    two o19 (fun y21 =>
    some (.inl ())) (fun y23 =>
    body_fat.c1 k a0 n (iadd .i64 v1 1)))
   (some (.inr ()))
def body_fat (k : Nat) (a0 : (List V28)) : Option Bool :=
  bnd (body_fat.c1 k a0 k 0) fun o25 =>
  two o25 (fun y27 =>
  some false) (fun y29 =>
  some true)
noncomputable def body_fat.sp (k : Nat) : Go.Sx.Spec := ⟨(.pair T23 .unit), (.one (.dp T4)), fun x => body_fat k x.1, false⟩
noncomputable def body_fat.cx (k : Nat) : Go.Sx.Ctx := ⟨tys, [(99, body_size.sp k)], eqs, 88, false⟩
theorem body_fat.cok (k : Nat) : CtxOk PR (body_fat.cx k) := ctx_ok tysOk eqsOk (FnsOk.cons (body_size.ok k) FnsOk.nil)
noncomputable def body_fat.c3p (a0 : (List V28)) (v1 : Int) (v6 : Int) : SL := ⟨[(0, (.val T23 a0)), (3, (.val T2 v1)), (4, (.val .ptr ⟨0, 0, (0 : Int), 0, 0⟩)), (6, (.val .ptr ⟨1, 0, (0 : Int), 0, 0⟩)), (7, (.val T2 v6)), (9, (.val .ptr ⟨2, 0, (0 : Int), 0, 0⟩)), (10, (.val T23 a0)), (11, (.val T2 (len a0))), (12, (.val T2 v1)), (36, (.val T23 a0)), (37, (.val T2 (len a0))), (38, (.val T2 v6))], [(0, .cells T28 (el Z28 a0 v1)), (1, .cells T28 ((isub .i64 (el Z28 a0 (irem (iadd .i64 v1 (1 : Int)) (len a0))).1 (el Z28 a0 v1).1), (isub .i64 (el Z28 a0 (irem (iadd .i64 v1 (1 : Int)) (len a0))).2.1 (el Z28 a0 v1).2.1), ())), (2, .cells T28 ((isub .i64 (el Z28 a0 v6).1 (el Z28 a0 v1).1), (isub .i64 (el Z28 a0 v6).2.1 (el Z28 a0 v1).2.1), ()))]⟩
noncomputable def body_fat.c3q (a0 : (List V28)) (v1 : Int) (v6 : Int) (o : Bool) : SL := (fun v => ⟨[(0, (.val T23 a0)), (3, (.val T2 v1)), (4, (.val .ptr ⟨0, 0, (0 : Int), 0, 0⟩)), (6, (.val .ptr ⟨1, 0, (0 : Int), 0, 0⟩)), (10, (.val T23 a0)), (11, (.val T2 (len a0))), (12, (.val T2 v1)), (36, (.val T23 a0)), (37, (.val T2 (len a0))), (38, (.val T2 v6)), (85, (.val T4 v))], [(0, .cells T28 (el Z28 a0 v1)), (1, .cells T28 ((isub .i64 (el Z28 a0 (irem (iadd .i64 v1 (1 : Int)) (len a0))).1 (el Z28 a0 v1).1), (isub .i64 (el Z28 a0 (irem (iadd .i64 v1 (1 : Int)) (len a0))).2.1 (el Z28 a0 v1).2.1), ()))]⟩) o
noncomputable def body_fat.c3x (o : Bool) : Ex := (fun _ => .normal) o
noncomputable def body_fat.c3n (o : Bool) : Nat := (fun _ => 2) o
theorem body_fat.c3_ok (k : Nat) (a0 : (List V28)) (v1 : Int) (v6 : Int) : Owp (body_fat.c3 k a0 v1 v6) fun o => Triple PR (body_fat.cx k) (sub body_fat.code [1, 0, 1, 0, 0, 1, 1, 0, 0, 1, 1, 1, 1, 0, 0, 1, 1, 0, 0, 1, 1, 0]) 3 (body_fat.c3p a0 v1 v6) (body_fat.c3x o) (body_fat.c3n o) (body_fat.c3q a0 v1 v6 o) := by
  unfold body_fat.c3; exact
   Owp.bif (fun e9 =>
   Owp.req fun h10 =>
    Owp.bif (fun e11 =>
    Owp.bnd fun y12 e13 =>
     Owp.bnd fun y14 e15 =>
     Owp.some (triple_way (body_fat.cok k) hmix [.dec true, .dec true, .dec true, .dec true, .dec true, .dec true, .dec true, .dec true, .dec true, .dec true, .dec true, .dec true, .dec true, .dec true, .dec true, .dec true, .dec true, .dec true, .dec true, .dec true, .dec true, .res (.one (.dp T2)) y12, .dec true, .dec true, .res (.one (.dp T2)) y14, .dec true, .dec true, .dec true, .dec true] [] [(0, 0), (1, 1)] (via (finP (And.intro (And.intro (And.intro (And.intro (And.intro (And.intro (And.intro (And.intro (And.intro (And.intro (And.intro (And.intro (And.intro (And.intro (And.intro (And.intro (And.intro (And.intro (And.intro (And.intro (And.intro (And.intro (And.intro (And.intro (And.intro (And.intro (And.intro trivial e9) e9) e9) e9) e9) (And.intro e9 h10)) e9) e9) e11) e11) e11) e11) e11) e11) e11) e11) e11) e11) e11) e11) (And.intro e11 e13)) e11) (And.intro e11 e15)) e11) e11) e11) e11) .normal [(0, 0), (1, 1)] (body_fat.c3q a0 v1 v6 (ilt (isub .i64 (imul .i64 (isub .i64 (el Z28 a0 (irem (iadd .i64 v1 (1 : Int)) (len a0))).1 (el Z28 a0 v1).1) (isub .i64 (el Z28 a0 v6).2.1 (el Z28 a0 v1).2.1)) (imul .i64 (isub .i64 (el Z28 a0 (irem (iadd .i64 v1 (1 : Int)) (len a0))).2.1 (el Z28 a0 v1).2.1) (isub .i64 (el Z28 a0 v6).1 (el Z28 a0 v1).1))) (imul .i64 (8 : Int) (iadd .i64 y12 y14))))) (by kernel_rfl)))) (fun e11 =>
    Owp.some (triple_way (body_fat.cok k) hmix [.dec true, .dec true, .dec true, .dec true, .dec true, .dec true, .dec true, .dec true, .dec false, .dec false, .dec false, .dec false, .dec false, .dec false, .dec false, .dec false, .dec false, .dec false, .dec false, .dec false, .dec false, .dec true, .dec false, .dec false, .dec true, .dec false, .dec false, .dec false, .dec false] [] [(0, 0), (1, 1)] (via (finP (And.intro (And.intro (And.intro (And.intro (And.intro (And.intro (And.intro (And.intro (And.intro (And.intro (And.intro (And.intro (And.intro (And.intro (And.intro (And.intro (And.intro (And.intro (And.intro (And.intro (And.intro (And.intro (And.intro (And.intro (And.intro (And.intro (And.intro trivial e9) e9) e9) e9) e9) (And.intro e9 h10)) e9) e9) e11) e11) e11) e11) e11) e11) e11) e11) e11) e11) e11) e11) e11) e11) e11) e11) e11) e11) e11) .normal [(0, 0), (1, 1)] (body_fat.c3q a0 v1 v6 false)) (by kernel_rfl))))) (fun e9 =>
   Owp.some (triple_way (body_fat.cok k) hmix [.dec false, .dec false, .dec false, .dec false, .dec false, .dec false, .dec false, .dec false, .dec false, .dec false, .dec false, .dec false, .dec false, .dec false, .dec false, .dec false, .dec false, .dec false, .dec false, .dec false, .dec false, .dec true, .dec false, .dec false, .dec true, .dec false, .dec false, .dec false, .dec false] [] [(0, 0), (1, 1)] (via (finP (And.intro (And.intro (And.intro (And.intro (And.intro (And.intro (And.intro (And.intro (And.intro (And.intro (And.intro (And.intro (And.intro (And.intro (And.intro (And.intro (And.intro (And.intro (And.intro (And.intro (And.intro (And.intro (And.intro (And.intro (And.intro (And.intro (And.intro trivial e9) e9) e9) e9) e9) e9) e9) e9) ff) ff) ff) ff) ff) ff) ff) ff) ff) ff) ff) ff) ff) ff) ff) ff) ff) ff) ff) .normal [(0, 0), (1, 1)] (body_fat.c3q a0 v1 v6 false)) (by kernel_rfl))))
noncomputable def body_fat.c2p (a0 : (List V28)) (v1 : Int) (v6 : Int) : SL := ⟨[(0, (.val T23 a0)), (3, (.val T2 v1)), (4, (.val .ptr ⟨0, 0, (0 : Int), 0, 0⟩)), (6, (.val .ptr ⟨1, 0, (0 : Int), 0, 0⟩)), (10, (.val T23 a0)), (11, (.val T2 (len a0))), (12, (.val T2 v1)), (36, (.val T23 a0)), (37, (.val T2 (len a0))), (38, (.val T2 v6))], [(0, .cells T28 (el Z28 a0 v1)), (1, .cells T28 ((isub .i64 (el Z28 a0 (irem (iadd .i64 v1 (1 : Int)) (len a0))).1 (el Z28 a0 v1).1), (isub .i64 (el Z28 a0 (irem (iadd .i64 v1 (1 : Int)) (len a0))).2.1 (el Z28 a0 v1).2.1), ()))]⟩
noncomputable def body_fat.c2q (a0 : (List V28)) (v1 : Int) (o : Unit ⊕ Unit) : SL := (fun o => two o (fun v => ⟨[(2, (.val T4 false))], []⟩) (fun v => ⟨[(0, (.val T23 a0)), (10, (.val T23 a0)), (11, (.val T2 (len a0))), (12, (.val T2 v1))], []⟩)) o
noncomputable def body_fat.c2x (o : Unit ⊕ Unit) : Ex := (fun o => two o (fun _ => .ret) (fun _ => (.exit 2))) o
noncomputable def body_fat.c2n (o : Unit ⊕ Unit) : Nat := (fun o => two o (fun _ => 0) (fun _ => 0)) o
theorem body_fat.c2_ok (k : Nat) (a0 : (List V28)) (v1 : Int) : ∀ (n : Nat) (v6 : Int), Owp (body_fat.c2 k a0 v1 n v6) fun o => LTriple PR (body_fat.cx k) (sub body_fat.code [1, 0, 1, 0, 0, 1, 1, 0, 0, 1, 1, 1, 1, 0, 0]) 2 (body_fat.c2p a0 v1 v6) (body_fat.c2x o) (body_fat.c2n o) (body_fat.c2q a0 v1 o)
  | 0, _ => fun _ h => nomatch h
  | n + 1, v6 => Owp.of (body_fat.c2.eq_2 ..) (
   Owp.bif (fun e7 =>
   Owp.req fun h8 =>
    Owp.bnd fun o16 e17 =>
    Owp.bif (fun e18 =>
    Owp.some (loop_exit (body_fat.cok k) hmix [.dec true, .cutR 10 ⟨[], [(0, 0), (1, 1), (2, 20)], (body_fat.c3p a0 v1 v6), 3, .normal, (body_fat.c3q a0 v1 v6 o16), 2⟩, .dec true] [] [] exne_ret (via (cutP (And.intro (And.intro trivial e7) h8) [(0, 0), (1, 1), (2, 20)] (body_fat.c3p a0 v1 v6) (((body_fat.c3_ok k a0 v1 v6).ap e17)) (finP (And.intro trivial e18) .ret [] (body_fat.c2q a0 v1 (.inl ())))) (by kernel_rfl)))) (fun e18 =>
    fun y hy => loop_back (body_fat.cok k) hmix 2 (body_fat.c2p a0 v1 (iadd .i64 v6 (1 : Int))) [.dec true, .cutR 10 ⟨[], [(0, 0), (1, 1), (2, 20)], (body_fat.c3p a0 v1 v6), 3, .normal, (body_fat.c3q a0 v1 v6 o16), 2⟩, .dec false] [] [(0, 0), (1, 1)] (via (cutP (And.intro (And.intro trivial e7) h8) [(0, 0), (1, 1), (2, 20)] (body_fat.c3p a0 v1 v6) (((body_fat.c3_ok k a0 v1 v6).ap e17)) (finP (And.intro trivial e18) .normal [(0, 0), (1, 1)] (body_fat.c2p a0 v1 (iadd .i64 v6 (1 : Int))))) (by kernel_rfl)) ((body_fat.c2_ok k a0 v1 n (iadd .i64 v6 (1 : Int))).ap hy))) (fun e7 =>
   Owp.some (loop_exit (body_fat.cok k) hmix [.dec false] [] [] (exne 2) (via (finP (And.intro trivial e7) (.exit 2) [] (body_fat.c2q a0 v1 (.inr ()))) (by kernel_rfl)))))
noncomputable def body_fat.c1p (a0 : (List V28)) (v1 : Int) : SL := ⟨[(0, (.val T23 a0)), (10, (.val T23 a0)), (11, (.val T2 (len a0))), (12, (.val T2 v1))], []⟩
noncomputable def body_fat.c1q (o : Unit ⊕ Unit) : SL := (fun o => two o (fun v => ⟨[(2, (.val T4 false))], []⟩) (fun v => ⟨[], []⟩)) o
noncomputable def body_fat.c1x (o : Unit ⊕ Unit) : Ex := (fun o => two o (fun _ => .ret) (fun _ => (.exit 0))) o
noncomputable def body_fat.c1n (o : Unit ⊕ Unit) : Nat := (fun o => two o (fun _ => 0) (fun _ => 0)) o
theorem body_fat.c1_ok (k : Nat) (a0 : (List V28)) : ∀ (n : Nat) (v1 : Int), Owp (body_fat.c1 k a0 n v1) fun o => LTriple PR (body_fat.cx k) (sub body_fat.code [1, 0, 1, 0, 0]) 0 (body_fat.c1p a0 v1) (body_fat.c1x o) (body_fat.c1n o) (body_fat.c1q o)
  | 0, _ => fun _ h => nomatch h
  | n + 1, v1 => Owp.of (body_fat.c1.eq_2 ..) (
   Owp.bif (fun e2 =>
   Owp.req fun h3 =>
    Owp.req fun h4 =>
    Owp.req fun h5 =>
    Owp.bnd fun o19 e20 =>
    Owp.two (fun y21 e22 =>
    Owp.some (loop_exit (body_fat.cok k) hmix [.dec true, .cut ⟨[], [(0, 4), (1, 28)], (body_fat.c2p a0 v1 (0 : Int)), 2, .ret, (body_fat.c2q a0 v1 (.inl ())), 0⟩] [] [] exne_ret (via (cutP (And.intro (And.intro (And.intro (And.intro trivial e2) h3) h4) h5) [(0, 4), (1, 28)] (body_fat.c2p a0 v1 (0 : Int)) (((body_fat.c2_ok k a0 v1 k (0 : Int)).ap (e20.trans (congrArg some e22))).triple) (finP trivial .ret [] (body_fat.c1q (.inl ())))) (by kernel_rfl)))) (fun y23 e24 =>
    fun y hy => loop_back (body_fat.cok k) hmix 0 (body_fat.c1p a0 (iadd .i64 v1 (1 : Int))) [.dec true, .cut ⟨[], [(0, 4), (1, 28)], (body_fat.c2p a0 v1 (0 : Int)), 2, (.exit 2), (body_fat.c2q a0 v1 (.inr ())), 0⟩] [] [] (via (cutP (And.intro (And.intro (And.intro (And.intro trivial e2) h3) h4) h5) [(0, 4), (1, 28)] (body_fat.c2p a0 v1 (0 : Int)) (((body_fat.c2_ok k a0 v1 k (0 : Int)).ap (e20.trans (congrArg some e24))).triple) (finP trivial .normal [] (body_fat.c1p a0 (iadd .i64 v1 (1 : Int))))) (by kernel_rfl)) ((body_fat.c1_ok k a0 n (iadd .i64 v1 (1 : Int))).ap hy))) (fun e2 =>
   Owp.some (loop_exit (body_fat.cok k) hmix [.dec false] [] [] (exne 0) (via (finP (And.intro trivial e2) (.exit 0) [] (body_fat.c1q (.inr ()))) (by kernel_rfl)))))
theorem body_fat.way (k : Nat) (a0 : (List V28)) : Owp (body_fat k a0) fun y => ∃ answers cmds, exec PR (body_fat.cx k) body_fat.code 0 (entry (.pair T23 .unit) (a0, ())).st answers (Ret (body_fat.cx k) Try.f94 cmds (.one (.dp T4)) y) := by
  unfold body_fat; exact
   Owp.bnd fun o25 e26 =>
   Owp.two (fun y27 e28 =>
   Owp.some (⟨[.cut ⟨[], [], (body_fat.c1p a0 (0 : Int)), 0, .ret, (body_fat.c1q (.inl ())), 0⟩], [], via (cutP trivial [] (body_fat.c1p a0 (0 : Int)) (((body_fat.c1_ok k a0 k (0 : Int)).ap (e26.trans (congrArg some e28))).triple) (retP trivial (.one (.dp T4)) (false : Bool))) (by kernel_rfl)⟩)) (fun y29 e30 =>
   Owp.some (⟨[.cut ⟨[], [], (body_fat.c1p a0 (0 : Int)), 0, (.exit 0), (body_fat.c1q (.inr ())), 0⟩], [], via (cutP trivial [] (body_fat.c1p a0 (0 : Int)) (((body_fat.c1_ok k a0 k (0 : Int)).ap (e26.trans (congrArg some e30))).triple) (retP trivial (.one (.dp T4)) (true : Bool))) (by kernel_rfl)⟩))
theorem body_fat.ok (k : Nat) : FnOk PR 94 (body_fat.sp k) :=
  fn_ok (body_fat.cok k) hmix Try.func94 (code := body_fat.code) (by kernel_rfl) (by kernel_rfl) (by kernel_rfl) rfl (by kernel_rfl) (by kernel_rfl) (by kernel_rfl) (fun x => Nat.le_of_ble_eq_true (by kernel_rfl)) fun x y hy => (body_fat.way k x.1).ap hy

/-! tourney/body.shape -/
noncomputable def body_shape.code : Code := Func.cd Try.f71
def body_shape.c1 (k : Nat) (a0 : (List V28)) : Option (Bool) :=
  bnd (body_fat k a0) fun y7 =>
  bif' y7
  (bnd (poly_Has k a0 (0, 0, ())) fun y10 =>
   some (!y10))
  (some true)
def body_shape (k : Nat) (a0 : (List V28)) : Option Int :=
  bnd (poly_Check k a0) fun y1 =>
  bif' (ine y1 0)
  (some y1)
  (bnd (slices_ContainsFunc k a0 (fun x : (V28 × Unit) => body_shape_1 k (x.1))) fun y4 =>
   bif' y4
   (some 1)
   (bnd (body_shape.c1 k a0) fun o12 =>
    bif' o12
    (some 3)
    (some 0)))
noncomputable def body_shape.sp (k : Nat) : Go.Sx.Spec := ⟨(.pair T23 .unit), (.one (.dp T2)), fun x => body_shape k x.1, false⟩
noncomputable def body_shape.cx (k : Nat) : Go.Sx.Ctx := ⟨tys, [(54, poly_Check.sp k), (80, slices_ContainsFunc.sp k), (93, body_shape_1.sp k), (94, body_fat.sp k), (95, poly_Has.sp k)], eqs, 20, false⟩
theorem body_shape.cok (k : Nat) : CtxOk PR (body_shape.cx k) := ctx_ok tysOk eqsOk (FnsOk.cons (poly_Check.ok k) (FnsOk.cons (slices_ContainsFunc.ok k) (FnsOk.cons (body_shape_1.ok k) (FnsOk.cons (body_fat.ok k) (FnsOk.cons (poly_Has.ok k) FnsOk.nil)))))
noncomputable def body_shape.c1p (a0 : (List V28)) : SL := ⟨[(0, (.val T23 a0))], []⟩
noncomputable def body_shape.c1q (o : Bool) : SL := (fun v => ⟨[(19, (.val T4 v))], []⟩) o
noncomputable def body_shape.c1x (o : Bool) : Ex := (fun _ => .normal) o
noncomputable def body_shape.c1n (o : Bool) : Nat := (fun _ => 0) o
theorem body_shape.c1_ok (k : Nat) (a0 : (List V28)) : Owp (body_shape.c1 k a0) fun o => Triple PR (body_shape.cx k) (sub body_shape.code [1, 1, 1, 0, 0]) 0 (body_shape.c1p a0) (body_shape.c1x o) (body_shape.c1n o) (body_shape.c1q o) := by
  unfold body_shape.c1; exact
   Owp.bnd fun y7 e8 =>
   Owp.bif (fun e9 =>
   Owp.bnd fun y10 e11 =>
    Owp.some (triple_way (body_shape.cok k) hmix [.res (.one (.dp T4)) y7, .dec false, .dec false, .dec false, .res (.one (.dp T4)) y10, .dec false, .dec false] [] [] (via (finP (And.intro (And.intro (And.intro (And.intro (And.intro (And.intro trivial e8) (congrArg not e9)) (congrArg not e9)) (And.intro (congrArg not e9) e11)) (congrArg not e9)) (congrArg not e9)) .normal [] (body_shape.c1q (!y10))) (by kernel_rfl)))) (fun e9 =>
   Owp.some (triple_way (body_shape.cok k) hmix [.res (.one (.dp T4)) y7, .dec true, .dec true, .dec true, .dec true, .dec true, .dec true] [] [] (via (finP (And.intro (And.intro (And.intro (And.intro (And.intro (And.intro trivial e8) (congrArg not e9)) (congrArg not e9)) (congrArg not e9)) (congrArg not e9)) (congrArg not e9)) .normal [] (body_shape.c1q true)) (by kernel_rfl))))
theorem body_shape.way (k : Nat) (a0 : (List V28)) : Owp (body_shape k a0) fun y => ∃ answers cmds, exec PR (body_shape.cx k) body_shape.code 0 (entry (.pair T23 .unit) (a0, ())).st answers (Ret (body_shape.cx k) Try.f71 cmds (.one (.dp T2)) y) := by
  unfold body_shape; exact
   Owp.bnd fun y1 e2 =>
   Owp.bif (fun e3 =>
   Owp.some (⟨[.res (.one (.dp T2)) y1, .dec true], [], via (retP (And.intro (And.intro trivial e2) e3) (.one (.dp T2)) (y1 : Int)) (by kernel_rfl)⟩)) (fun e3 =>
   Owp.bnd fun y4 e5 =>
    Owp.bif (fun e6 =>
    Owp.some (⟨[.res (.one (.dp T2)) y1, .dec false, .res (.one (.dp T4)) y4, .dec true], [], via (retP (And.intro (And.intro (And.intro (And.intro trivial e2) e3) e5) e6) (.one (.dp T2)) ((1 : Int) : Int)) (by kernel_rfl)⟩)) (fun e6 =>
    Owp.bnd fun o12 e13 =>
     Owp.bif (fun e14 =>
     Owp.some (⟨[.res (.one (.dp T2)) y1, .dec false, .res (.one (.dp T4)) y4, .dec false, .cutR 6 ⟨[], [], (body_shape.c1p a0), 0, .normal, (body_shape.c1q o12), 0⟩, .dec true], [], via (cutP (And.intro (And.intro (And.intro (And.intro trivial e2) e3) e5) e6) [] (body_shape.c1p a0) (((body_shape.c1_ok k a0).ap e13)) (retP (And.intro trivial e14) (.one (.dp T2)) ((3 : Int) : Int))) (by kernel_rfl)⟩)) (fun e14 =>
     Owp.some (⟨[.res (.one (.dp T2)) y1, .dec false, .res (.one (.dp T4)) y4, .dec false, .cutR 6 ⟨[], [], (body_shape.c1p a0), 0, .normal, (body_shape.c1q o12), 0⟩, .dec false], [], via (cutP (And.intro (And.intro (And.intro (And.intro trivial e2) e3) e5) e6) [] (body_shape.c1p a0) (((body_shape.c1_ok k a0).ap e13)) (retP (And.intro trivial e14) (.one (.dp T2)) ((0 : Int) : Int))) (by kernel_rfl)⟩))))
theorem body_shape.ok (k : Nat) : FnOk PR 71 (body_shape.sp k) :=
  fn_ok (body_shape.cok k) hmix Try.func71 (code := body_shape.code) (by kernel_rfl) (by kernel_rfl) (by kernel_rfl) rfl (by kernel_rfl) (by kernel_rfl) (by kernel_rfl) (fun x => Nat.le_of_ble_eq_true (by kernel_rfl)) fun x y hy => (body_shape.way k x.1).ap hy

/-! tourney/body.Check$1 -/
noncomputable def body_Check_1.code : Code := Func.cd Try.f72
def body_Check_1 (k : Nat) (a0 : Int) (a1 : Int) (a2 : Int) : Option Bool :=
  bif' (ige a0 a1)
  (some (ile a0 a2))
  (some false)
noncomputable def body_Check_1.sp (k : Nat) : Go.Sx.Spec := ⟨(.pair T2 T28), (.one (.dp T4)), fun x => body_Check_1 k x.1 x.2.1 x.2.2.1, false⟩
noncomputable def body_Check_1.cx (k : Nat) : Go.Sx.Ctx := ⟨tys, [], eqs, 15, false⟩
theorem body_Check_1.cok (k : Nat) : CtxOk PR (body_Check_1.cx k) := ctx_ok tysOk eqsOk FnsOk.nil
theorem body_Check_1.way (k : Nat) (a0 : Int) (a1 : Int) (a2 : Int) : Owp (body_Check_1 k a0 a1 a2) fun y => ∃ answers cmds, exec PR (body_Check_1.cx k) body_Check_1.code 0 (entry (.pair T2 T28) (a0, a1, a2, ())).st answers (Ret (body_Check_1.cx k) Try.f72 cmds (.one (.dp T4)) y) := by
  unfold body_Check_1; exact
   Owp.bif (fun e1 =>
   Owp.some (⟨[.dec true, .dec true, .dec true, .dec true], [], via (retP (And.intro (And.intro (And.intro (And.intro trivial e1) e1) e1) e1) (.one (.dp T4)) ((ile a0 a2) : Bool)) (by kernel_rfl)⟩)) (fun e1 =>
   Owp.some (⟨[.dec false, .dec false, .dec false, .dec false], [], via (retP (And.intro (And.intro (And.intro (And.intro trivial e1) e1) e1) e1) (.one (.dp T4)) (false : Bool)) (by kernel_rfl)⟩))
theorem body_Check_1.ok (k : Nat) : FnOk PR 72 (body_Check_1.sp k) :=
  fn_ok (body_Check_1.cok k) hmix Try.func72 (code := body_Check_1.code) (by kernel_rfl) (by kernel_rfl) (by kernel_rfl) rfl (by kernel_rfl) (by kernel_rfl) (by kernel_rfl) (fun x => Nat.le_of_ble_eq_true (by kernel_rfl)) fun x y hy => (body_Check_1.way k x.1 x.2.1 x.2.2.1).ap hy

/-! tourney/body.Check -/
noncomputable def body_Check.code : Code := Func.cd Try.f42
def body_Check.c1 (k : Nat) (a0 : V39) : Option (Bool) :=
  bnd (body_within k a0.1 58982400) fun y4 =>
  bif' y4
  (bnd (body_within k a0.2.1 268435456) fun y7 =>
   bif' y7
   (bnd (body_Check_1 k a0.2.2.2.1 (-16777216) 16777216) fun y10 =>
    bif' y10
    (bnd (body_Check_1 k a0.2.2.1 0 65535) fun y13 =>
     some (!y13))
    (some true))
   (some true))
  (some true)
def body_Check.c2 (k : Nat) (a0 : V39) : Option (Bool) :=
  bnd (body_Check_1 k a0.2.2.2.2.1 0 1099511627776) fun y18 =>
  bif' y18
  (bnd (body_Check_1 k a0.2.2.2.2.2.1 0 1099511627776) fun y21 =>
   bif' y21
   (bnd (body_Check_1 k a0.2.2.2.2.2.2.1 0 65536) fun y24 =>
    bif' y24
    (bnd (body_Check_1 k a0.2.2.2.2.2.2.2.1 0 65536) fun y27 =>
     bif' y27
     (bnd (body_Check_1 k a0.2.2.2.2.2.2.2.2.2.2.1 0 1000) fun y30 =>
      some (!y30))
     (some true))
    (some true))
   (some true))
  (some true)
def body_Check.c3 (k : Nat) (a0 : V39) : Option (Bool) :=
  bif' (Ty.eqb T28 a0.2.1 ((0 : Int), (0 : Int), ()))
  (some (ieq a0.2.2.2.1 0))
  (some false)
def body_Check.c4 (k : Nat) (a0 : V39) (o36 : Bool) : Option (Bool) :=
  bif' (Ty.eqb T4 (ieq a0.2.2.2.2.1 (0 : Int)) (ieq a0.2.2.2.2.2.1 (0 : Int)))
  (bif' (ieq a0.2.2.2.2.1 0)
   (bif' o36
    (bif' a0.2.2.2.2.2.2.2.2.2.1
     (some true)
     (bif' (ine a0.2.2.2.2.2.2.2.2.2.2.1 0)
      (some true)
      (some false)))
    (some true))
   (bif' a0.2.2.2.2.2.2.2.2.2.1
    (some (!o36))
    (some false)))
  (some true)
def body_Check (k : Nat) (a0 : V39) : Option Int :=
  bnd (body_shape k a0.2.2.2.2.2.2.2.2.1) fun y1 =>
  bif' (ine y1 0)
  (some y1)
  (bnd (body_Check.c1 k a0) fun o15 =>
   bif' o15
   (some 1)
   (bnd (body_Check.c2 k a0) fun o32 =>
    bif' o32
    (some 1)
    (bnd (body_Check.c3 k a0) fun o36 =>
     bnd (body_Check.c4 k a0 o36) fun o44 =>
     bif' o44
     (some 3)
     (some 0))))
noncomputable def body_Check.sp (k : Nat) : Go.Sx.Spec := ⟨(.pair T39 .unit), (.one (.dp T2)), fun x => body_Check k x.1, false⟩
noncomputable def body_Check.cx (k : Nat) : Go.Sx.Ctx := ⟨tys, [(71, body_shape.sp k), (73, body_within.sp k), (72, body_Check_1.sp k)], eqs, 111, false⟩
theorem body_Check.cok (k : Nat) : CtxOk PR (body_Check.cx k) := ctx_ok tysOk eqsOk (FnsOk.cons (body_shape.ok k) (FnsOk.cons (body_within.ok k) (FnsOk.cons (body_Check_1.ok k) FnsOk.nil)))
noncomputable def body_Check.c1p (a0 : V39) : SL := ⟨[(1, (.val .ptr ⟨0, 0, (0 : Int), 0, 0⟩)), (4, (.val .clo (72, [])))], [(0, .cells T39 a0)]⟩
noncomputable def body_Check.c1q (a0 : V39) (o : Bool) : SL := (fun v => ⟨[(1, (.val .ptr ⟨0, 0, (0 : Int), 0, 0⟩)), (4, (.val .clo (72, []))), (35, (.val T4 v))], [(0, .cells T39 a0)]⟩) o
noncomputable def body_Check.c1x (o : Bool) : Ex := (fun _ => .normal) o
noncomputable def body_Check.c1n (o : Bool) : Nat := (fun _ => 1) o
theorem body_Check.c1_ok (k : Nat) (a0 : V39) : Owp (body_Check.c1 k a0) fun o => Triple PR (body_Check.cx k) (sub body_Check.code [1, 1, 1, 0, 0]) 1 (body_Check.c1p a0) (body_Check.c1x o) (body_Check.c1n o) (body_Check.c1q a0 o) := by
  unfold body_Check.c1; exact
   Owp.bnd fun y4 e5 =>
   Owp.bif (fun e6 =>
   Owp.bnd fun y7 e8 =>
    Owp.bif (fun e9 =>
    Owp.bnd fun y10 e11 =>
     Owp.bif (fun e12 =>
     Owp.bnd fun y13 e14 =>
      Owp.some (triple_way (body_Check.cok k) hmix [.res (.one (.dp T4)) y4, .dec false, .dec false, .dec false, .res (.one (.dp T4)) y7, .dec false, .dec false, .dec false, .dec false, .dec false, .dec false, .res (.one (.dp T4)) y10, .dec false, .dec false, .dec false, .dec false, .dec false, .dec false, .res (.one (.dp T4)) y13, .dec false, .dec false] [] [(0, 0)] (via (finP (And.intro (And.intro (And.intro (And.intro (And.intro (And.intro (And.intro (And.intro (And.intro (And.intro (And.intro (And.intro (And.intro (And.intro (And.intro (And.intro (And.intro (And.intro trivial e5) (congrArg not e6)) (congrArg not e6)) (And.intro (congrArg not e6) e8)) (congrArg not e6)) (congrArg not e6)) (congrArg not e9)) (congrArg not e9)) (congrArg not e9)) (And.intro (congrArg not e9) e11)) (congrArg not e9)) (congrArg not e9)) (congrArg not e12)) (congrArg not e12)) (congrArg not e12)) (And.intro (congrArg not e12) e14)) (congrArg not e12)) (congrArg not e12)) .normal [(0, 0)] (body_Check.c1q a0 (!y13))) (by kernel_rfl)))) (fun e12 =>
     Owp.some (triple_way (body_Check.cok k) hmix [.res (.one (.dp T4)) y4, .dec false, .dec false, .dec false, .res (.one (.dp T4)) y7, .dec false, .dec false, .dec false, .dec false, .dec false, .dec false, .res (.one (.dp T4)) y10, .dec false, .dec false, .dec true, .dec true, .dec true, .dec true, .dec true, .dec true, .dec true] [] [(0, 0)] (via (finP (And.intro (And.intro (And.intro (And.intro (And.intro (And.intro (And.intro (And.intro (And.intro (And.intro (And.intro (And.intro (And.intro (And.intro (And.intro (And.intro (And.intro (And.intro trivial e5) (congrArg not e6)) (congrArg not e6)) (And.intro (congrArg not e6) e8)) (congrArg not e6)) (congrArg not e6)) (congrArg not e9)) (congrArg not e9)) (congrArg not e9)) (And.intro (congrArg not e9) e11)) (congrArg not e9)) (congrArg not e9)) (congrArg not e12)) (congrArg not e12)) (congrArg not e12)) (congrArg not e12)) (congrArg not e12)) (congrArg not e12)) .normal [(0, 0)] (body_Check.c1q a0 true)) (by kernel_rfl))))) (fun e9 =>
    Owp.some (triple_way (body_Check.cok k) hmix [.res (.one (.dp T4)) y4, .dec false, .dec false, .dec false, .res (.one (.dp T4)) y7, .dec false, .dec false, .dec true, .dec true, .dec true, .dec true, .dec true, .dec true, .dec true, .dec true, .dec true, .dec true, .dec true, .dec true, .dec true, .dec true] [] [(0, 0)] (via (finP (And.intro (And.intro (And.intro (And.intro (And.intro (And.intro (And.intro (And.intro (And.intro (And.intro (And.intro (And.intro (And.intro (And.intro (And.intro (And.intro (And.intro (And.intro trivial e5) (congrArg not e6)) (congrArg not e6)) (And.intro (congrArg not e6) e8)) (congrArg not e6)) (congrArg not e6)) (congrArg not e9)) (congrArg not e9)) (congrArg not e9)) (congrArg not e9)) (congrArg not e9)) (congrArg not e9)) tt) tt) tt) tt) tt) tt) .normal [(0, 0)] (body_Check.c1q a0 true)) (by kernel_rfl))))) (fun e6 =>
   Owp.some (triple_way (body_Check.cok k) hmix [.res (.one (.dp T4)) y4, .dec true, .dec true, .dec true, .dec true, .dec true, .dec true, .dec true, .dec true, .dec true, .dec true, .dec true, .dec true, .dec true, .dec true, .dec true, .dec true, .dec true, .dec true, .dec true, .dec true] [] [(0, 0)] (via (finP (And.intro (And.intro (And.intro (And.intro (And.intro (And.intro (And.intro (And.intro (And.intro (And.intro (And.intro (And.intro (And.intro (And.intro (And.intro (And.intro (And.intro (And.intro trivial e5) (congrArg not e6)) (congrArg not e6)) (congrArg not e6)) (congrArg not e6)) (congrArg not e6)) tt) tt) tt) tt) tt) tt) tt) tt) tt) tt) tt) tt) .normal [(0, 0)] (body_Check.c1q a0 true)) (by kernel_rfl))))
noncomputable def body_Check.c2p (a0 : V39) : SL := ⟨[(1, (.val .ptr ⟨0, 0, (0 : Int), 0, 0⟩)), (4, (.val .clo (72, [])))], [(0, .cells T39 a0)]⟩
noncomputable def body_Check.c2q (a0 : V39) (o : Bool) : SL := (fun v => ⟨[(1, (.val .ptr ⟨0, 0, (0 : Int), 0, 0⟩)), (68, (.val T4 v))], [(0, .cells T39 a0)]⟩) o
noncomputable def body_Check.c2x (o : Bool) : Ex := (fun _ => .normal) o
noncomputable def body_Check.c2n (o : Bool) : Nat := (fun _ => 1) o
theorem body_Check.c2_ok (k : Nat) (a0 : V39) : Owp (body_Check.c2 k a0) fun o => Triple PR (body_Check.cx k) (sub body_Check.code [1, 1, 1, 1, 0, 0]) 1 (body_Check.c2p a0) (body_Check.c2x o) (body_Check.c2n o) (body_Check.c2q a0 o) := by
  unfold body_Check.c2; exact
   Owp.bnd fun y18 e19 =>
   Owp.bif (fun e20 =>
   Owp.bnd fun y21 e22 =>
    Owp.bif (fun e23 =>
    Owp.bnd fun y24 e25 =>
     Owp.bif (fun e26 =>
     Owp.bnd fun y27 e28 =>
      Owp.bif (fun e29 =>
      Owp.bnd fun y30 e31 =>
       Owp.some (triple_way (body_Check.cok k) hmix [.res (.one (.dp T4)) y18, .dec false, .dec false, .dec false, .dec false, .res (.one (.dp T4)) y21, .dec false, .dec false, .dec false, .dec false, .dec false, .dec false, .res (.one (.dp T4)) y24, .dec false, .dec false, .dec false, .dec false, .dec false, .dec false, .res (.one (.dp T4)) y27, .dec false, .dec false, .dec false, .dec false, .dec false, .dec false, .res (.one (.dp T4)) y30, .dec false, .dec false] [] [(0, 0)] (via (finP (And.intro (And.intro (And.intro (And.intro (And.intro (And.intro (And.intro (And.intro (And.intro (And.intro (And.intro (And.intro (And.intro (And.intro (And.intro (And.intro (And.intro (And.intro (And.intro (And.intro (And.intro (And.intro (And.intro (And.intro (And.intro trivial e19) (congrArg not e20)) (congrArg not e20)) (congrArg not e20)) (And.intro (congrArg not e20) e22)) (congrArg not e20)) (congrArg not e20)) (congrArg not e23)) (congrArg not e23)) (congrArg not e23)) (And.intro (congrArg not e23) e25)) (congrArg not e23)) (congrArg not e23)) (congrArg not e26)) (congrArg not e26)) (congrArg not e26)) (And.intro (congrArg not e26) e28)) (congrArg not e26)) (congrArg not e26)) (congrArg not e29)) (congrArg not e29)) (congrArg not e29)) (And.intro (congrArg not e29) e31)) (congrArg not e29)) (congrArg not e29)) .normal [(0, 0)] (body_Check.c2q a0 (!y30))) (by kernel_rfl)))) (fun e29 =>
      Owp.some (triple_way (body_Check.cok k) hmix [.res (.one (.dp T4)) y18, .dec false, .dec false, .dec false, .dec false, .res (.one (.dp T4)) y21, .dec false, .dec false, .dec false, .dec false, .dec false, .dec false, .res (.one (.dp T4)) y24, .dec false, .dec false, .dec false, .dec false, .dec false, .dec false, .res (.one (.dp T4)) y27, .dec false, .dec false, .dec true, .dec true, .dec true, .dec true, .dec true, .dec true, .dec true] [] [(0, 0)] (via (finP (And.intro (And.intro (And.intro (And.intro (And.intro (And.intro (And.intro (And.intro (And.intro (And.intro (And.intro (And.intro (And.intro (And.intro (And.intro (And.intro (And.intro (And.intro (And.intro (And.intro (And.intro (And.intro (And.intro (And.intro (And.intro trivial e19) (congrArg not e20)) (congrArg not e20)) (congrArg not e20)) (And.intro (congrArg not e20) e22)) (congrArg not e20)) (congrArg not e20)) (congrArg not e23)) (congrArg not e23)) (congrArg not e23)) (And.intro (congrArg not e23) e25)) (congrArg not e23)) (congrArg not e23)) (congrArg not e26)) (congrArg not e26)) (congrArg not e26)) (And.intro (congrArg not e26) e28)) (congrArg not e26)) (congrArg not e26)) (congrArg not e29)) (congrArg not e29)) (congrArg not e29)) (congrArg not e29)) (congrArg not e29)) (congrArg not e29)) .normal [(0, 0)] (body_Check.c2q a0 true)) (by kernel_rfl))))) (fun e26 =>
     Owp.some (triple_way (body_Check.cok k) hmix [.res (.one (.dp T4)) y18, .dec false, .dec false, .dec false, .dec false, .res (.one (.dp T4)) y21, .dec false, .dec false, .dec false, .dec false, .dec false, .dec false, .res (.one (.dp T4)) y24, .dec false, .dec false, .dec true, .dec true, .dec true, .dec true, .dec true, .dec true, .dec true, .dec true, .dec true, .dec true, .dec true, .dec true, .dec true, .dec true] [] [(0, 0)] (via (finP (And.intro (And.intro (And.intro (And.intro (And.intro (And.intro (And.intro (And.intro (And.intro (And.intro (And.intro (And.intro (And.intro (And.intro (And.intro (And.intro (And.intro (And.intro (And.intro (And.intro (And.intro (And.intro (And.intro (And.intro (And.intro trivial e19) (congrArg not e20)) (congrArg not e20)) (congrArg not e20)) (And.intro (congrArg not e20) e22)) (congrArg not e20)) (congrArg not e20)) (congrArg not e23)) (congrArg not e23)) (congrArg not e23)) (And.intro (congrArg not e23) e25)) (congrArg not e23)) (congrArg not e23)) (congrArg not e26)) (congrArg not e26)) (congrArg not e26)) (congrArg not e26)) (congrArg not e26)) (congrArg not e26)) tt) tt) tt) tt) tt) tt) .normal [(0, 0)] (body_Check.c2q a0 true)) (by kernel_rfl))))) (fun e23 =>
    Owp.some (triple_way (body_Check.cok k) hmix [.res (.one (.dp T4)) y18, .dec false, .dec false, .dec false, .dec false, .res (.one (.dp T4)) y21, .dec false, .dec false, .dec true, .dec true, .dec true, .dec true, .dec true, .dec true, .dec true, .dec true, .dec true, .dec true, .dec true, .dec true, .dec true, .dec true, .dec true, .dec true, .dec true, .dec true, .dec true, .dec true, .dec true] [] [(0, 0)] (via (finP (And.intro (And.intro (And.intro (And.intro (And.intro (And.intro (And.intro (And.intro (And.intro (And.intro (And.intro (And.intro (And.intro (And.intro (And.intro (And.intro (And.intro (And.intro (And.intro (And.intro (And.intro (And.intro (And.intro (And.intro (And.intro trivial e19) (congrArg not e20)) (congrArg not e20)) (congrArg not e20)) (And.intro (congrArg not e20) e22)) (congrArg not e20)) (congrArg not e20)) (congrArg not e23)) (congrArg not e23)) (congrArg not e23)) (congrArg not e23)) (congrArg not e23)) (congrArg not e23)) tt) tt) tt) tt) tt) tt) tt) tt) tt) tt) tt) tt) .normal [(0, 0)] (body_Check.c2q a0 true)) (by kernel_rfl))))) (fun e20 =>
   Owp.some (triple_way (body_Check.cok k) hmix [.res (.one (.dp T4)) y18, .dec true, .dec true, .dec true, .dec true, .dec true, .dec true, .dec true, .dec true, .dec true, .dec true, .dec true, .dec true, .dec true, .dec true, .dec true, .dec true, .dec true, .dec true, .dec true, .dec true, .dec true, .dec true, .dec true, .dec true, .dec true, .dec true, .dec true, .dec true] [] [(0, 0)] (via (finP (And.intro (And.intro (And.intro (And.intro (And.intro (And.intro (And.intro (And.intro (And.intro (And.intro (And.intro (And.intro (And.intro (And.intro (And.intro (And.intro (And.intro (And.intro (And.intro (And.intro (And.intro (And.intro (And.intro (And.intro (And.intro trivial e19) (congrArg not e20)) (congrArg not e20)) (congrArg not e20)) (congrArg not e20)) (congrArg not e20)) (congrArg not e20)) tt) tt) tt) tt) tt) tt) tt) tt) tt) tt) tt) tt) tt) tt) tt) tt) tt) tt) .normal [(0, 0)] (body_Check.c2q a0 true)) (by kernel_rfl))))
noncomputable def body_Check.c3p (a0 : V39) : SL := ⟨[(1, (.val .ptr ⟨0, 0, (0 : Int), 0, 0⟩))], [(0, .cells T39 a0)]⟩
noncomputable def body_Check.c3q (a0 : V39) (o : Bool) : SL := (fun v => ⟨[(1, (.val .ptr ⟨0, 0, (0 : Int), 0, 0⟩)), (5, (.val T4 v))], [(0, .cells T39 a0)]⟩) o
noncomputable def body_Check.c3x (o : Bool) : Ex := (fun _ => .normal) o
noncomputable def body_Check.c3n (o : Bool) : Nat := (fun _ => 1) o
theorem body_Check.c3_ok (k : Nat) (a0 : V39) : Owp (body_Check.c3 k a0) fun o => Triple PR (body_Check.cx k) (sub body_Check.code [1, 1, 1, 1, 1, 0]) 1 (body_Check.c3p a0) (body_Check.c3x o) (body_Check.c3n o) (body_Check.c3q a0 o) := by
  unfold body_Check.c3; exact
   Owp.bif (fun e35 =>
   Owp.some (triple_way (body_Check.cok k) hmix [.dec true, .dec true, .dec true, .dec true] [] [(0, 0)] (via (finP (And.intro (And.intro (And.intro (And.intro trivial e35) e35) e35) e35) .normal [(0, 0)] (body_Check.c3q a0 (ieq a0.2.2.2.1 (0 : Int)))) (by kernel_rfl)))) (fun e35 =>
   Owp.some (triple_way (body_Check.cok k) hmix [.dec false, .dec false, .dec false, .dec false] [] [(0, 0)] (via (finP (And.intro (And.intro (And.intro (And.intro trivial e35) e35) e35) e35) .normal [(0, 0)] (body_Check.c3q a0 false)) (by kernel_rfl))))
noncomputable def body_Check.c4p (a0 : V39) (o36 : Bool) : SL := ⟨[(1, (.val .ptr ⟨0, 0, (0 : Int), 0, 0⟩)), (5, (.val T4 o36))], [(0, .cells T39 a0)]⟩
noncomputable def body_Check.c4q (o : Bool) : SL := (fun v => ⟨[(110, (.val T4 v))], []⟩) o
noncomputable def body_Check.c4x (o : Bool) : Ex := (fun _ => .normal) o
noncomputable def body_Check.c4n (o : Bool) : Nat := (fun _ => 0) o
theorem body_Check.c4_ok (k : Nat) (a0 : V39) (o36 : Bool) : Owp (body_Check.c4 k a0 o36) fun o => Triple PR (body_Check.cx k) (sub body_Check.code [1, 1, 1, 1, 1, 1, 0, 0]) 1 (body_Check.c4p a0 o36) (body_Check.c4x o) (body_Check.c4n o) (body_Check.c4q o) := by
  unfold body_Check.c4; exact
   Owp.bif (fun e38 =>
   Owp.bif (fun e39 =>
    Owp.bif (fun e40 =>
     Owp.bif (fun e41 =>
      Owp.some (triple_way (body_Check.cok k) hmix [.dec false, .dec false, .dec false, .dec false, .dec true, .dec true, .dec true, .dec false, .dec false, .dec true, .dec false, .dec true, .dec true, .dec true, .dec true, .dec true, .dec true, .dec false, .dec true, .dec false, .dec true, .dec true, .dec true, .dec true, .dec true, .dec true, .dec true, .dec true] [] [] (via (finP (And.intro (And.intro (And.intro (And.intro (And.intro (And.intro (And.intro (And.intro (And.intro (And.intro (And.intro (And.intro (And.intro (And.intro (And.intro (And.intro (And.intro (And.intro (And.intro (And.intro (And.intro (And.intro trivial (congrArg not e38)) (congrArg not e38)) (congrArg not e38)) (congrArg not e38)) e39) e39) e39) (congrArg not e40)) (congrArg not e40)) (And.intro e39 (congrArg not e40))) e39) e41) e41) e41) (And.intro e39 e41)) (And.intro (congrArg not e38) e39)) (congrArg not e38)) tt) tt) tt) tt) tt) .normal [] (body_Check.c4q true)) (by kernel_rfl)))) (fun e41 =>
      Owp.bif (fun e42 =>
       Owp.some (triple_way (body_Check.cok k) hmix [.dec false, .dec false, .dec false, .dec false, .dec true, .dec true, .dec true, .dec false, .dec false, .dec true, .dec false, .dec true, .dec false, .dec false, .dec false, .dec true, .dec false, .dec false, .dec true, .dec false, .dec true, .dec true, .dec true, .dec true, .dec true, .dec true, .dec true, .dec true] [] [] (via (finP (And.intro (And.intro (And.intro (And.intro (And.intro (And.intro (And.intro (And.intro (And.intro (And.intro (And.intro (And.intro (And.intro (And.intro (And.intro (And.intro (And.intro (And.intro (And.intro (And.intro (And.intro (And.intro trivial (congrArg not e38)) (congrArg not e38)) (congrArg not e38)) (congrArg not e38)) e39) e39) e39) (congrArg not e40)) (congrArg not e40)) (And.intro e39 (congrArg not e40))) e39) e41) e41) e41) (And.intro e39 e41)) (And.intro (congrArg not e38) e39)) (congrArg not e38)) e42) e42) e42) e42) e42) .normal [] (body_Check.c4q true)) (by kernel_rfl)))) (fun e42 =>
       Owp.some (triple_way (body_Check.cok k) hmix [.dec false, .dec false, .dec false, .dec false, .dec true, .dec true, .dec true, .dec false, .dec false, .dec true, .dec false, .dec true, .dec false, .dec false, .dec false, .dec true, .dec false, .dec false, .dec true, .dec false, .dec false, .dec false, .dec false, .dec false, .dec false, .dec false, .dec false, .dec false] [] [] (via (finP (And.intro (And.intro (And.intro (And.intro (And.intro (And.intro (And.intro (And.intro (And.intro (And.intro (And.intro (And.intro (And.intro (And.intro (And.intro (And.intro (And.intro (And.intro (And.intro (And.intro (And.intro (And.intro (And.intro (And.intro trivial (congrArg not e38)) (congrArg not e38)) (congrArg not e38)) (congrArg not e38)) e39) e39) e39) (congrArg not e40)) (congrArg not e40)) (And.intro e39 (congrArg not e40))) e39) e41) e41) e41) (And.intro e39 e41)) (And.intro (congrArg not e38) e39)) (congrArg not e38)) e42) e42) e42) e41) e41) (And.intro e42 e41)) e42) .normal [] (body_Check.c4q false)) (by kernel_rfl)))))) (fun e40 =>
     Owp.some (triple_way (body_Check.cok k) hmix [.dec false, .dec false, .dec false, .dec false, .dec true, .dec true, .dec true, .dec true, .dec true, .dec true, .dec true, .dec true, .dec true, .dec true, .dec true, .dec true, .dec true, .dec false, .dec true, .dec false, .dec true, .dec true, .dec true, .dec true, .dec true, .dec true, .dec true, .dec true] [] [] (via (finP (And.intro (And.intro (And.intro (And.intro (And.intro (And.intro (And.intro (And.intro (And.intro (And.intro (And.intro (And.intro (And.intro (And.intro (And.intro (And.intro (And.intro (And.intro (And.intro (And.intro (And.intro (And.intro trivial (congrArg not e38)) (congrArg not e38)) (congrArg not e38)) (congrArg not e38)) e39) e39) e39) (congrArg not e40)) (congrArg not e40)) (And.intro e39 (congrArg not e40))) e39) tt) tt) tt) (And.intro e39 tt)) (And.intro (congrArg not e38) e39)) (congrArg not e38)) tt) tt) tt) tt) tt) .normal [] (body_Check.c4q true)) (by kernel_rfl))))) (fun e39 =>
    Owp.bif (fun e43 =>
     Owp.some (triple_way (body_Check.cok k) hmix [.dec false, .dec false, .dec false, .dec false, .dec false, .dec false, .dec false, .dec true, .dec true, .dec false, .dec true, .dec false, .dec true, .dec true, .dec true, .dec false, .dec true, .dec false, .dec false, .dec false, .dec false, .dec false, .dec false, .dec true, .dec true, .dec false, .dec true, .dec false] [] [] (via (finP (And.intro (And.intro (And.intro (And.intro (And.intro (And.intro (And.intro (And.intro (And.intro (And.intro (And.intro (And.intro (And.intro (And.intro (And.intro (And.intro (And.intro (And.intro (And.intro trivial (congrArg not e38)) (congrArg not e38)) (congrArg not e38)) (congrArg not e38)) e39) e39) e39) e39) e39) e39) (And.intro (congrArg not e38) e39)) (congrArg not e38)) ff) ff) ff) e43) e43) (And.intro ff e43)) ff) .normal [] (body_Check.c4q (!o36))) (by kernel_rfl)))) (fun e43 =>
     Owp.some (triple_way (body_Check.cok k) hmix [.dec false, .dec false, .dec false, .dec false, .dec false, .dec false, .dec false, .dec true, .dec true, .dec false, .dec true, .dec false, .dec true, .dec true, .dec true, .dec false, .dec true, .dec false, .dec false, .dec false, .dec false, .dec false, .dec false, .dec false, .dec false, .dec false, .dec false, .dec false] [] [] (via (finP (And.intro (And.intro (And.intro (And.intro (And.intro (And.intro (And.intro (And.intro (And.intro (And.intro (And.intro (And.intro (And.intro (And.intro (And.intro (And.intro (And.intro (And.intro (And.intro trivial (congrArg not e38)) (congrArg not e38)) (congrArg not e38)) (congrArg not e38)) e39) e39) e39) e39) e39) e39) (And.intro (congrArg not e38) e39)) (congrArg not e38)) ff) ff) ff) e43) e43) (And.intro ff e43)) ff) .normal [] (body_Check.c4q false)) (by kernel_rfl)))))) (fun e38 =>
   Owp.some (triple_way (body_Check.cok k) hmix [.dec true, .dec true, .dec true, .dec true, .dec true, .dec true, .dec true, .dec true, .dec true, .dec true, .dec true, .dec true, .dec true, .dec true, .dec true, .dec true, .dec true, .dec true, .dec true, .dec true, .dec true, .dec true, .dec true, .dec true, .dec true, .dec true, .dec true, .dec true] [] [] (via (finP (And.intro (And.intro (And.intro (And.intro (And.intro (And.intro (And.intro (And.intro (And.intro (And.intro (And.intro trivial (congrArg not e38)) (congrArg not e38)) (congrArg not e38)) (congrArg not e38)) (congrArg not e38)) (congrArg not e38)) tt) tt) tt) tt) tt) .normal [] (body_Check.c4q true)) (by kernel_rfl))))
theorem body_Check.way (k : Nat) (a0 : V39) : Owp (body_Check k a0) fun y => ∃ answers cmds, exec PR (body_Check.cx k) body_Check.code 0 (entry (.pair T39 .unit) (a0, ())).st answers (Ret (body_Check.cx k) Try.f42 cmds (.one (.dp T2)) y) := by
  unfold body_Check; exact
   Owp.bnd fun y1 e2 =>
   Owp.bif (fun e3 =>
   Owp.some (⟨[.res (.one (.dp T2)) y1, .dec true], [], via (retP (And.intro (And.intro trivial e2) e3) (.one (.dp T2)) (y1 : Int)) (by kernel_rfl)⟩)) (fun e3 =>
   Owp.bnd fun o15 e16 =>
    Owp.bif (fun e17 =>
    Owp.some (⟨[.res (.one (.dp T2)) y1, .dec false, .cutR 5 ⟨[], [(0, 0)], (body_Check.c1p a0), 1, .normal, (body_Check.c1q a0 o15), 1⟩, .dec true], [], via (cutP (And.intro (And.intro trivial e2) e3) [(0, 0)] (body_Check.c1p a0) (((body_Check.c1_ok k a0).ap e16)) (retP (And.intro trivial e17) (.one (.dp T2)) ((1 : Int) : Int))) (by kernel_rfl)⟩)) (fun e17 =>
    Owp.bnd fun o32 e33 =>
     Owp.bif (fun e34 =>
     Owp.some (⟨[.res (.one (.dp T2)) y1, .dec false, .cutR 5 ⟨[], [(0, 0)], (body_Check.c1p a0), 1, .normal, (body_Check.c1q a0 o15), 1⟩, .dec false, .cutR 7 ⟨[], [(0, 0)], (body_Check.c2p a0), 1, .normal, (body_Check.c2q a0 o32), 1⟩, .dec true], [], via (cutP (And.intro (And.intro trivial e2) e3) [(0, 0)] (body_Check.c1p a0) (((body_Check.c1_ok k a0).ap e16)) (cutP (And.intro trivial e17) [(0, 0)] (body_Check.c2p a0) (((body_Check.c2_ok k a0).ap e33)) (retP (And.intro trivial e34) (.one (.dp T2)) ((1 : Int) : Int)))) (by kernel_rfl)⟩)) (fun e34 =>
     Owp.bnd fun o36 e37 =>
      Owp.bnd fun o44 e45 =>
      Owp.bif (fun e46 =>
      Owp.some (⟨[.res (.one (.dp T2)) y1, .dec false, .cutR 5 ⟨[], [(0, 0)], (body_Check.c1p a0), 1, .normal, (body_Check.c1q a0 o15), 1⟩, .dec false, .cutR 7 ⟨[], [(0, 0)], (body_Check.c2p a0), 1, .normal, (body_Check.c2q a0 o32), 1⟩, .dec false, .cutR 9 ⟨[], [(0, 0)], (body_Check.c3p a0), 1, .normal, (body_Check.c3q a0 o36), 1⟩, .cutR 10 ⟨[], [(0, 0)], (body_Check.c4p a0 o36), 1, .normal, (body_Check.c4q o44), 0⟩, .dec true], [], via (cutP (And.intro (And.intro trivial e2) e3) [(0, 0)] (body_Check.c1p a0) (((body_Check.c1_ok k a0).ap e16)) (cutP (And.intro trivial e17) [(0, 0)] (body_Check.c2p a0) (((body_Check.c2_ok k a0).ap e33)) (cutP (And.intro trivial e34) [(0, 0)] (body_Check.c3p a0) (((body_Check.c3_ok k a0).ap e37)) (cutP trivial [(0, 0)] (body_Check.c4p a0 o36) (((body_Check.c4_ok k a0 o36).ap e45)) (retP (And.intro trivial e46) (.one (.dp T2)) ((3 : Int) : Int)))))) (by kernel_rfl)⟩)) (fun e46 =>
      Owp.some (⟨[.res (.one (.dp T2)) y1, .dec false, .cutR 5 ⟨[], [(0, 0)], (body_Check.c1p a0), 1, .normal, (body_Check.c1q a0 o15), 1⟩, .dec false, .cutR 7 ⟨[], [(0, 0)], (body_Check.c2p a0), 1, .normal, (body_Check.c2q a0 o32), 1⟩, .dec false, .cutR 9 ⟨[], [(0, 0)], (body_Check.c3p a0), 1, .normal, (body_Check.c3q a0 o36), 1⟩, .cutR 10 ⟨[], [(0, 0)], (body_Check.c4p a0 o36), 1, .normal, (body_Check.c4q o44), 0⟩, .dec false], [], via (cutP (And.intro (And.intro trivial e2) e3) [(0, 0)] (body_Check.c1p a0) (((body_Check.c1_ok k a0).ap e16)) (cutP (And.intro trivial e17) [(0, 0)] (body_Check.c2p a0) (((body_Check.c2_ok k a0).ap e33)) (cutP (And.intro trivial e34) [(0, 0)] (body_Check.c3p a0) (((body_Check.c3_ok k a0).ap e37)) (cutP trivial [(0, 0)] (body_Check.c4p a0 o36) (((body_Check.c4_ok k a0 o36).ap e45)) (retP (And.intro trivial e46) (.one (.dp T2)) ((0 : Int) : Int)))))) (by kernel_rfl)⟩)))))
theorem body_Check.ok (k : Nat) : FnOk PR 42 (body_Check.sp k) :=
  fn_ok (body_Check.cok k) hmix Try.func42 (code := body_Check.code) (by kernel_rfl) (by kernel_rfl) (by kernel_rfl) rfl (by kernel_rfl) (by kernel_rfl) (by kernel_rfl) (fun x => Nat.le_of_ble_eq_true (by kernel_rfl)) fun x y hy => (body_Check.way k x.1).ap hy

/-! tourney/body.Place -/
noncomputable def body_Place.code : Code := Func.cd Try.f16
def body_Place.c1 (k : Nat) (a0 : V39) : Nat → Int → (List V28) → Option ((List V28))
  | 0, _, _ => none
  | n + 1, v4, v5 =>
   bif' (ilt v4 (len a0.2.2.2.2.2.2.2.2.1))
   (req (inL v4 a0.2.2.2.2.2.2.2.2.1) <|
    bnd (vec_Turn k (el Z28 a0.2.2.2.2.2.2.2.2.1 v4) a0.2.2.1) fun y8 =>
    bnd (vec_Add k y8 a0.1) fun y10 =>
    req (room 16 v5 [y10]) <|
    body_Place.c1 k a0 n (iadd .i64 v4 1) (v5 ++ [y10]))
   (some v5)
def body_Place (k : Nat) (a0 : V39) : Option (List V28) :=
  bnd (body_Check k a0) fun y1 =>
  bif' (ine y1 0)
  (some [])
  (bnd (body_Place.c1 k a0 k 0 []) fun o13 =>
   some o13)
noncomputable def body_Place.sp (k : Nat) : Go.Sx.Spec := ⟨(.pair T39 .unit), (.one (.ow T28 29)), fun x => body_Place k x.1, false⟩
noncomputable def body_Place.cx (k : Nat) : Go.Sx.Ctx := ⟨tys, [(42, body_Check.sp k), (44, vec_Turn.sp k), (43, vec_Add.sp k)], eqs, 28, false⟩
theorem body_Place.cok (k : Nat) : CtxOk PR (body_Place.cx k) := ctx_ok tysOk eqsOk (FnsOk.cons (body_Check.ok k) (FnsOk.cons (vec_Turn.ok k) (FnsOk.cons (vec_Add.ok k) FnsOk.nil)))
noncomputable def body_Place.c1p (a0 : V39) (v4 : Int) (v5 : (List V28)) : SL := ⟨[(1, (.val .ptr ⟨0, 0, (0 : Int), 0, 0⟩)), (3, (.val .own (1 : Nat))), (10, (.val T23 a0.2.2.2.2.2.2.2.2.1)), (11, (.val T2 (len a0.2.2.2.2.2.2.2.2.1))), (12, (.val T2 v4))], [(0, .cells T39 a0), (1, .row T28 v5 29)]⟩
noncomputable def body_Place.c1q (o : (List V28)) : SL := (fun v => ⟨[(3, (.val .own (0 : Nat)))], [(0, .row T28 v 29)]⟩) o
noncomputable def body_Place.c1x (o : (List V28)) : Ex := (fun _ => (.exit 0)) o
noncomputable def body_Place.c1n (o : (List V28)) : Nat := (fun _ => 1) o
theorem body_Place.c1_ok (k : Nat) (a0 : V39) : ∀ (n : Nat) (v4 : Int) (v5 : (List V28)), Owp (body_Place.c1 k a0 n v4 v5) fun o => LTriple PR (body_Place.cx k) (sub body_Place.code [1, 1, 1, 0, 1, 0, 0]) 2 (body_Place.c1p a0 v4 v5) (body_Place.c1x o) (body_Place.c1n o) (body_Place.c1q o)
  | 0, _, _ => fun _ h => nomatch h
  | n + 1, v4, v5 => Owp.of (body_Place.c1.eq_2 ..) (
   Owp.bif (fun e6 =>
   Owp.req fun h7 =>
    Owp.bnd fun y8 e9 =>
    Owp.bnd fun y10 e11 =>
    Owp.req fun h12 =>
    fun y hy => loop_back (body_Place.cok k) hmix 2 (body_Place.c1p a0 (iadd .i64 v4 (1 : Int)) (v5 ++ [y10])) [.dec true, .res (.one (.dp T28)) y8, .res (.one (.dp T28)) y10, .dec true] [] [(0, 0), (1, 16)] (via (finP (And.intro (And.intro (And.intro (And.intro (And.intro trivial e6) h7) e9) e11) h12) .normal [(0, 0), (1, 16)] (body_Place.c1p a0 (iadd .i64 v4 (1 : Int)) (v5 ++ [y10]))) (by kernel_rfl)) ((body_Place.c1_ok k a0 n (iadd .i64 v4 (1 : Int)) (v5 ++ [y10])).ap hy)) (fun e6 =>
   Owp.some (loop_exit (body_Place.cok k) hmix [.dec false] [] [(0, 1)] (exne 0) (via (finP (And.intro trivial e6) (.exit 0) [(0, 1)] (body_Place.c1q v5)) (by kernel_rfl)))))
theorem body_Place.way (k : Nat) (a0 : V39) : Owp (body_Place k a0) fun y => ∃ answers cmds, exec PR (body_Place.cx k) body_Place.code 0 (entry (.pair T39 .unit) (a0, ())).st answers (Ret (body_Place.cx k) Try.f16 cmds (.one (.ow T28 29)) y) := by
  unfold body_Place; exact
   Owp.bnd fun y1 e2 =>
   Owp.bif (fun e3 =>
   Owp.some (⟨[.res (.one (.dp T2)) y1, .dec true], [.own 2 T28 29], via (retP (And.intro (And.intro trivial e2) e3) (.one (.ow T28 29)) ([] : (List V28))) (by kernel_rfl)⟩)) (fun e3 =>
   Owp.bnd fun o13 e14 =>
    Owp.some (⟨[.res (.one (.dp T2)) y1, .dec false, .cut ⟨[.own 3 T28 29], [(0, 0), (1, 10)], (body_Place.c1p a0 (0 : Int) []), 2, (.exit 0), (body_Place.c1q o13), 1⟩], [], via (cutP (And.intro (And.intro trivial e2) e3) [(0, 0), (1, 10)] (body_Place.c1p a0 (0 : Int) []) (((body_Place.c1_ok k a0 k (0 : Int) []).ap e14).triple) (retP trivial (.one (.ow T28 29)) (o13 : (List V28)))) (by kernel_rfl)⟩))
theorem body_Place.ok (k : Nat) : FnOk PR 16 (body_Place.sp k) :=
  fn_ok (body_Place.cok k) hmix Try.func16 (code := body_Place.code) (by kernel_rfl) (by kernel_rfl) (by kernel_rfl) rfl (by kernel_rfl) (by kernel_rfl) (by kernel_rfl) (fun x => Nat.le_of_ble_eq_true (by kernel_rfl)) fun x y hy => (body_Place.way k x.1).ap hy

/-! tourney/body.own -/
noncomputable def body_own.code : Code := Func.cd Try.f65
def body_own (k : Nat) (a0 : V39) : Option V39 :=
  bnd (slices_Clone k a0.2.2.2.2.2.2.2.2.1) fun y1 =>
  some (a0.1, a0.2.1, a0.2.2.1, a0.2.2.2.1, a0.2.2.2.2.1, a0.2.2.2.2.2.1, a0.2.2.2.2.2.2.1, a0.2.2.2.2.2.2.2.1, y1, a0.2.2.2.2.2.2.2.2.2)
noncomputable def body_own.sp (k : Nat) : Go.Sx.Spec := ⟨(.pair T39 .unit), (.one (.dp T39)), fun x => body_own k x.1, false⟩
noncomputable def body_own.cx (k : Nat) : Go.Sx.Ctx := ⟨tys, [(91, slices_Clone.sp k)], eqs, 8, false⟩
theorem body_own.cok (k : Nat) : CtxOk PR (body_own.cx k) := ctx_ok tysOk eqsOk (FnsOk.cons (slices_Clone.ok k) FnsOk.nil)
theorem body_own.way (k : Nat) (a0 : V39) : Owp (body_own k a0) fun y => ∃ answers cmds, exec PR (body_own.cx k) body_own.code 0 (entry (.pair T39 .unit) (a0, ())).st answers (Ret (body_own.cx k) Try.f65 cmds (.one (.dp T39)) y) := by
  unfold body_own; exact
   Owp.bnd fun y1 e2 =>
   Owp.some (⟨[.res (.one (.dp T23)) y1], [], via (retP (And.intro trivial e2) (.one (.dp T39)) ((a0.1, a0.2.1, a0.2.2.1, a0.2.2.2.1, a0.2.2.2.2.1, a0.2.2.2.2.2.1, a0.2.2.2.2.2.2.1, a0.2.2.2.2.2.2.2.1, y1, a0.2.2.2.2.2.2.2.2.2) : V39)) (by kernel_rfl)⟩)
theorem body_own.ok (k : Nat) : FnOk PR 65 (body_own.sp k) :=
  fn_ok (body_own.cok k) hmix Try.func65 (code := body_own.code) (by kernel_rfl) (by kernel_rfl) (by kernel_rfl) rfl (by kernel_rfl) (by kernel_rfl) (by kernel_rfl) (fun x => Nat.le_of_ble_eq_true (by kernel_rfl)) fun x y hy => (body_own.way k x.1).ap hy

/-! tourney/body.clamp -/
noncomputable def body_clamp.code : Code := Func.cd Try.f66
def body_clamp (k : Nat) (a0 : Int) (a1 : Int) : Option Int :=
  some (imin (imax a0 (ineg .i64 a1)) a1)
noncomputable def body_clamp.sp (k : Nat) : Go.Sx.Spec := ⟨T28, (.one (.dp T2)), fun x => body_clamp k x.1 x.2.1, false⟩
noncomputable def body_clamp.cx (k : Nat) : Go.Sx.Ctx := ⟨tys, [], eqs, 11, false⟩
theorem body_clamp.cok (k : Nat) : CtxOk PR (body_clamp.cx k) := ctx_ok tysOk eqsOk FnsOk.nil
theorem body_clamp.way (k : Nat) (a0 : Int) (a1 : Int) : Owp (body_clamp k a0 a1) fun y => ∃ answers cmds, exec PR (body_clamp.cx k) body_clamp.code 0 (entry T28 (a0, a1, ())).st answers (Ret (body_clamp.cx k) Try.f66 cmds (.one (.dp T2)) y) := by
  unfold body_clamp; exact
   Owp.some (⟨[], [], via (retP trivial (.one (.dp T2)) ((imin (imax a0 (ineg .i64 a1)) a1) : Int)) (by kernel_rfl)⟩)
theorem body_clamp.ok (k : Nat) : FnOk PR 66 (body_clamp.sp k) :=
  fn_ok (body_clamp.cok k) hmix Try.func66 (code := body_clamp.code) (by kernel_rfl) (by kernel_rfl) (by kernel_rfl) rfl (by kernel_rfl) (by kernel_rfl) (by kernel_rfl) (fun x => Nat.le_of_ble_eq_true (by kernel_rfl)) fun x y hy => (body_clamp.way k x.1 x.2.1).ap hy

/-! tourney/body.Move -/
noncomputable def body_Move.code : Code := Func.cd Try.f38
def body_Move.c1 (k : Nat) (a1 : Int) (y1 : V39) : Option (Bool) :=
  bnd (body_Check k y1) fun y3 =>
  bif' (ine y3 0)
  (some true)
  (bif' (ieq y1.2.2.2.2.1 0)
   (some true)
   (bif' y1.2.2.2.2.2.2.2.2.2.1
    (some true)
    (bif' (ilt a1 0)
     (some true)
     (some (igt a1 65536)))))
def body_Move (k : Nat) (a0 : V39) (a1 : Int) : Option V39 :=
  bnd (body_own k a0) fun y1 =>
  bnd (body_Move.c1 k a1 y1) fun o9 =>
  bif' o9
  (some y1)
  (bnd (fix_Mul k y1.2.1.1 a1) fun y12 =>
   bnd (body_clamp k (iadd .i64 y1.1.1 y12) 58982400) fun y14 =>
   bnd (fix_Mul k y1.2.1.2.1 a1) fun y16 =>
   bnd (body_clamp k (iadd .i64 y1.1.2.1 y16) 58982400) fun y18 =>
   bnd (fix_Mul k y1.2.2.2.1 a1) fun y20 =>
   some ((y14, y18, ()), y1.2.1, (irem (iadd .i64 (irem (iadd .i64 y1.2.2.1 y20) 65536) 65536) 65536), y1.2.2.2))
noncomputable def body_Move.sp (k : Nat) : Go.Sx.Spec := ⟨(.pair T39 (.pair T2 .unit)), (.one (.dp T39)), fun x => body_Move k x.1 x.2.1, false⟩
noncomputable def body_Move.cx (k : Nat) : Go.Sx.Ctx := ⟨tys, [(65, body_own.sp k), (42, body_Check.sp k), (39, fix_Mul.sp k), (66, body_clamp.sp k)], eqs, 64, false⟩
theorem body_Move.cok (k : Nat) : CtxOk PR (body_Move.cx k) := ctx_ok tysOk eqsOk (FnsOk.cons (body_own.ok k) (FnsOk.cons (body_Check.ok k) (FnsOk.cons (fix_Mul.ok k) (FnsOk.cons (body_clamp.ok k) FnsOk.nil))))
noncomputable def body_Move.c1p (a1 : Int) (y1 : V39) : SL := ⟨[(1, (.val T2 a1)), (2, (.val .ptr ⟨0, 0, (0 : Int), 0, 0⟩)), (4, (.val .ptr ⟨1, 0, (0 : Int), 0, 0⟩))], [(0, .cells T39 y1), (1, .cells T39 (((0 : Int), (0 : Int), ()), ((0 : Int), (0 : Int), ()), (0 : Int), (0 : Int), (0 : Int), (0 : Int), (0 : Int), (0 : Int), [], false, (0 : Int), ()))]⟩
noncomputable def body_Move.c1q (a1 : Int) (y1 : V39) (o : Bool) : SL := (fun v => ⟨[(1, (.val T2 a1)), (2, (.val .ptr ⟨0, 0, (0 : Int), 0, 0⟩)), (4, (.val .ptr ⟨1, 0, (0 : Int), 0, 0⟩)), (26, (.val T4 v))], [(0, .cells T39 y1), (1, .cells T39 (((0 : Int), (0 : Int), ()), ((0 : Int), (0 : Int), ()), (0 : Int), (0 : Int), (0 : Int), (0 : Int), (0 : Int), (0 : Int), [], false, (0 : Int), ()))]⟩) o
noncomputable def body_Move.c1x (o : Bool) : Ex := (fun _ => .normal) o
noncomputable def body_Move.c1n (o : Bool) : Nat := (fun _ => 2) o
theorem body_Move.c1_ok (k : Nat) (a1 : Int) (y1 : V39) : Owp (body_Move.c1 k a1 y1) fun o => Triple PR (body_Move.cx k) (sub body_Move.code [1, 1, 0, 0]) 2 (body_Move.c1p a1 y1) (body_Move.c1x o) (body_Move.c1n o) (body_Move.c1q a1 y1 o) := by
  unfold body_Move.c1; exact
   Owp.bnd fun y3 e4 =>
   Owp.bif (fun e5 =>
   Owp.some (triple_way (body_Move.cok k) hmix [.res (.one (.dp T2)) y3, .dec true, .dec true, .dec true, .dec true, .dec true, .dec true, .dec true, .dec true, .dec true, .dec true, .dec true, .dec true, .dec true] [] [(0, 0), (1, 1)] (via (finP (And.intro (And.intro (And.intro (And.intro (And.intro (And.intro (And.intro (And.intro (And.intro (And.intro (And.intro (And.intro (And.intro (And.intro trivial e4) e5) e5) e5) e5) tt) tt) tt) tt) tt) tt) tt) tt) tt) .normal [(0, 0), (1, 1)] (body_Move.c1q a1 y1 true)) (by kernel_rfl)))) (fun e5 =>
   Owp.bif (fun e6 =>
    Owp.some (triple_way (body_Move.cok k) hmix [.res (.one (.dp T2)) y3, .dec false, .dec false, .dec false, .dec false, .dec true, .dec true, .dec true, .dec true, .dec true, .dec true, .dec true, .dec true, .dec true] [] [(0, 0), (1, 1)] (via (finP (And.intro (And.intro (And.intro (And.intro (And.intro (And.intro (And.intro (And.intro (And.intro (And.intro (And.intro (And.intro (And.intro (And.intro trivial e4) e5) e5) e5) e5) e6) e6) e6) tt) tt) tt) tt) tt) tt) .normal [(0, 0), (1, 1)] (body_Move.c1q a1 y1 true)) (by kernel_rfl)))) (fun e6 =>
    Owp.bif (fun e7 =>
     Owp.some (triple_way (body_Move.cok k) hmix [.res (.one (.dp T2)) y3, .dec false, .dec false, .dec false, .dec false, .dec false, .dec false, .dec false, .dec true, .dec true, .dec true, .dec true, .dec true, .dec true] [] [(0, 0), (1, 1)] (via (finP (And.intro (And.intro (And.intro (And.intro (And.intro (And.intro (And.intro (And.intro (And.intro (And.intro (And.intro (And.intro (And.intro (And.intro trivial e4) e5) e5) e5) e5) e6) e6) e6) e7) e7) e7) tt) tt) tt) .normal [(0, 0), (1, 1)] (body_Move.c1q a1 y1 true)) (by kernel_rfl)))) (fun e7 =>
     Owp.bif (fun e8 =>
      Owp.some (triple_way (body_Move.cok k) hmix [.res (.one (.dp T2)) y3, .dec false, .dec false, .dec false, .dec false, .dec false, .dec false, .dec false, .dec false, .dec false, .dec false, .dec true, .dec true, .dec true] [] [(0, 0), (1, 1)] (via (finP (And.intro (And.intro (And.intro (And.intro (And.intro (And.intro (And.intro (And.intro (And.intro (And.intro (And.intro (And.intro (And.intro (And.intro trivial e4) e5) e5) e5) e5) e6) e6) e6) e7) e7) e7) e8) e8) e8) .normal [(0, 0), (1, 1)] (body_Move.c1q a1 y1 true)) (by kernel_rfl)))) (fun e8 =>
      Owp.some (triple_way (body_Move.cok k) hmix [.res (.one (.dp T2)) y3, .dec false, .dec false, .dec false, .dec false, .dec false, .dec false, .dec false, .dec false, .dec false, .dec false, .dec false, .dec false, .dec false] [] [(0, 0), (1, 1)] (via (finP (And.intro (And.intro (And.intro (And.intro (And.intro (And.intro (And.intro (And.intro (And.intro (And.intro (And.intro (And.intro (And.intro (And.intro trivial e4) e5) e5) e5) e5) e6) e6) e6) e7) e7) e7) e8) e8) e8) .normal [(0, 0), (1, 1)] (body_Move.c1q a1 y1 (igt a1 (65536 : Int)))) (by kernel_rfl)))))))
theorem body_Move.way (k : Nat) (a0 : V39) (a1 : Int) : Owp (body_Move k a0 a1) fun y => ∃ answers cmds, exec PR (body_Move.cx k) body_Move.code 0 (entry (.pair T39 (.pair T2 .unit)) (a0, a1, ())).st answers (Ret (body_Move.cx k) Try.f38 cmds (.one (.dp T39)) y) := by
  unfold body_Move; exact
   Owp.bnd fun y1 e2 =>
   Owp.bnd fun o9 e10 =>
   Owp.bif (fun e11 =>
   Owp.some (⟨[.res (.one (.dp T39)) y1, .cutR 2 ⟨[], [(0, 0), (1, 1)], (body_Move.c1p a1 y1), 2, .normal, (body_Move.c1q a1 y1 o9), 2⟩, .dec true], [], via (cutP (And.intro trivial e2) [(0, 0), (1, 1)] (body_Move.c1p a1 y1) (((body_Move.c1_ok k a1 y1).ap e10)) (retP (And.intro trivial e11) (.one (.dp T39)) (y1 : V39))) (by kernel_rfl)⟩)) (fun e11 =>
   Owp.bnd fun y12 e13 =>
    Owp.bnd fun y14 e15 =>
    Owp.bnd fun y16 e17 =>
    Owp.bnd fun y18 e19 =>
    Owp.bnd fun y20 e21 =>
    Owp.some (⟨[.res (.one (.dp T39)) y1, .cutR 2 ⟨[], [(0, 0), (1, 1)], (body_Move.c1p a1 y1), 2, .normal, (body_Move.c1q a1 y1 o9), 2⟩, .dec false, .res (.one (.dp T2)) y12, .res (.one (.dp T2)) y14, .res (.one (.dp T2)) y16, .res (.one (.dp T2)) y18, .res (.one (.dp T2)) y20], [], via (cutP (And.intro trivial e2) [(0, 0), (1, 1)] (body_Move.c1p a1 y1) (((body_Move.c1_ok k a1 y1).ap e10)) (retP (And.intro (And.intro (And.intro (And.intro (And.intro (And.intro (And.intro (And.intro trivial e11) e13) e15) e17) e19) e21) (by decide : nz (65536 : Int))) (by decide : nz (65536 : Int))) (.one (.dp T39)) (((y14, y18, ()), y1.2.1, (irem (iadd .i64 (irem (iadd .i64 y1.2.2.1 y20) (65536 : Int)) (65536 : Int)) (65536 : Int)), y1.2.2.2) : V39))) (by kernel_rfl)⟩))
theorem body_Move.ok (k : Nat) : FnOk PR 38 (body_Move.sp k) :=
  fn_ok (body_Move.cok k) hmix Try.func38 (code := body_Move.code) (by kernel_rfl) (by kernel_rfl) (by kernel_rfl) rfl (by kernel_rfl) (by kernel_rfl) (by kernel_rfl) (fun x => Nat.le_of_ble_eq_true (by kernel_rfl)) fun x y hy => (body_Move.way k x.1 x.2.1).ap hy

/-! tourney/tourkeep2.block -/
noncomputable def tourkeep2_block.code : Code := Func.cd Try.f45
def tourkeep2_block (k : Nat) (a0 : Int) (a1 : Int) (a2 : Int) (a3 : Bool) : Option V39 :=
  bnd (tourkeep2_square k 0 0 a2) fun y1 =>
  bif' a3
  (some (((imul .i64 a0 65536), (imul .i64 a1 65536), ()), (0, 0, ()), 0, 0, 65536, 65536, 0, 0, y1, false, 0, ()))
  (some (((imul .i64 a0 65536), (imul .i64 a1 65536), ()), (0, 0, ()), 0, 0, 0, 0, 0, 0, y1, false, 0, ()))
noncomputable def tourkeep2_block.sp (k : Nat) : Go.Sx.Spec := ⟨(.pair T2 (.pair T2 (.pair T2 (.pair T4 .unit)))), (.one (.dp T39)), fun x => tourkeep2_block k x.1 x.2.1 x.2.2.1 x.2.2.2.1, false⟩
noncomputable def tourkeep2_block.cx (k : Nat) : Go.Sx.Ctx := ⟨tys, [(8, (tourkeep2_square.sp k).frz)], eqs, 22, false⟩
theorem tourkeep2_block.cok (k : Nat) : CtxOk PR (tourkeep2_block.cx k) := ctx_ok tysOk eqsOk (FnsOk.cons (FnOk.frz rfl (tourkeep2_square.ok k)) FnsOk.nil)
theorem tourkeep2_block.way (k : Nat) (a0 : Int) (a1 : Int) (a2 : Int) (a3 : Bool) : Owp (tourkeep2_block k a0 a1 a2 a3) fun y => ∃ answers cmds, exec PR (tourkeep2_block.cx k) tourkeep2_block.code 0 (entry (.pair T2 (.pair T2 (.pair T2 (.pair T4 .unit)))) (a0, a1, a2, a3, ())).st answers (Ret (tourkeep2_block.cx k) Try.f45 cmds (.one (.dp T39)) y) := by
  unfold tourkeep2_block; exact
   Owp.bnd fun y1 e2 =>
   Owp.bif (fun e3 =>
   Owp.some (⟨[.res (.one (.dp T23)) y1, .dec true], [], via (retP (And.intro (And.intro trivial e2) e3) (.one (.dp T39)) ((((imul .i64 a0 (65536 : Int)), (imul .i64 a1 (65536 : Int)), ()), ((0 : Int), (0 : Int), ()), (0 : Int), (0 : Int), (65536 : Int), (65536 : Int), (0 : Int), (0 : Int), y1, false, (0 : Int), ()) : V39)) (by kernel_rfl)⟩)) (fun e3 =>
   Owp.some (⟨[.res (.one (.dp T23)) y1, .dec false], [], via (retP (And.intro (And.intro trivial e2) e3) (.one (.dp T39)) ((((imul .i64 a0 (65536 : Int)), (imul .i64 a1 (65536 : Int)), ()), ((0 : Int), (0 : Int), ()), (0 : Int), (0 : Int), (0 : Int), (0 : Int), (0 : Int), (0 : Int), y1, false, (0 : Int), ()) : V39)) (by kernel_rfl)⟩))
theorem tourkeep2_block.ok (k : Nat) : FnOk PR 45 (tourkeep2_block.sp k) :=
  fn_ok (tourkeep2_block.cok k) hmix Try.func45 (code := tourkeep2_block.code) (by kernel_rfl) (by kernel_rfl) (by kernel_rfl) rfl (by kernel_rfl) (by kernel_rfl) (by kernel_rfl) (fun x => Nat.le_of_ble_eq_true (by kernel_rfl)) fun x y hy => (tourkeep2_block.way k x.1 x.2.1 x.2.2.1 x.2.2.2.1).ap hy

end Go.Proofs.T1
