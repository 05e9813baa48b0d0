import Derived.Test.YtcgcnojpcgjnmaaG0
import Derived.Test.YtcgcnojpcgjnmaaG1
import Derived.Test.YtcgcnojpcgjnmaaG3
import Derived.Test.YtcgcnojpcgjnmaaG4
import Derived.Test.YtcgcnojpcgjnmaaG5
import Derived.Test.YtcgcnojpcgjnmaaG10
import Derived.Test.YtcgcnojpcgjnmaaG11
import Derived.Test.YtcgcnojpcgjnmaaG12
namespace Go.Proofs.T1
open Go Go.Sx Go.Proofs
set_option maxRecDepth 100000
set_option linter.unusedVariables false
/-! tourney/tourmake.body -/
noncomputable def tourmake_body.code : Code := Func.cd Try.f104
def tourmake_body.c1 (k : Nat) (y7 : (((List Int) × Unit) × Int)) (y9 : (((List Int) × Unit) × Int)) : Option (Int) :=
  bif' (ieq y9.2 0)
  (some 0)
  (some y7.2)
def tourmake_body (k : Nat) (a0 : ((List Int) × Unit)) : Option (((List Int) × Unit) × V25) :=
  bnd (tourmake_poly k a0) fun y1 =>
  bnd (tourmake_Stream_Next k y1.1 41) fun y3 =>
  bnd (tourmake_Stream_Next k y3.1 41) fun y5 =>
  bnd (tourmake_Stream_Next k y5.1 65536) fun y7 =>
  bnd (tourmake_Stream_Next k y7.1 3) fun y9 =>
  bnd (tourmake_body.c1 k y7 y9) fun o12 =>
  bnd (tourmake_Stream_Next k y9.1 65537) fun y14 =>
  bnd (tourmake_Stream_Next k y14.1 65537) fun y16 =>
  bnd (tourmake_Stream_Next k y16.1 4) fun y18 =>
  bif' (ieq y18.2 0)
  (some (y18.1, (((iquo .i64 (imul .i64 (isub .i64 y3.2 20) 65536) 2), (iquo .i64 (imul .i64 (isub .i64 y5.2 20) 65536) 2), ()), (0, 0, ()), o12, 0, 0, 0, y14.2, y16.2, y1.2, false, 0, ())))
  (bnd (tourmake_Stream_Next k y18.1 21) fun y21 =>
   bnd (tourmake_Stream_Next k y21.1 21) fun y23 =>
   bnd (tourmake_Stream_Next k y23.1 65536) fun y25 =>
   bnd (tourmake_Stream_Next k y25.1 8) fun y27 =>
   bnd (tourmake_Stream_Next k y27.1 30) fun y29 =>
   some (y29.1, (((iquo .i64 (imul .i64 (isub .i64 y3.2 20) 65536) 2), (iquo .i64 (imul .i64 (isub .i64 y5.2 20) 65536) 2), ()), ((iquo .i64 (imul .i64 (isub .i64 y21.2 10) 65536) 2), (iquo .i64 (imul .i64 (isub .i64 y23.2 10) 65536) 2), ()), o12, (isub .i64 y25.2 32768), (imul .i64 (iadd .i64 1 y27.2) 65536), (imul .i64 (iadd .i64 1 y29.2) 65536), y14.2, y16.2, y1.2, false, 0, ())))
noncomputable def tourmake_body.sp (k : Nat) : Go.Sx.Spec := ⟨(.pair (.ref (.pair T49 .unit)) .unit), (.more (.dp (.pair T49 .unit)) (.one (.dp T25))), fun x => tourmake_body k x.1, true⟩
noncomputable def tourmake_body.cx (k : Nat) : Go.Sx.Ctx := ⟨tys, [(167, tourmake_poly.sp k), (168, tourmake_Stream_Next.sp k)], eqs, 63, true⟩
theorem tourmake_body.cok (k : Nat) : CtxOk PR (tourmake_body.cx k) := ctx_ok tysOk eqsOk (FnsOk.cons (tourmake_poly.ok k) (FnsOk.cons (tourmake_Stream_Next.ok k) FnsOk.nil))
noncomputable def tourmake_body.c1p (y1 : (((List Int) × Unit) × (List V22))) (y3 : (((List Int) × Unit) × Int)) (y5 : (((List Int) × Unit) × Int)) (y7 : (((List Int) × Unit) × Int)) (y9 : (((List Int) × Unit) × Int)) : SL := ⟨[(0, (.val .ptr ⟨0, 0, (0 : Int), 0, 0⟩)), (2, (.val .ptr ⟨1, 0, (0 : Int), 0, 0⟩)), (3, (.val .ptr ⟨2, 0, (0 : Int), 0, 0⟩)), (24, (.val T4 (ieq y9.2 (0 : Int))))], [(0, .cells (.pair T49 .unit) y9.1), (1, .cells T25 (((0 : Int), (0 : Int), ()), ((0 : Int), (0 : Int), ()), (0 : Int), (0 : Int), (0 : Int), (0 : Int), (0 : Int), (0 : Int), [], false, (0 : Int), ())), (2, .cells T25 (((iquo .i64 (imul .i64 (isub .i64 y3.2 (20 : Int)) (65536 : Int)) (2 : Int)), (iquo .i64 (imul .i64 (isub .i64 y5.2 (20 : Int)) (65536 : Int)) (2 : Int)), ()), ((0 : Int), (0 : Int), ()), y7.2, (0 : Int), (0 : Int), (0 : Int), (0 : Int), (0 : Int), y1.2, false, (0 : Int), ()))]⟩
noncomputable def tourmake_body.c1q (y1 : (((List Int) × Unit) × (List V22))) (y3 : (((List Int) × Unit) × Int)) (y5 : (((List Int) × Unit) × Int)) (y9 : (((List Int) × Unit) × Int)) (o : Int) : SL := (fun v => ⟨[(0, (.val .ptr ⟨0, 0, (0 : Int), 0, 0⟩)), (2, (.val .ptr ⟨1, 0, (0 : Int), 0, 0⟩)), (3, (.val .ptr ⟨2, 0, (0 : Int), 0, 0⟩))], [(0, .cells (.pair T49 .unit) y9.1), (1, .cells T25 (((0 : Int), (0 : Int), ()), ((0 : Int), (0 : Int), ()), (0 : Int), (0 : Int), (0 : Int), (0 : Int), (0 : Int), (0 : Int), [], false, (0 : Int), ())), (2, .cells T25 (((iquo .i64 (imul .i64 (isub .i64 y3.2 (20 : Int)) (65536 : Int)) (2 : Int)), (iquo .i64 (imul .i64 (isub .i64 y5.2 (20 : Int)) (65536 : Int)) (2 : Int)), ()), ((0 : Int), (0 : Int), ()), v, (0 : Int), (0 : Int), (0 : Int), (0 : Int), (0 : Int), y1.2, false, (0 : Int), ()))]⟩) o
noncomputable def tourmake_body.c1x (o : Int) : Ex := (fun _ => .normal) o
noncomputable def tourmake_body.c1n (o : Int) : Nat := (fun _ => 3) o
theorem tourmake_body.c1_ok (k : Nat) (y1 : (((List Int) × Unit) × (List V22))) (y3 : (((List Int) × Unit) × Int)) (y5 : (((List Int) × Unit) × Int)) (y7 : (((List Int) × Unit) × Int)) (y9 : (((List Int) × Unit) × Int)) : Owp (tourmake_body.c1 k y7 y9) fun o => Triple PR (tourmake_body.cx k) (sub tourmake_body.code [1, 1, 1, 1, 0, 1]) 3 (tourmake_body.c1p y1 y3 y5 y7 y9) (tourmake_body.c1x o) (tourmake_body.c1n o) (tourmake_body.c1q y1 y3 y5 y9 o) := by
  unfold tourmake_body.c1; exact
   Owp.bif (fun e11 =>
   Owp.some (triple_way (tourmake_body.cok k) hmix [.dec true] [] [(0, 0), (1, 1), (2, 2)] (via (finP (And.intro trivial e11) .normal [(0, 0), (1, 1), (2, 2)] (tourmake_body.c1q y1 y3 y5 y9 (0 : Int))) (by kernel_rfl)))) (fun e11 =>
   Owp.some (triple_way (tourmake_body.cok k) hmix [.dec false] [] [(0, 0), (1, 1), (2, 2)] (via (finP (And.intro trivial e11) .normal [(0, 0), (1, 1), (2, 2)] (tourmake_body.c1q y1 y3 y5 y9 y7.2)) (by kernel_rfl))))
@[irreducible] noncomputable def tourmake_body.P (k : Nat) (a0 : ((List Int) × Unit)) (y : (((List Int) × Unit) × V25)) (answers : List Ans) (cmds : List Cmd) : Prop := exec PR (tourmake_body.cx k) tourmake_body.code 1 (entryW (.pair T49 .unit) .unit (a0, ())).st answers (RetW (tourmake_body.cx k) Try.f104 cmds (.pair T49 .unit) (.one (.dp T25)) y)
theorem tourmake_body.way (k : Nat) (a0 : ((List Int) × Unit)) : Owp (tourmake_body k a0) fun y => ∃ answers cmds, tourmake_body.P k a0 y answers cmds := by
  unfold tourmake_body; exact
   Owp.bnd fun y1 e2 =>
   Owp.bnd fun y3 e4 =>
   Owp.bnd fun y5 e6 =>
   Owp.bnd fun y7 e8 =>
   Owp.bnd fun y9 e10 =>
   Owp.bnd fun o12 e13 =>
   Owp.bnd fun y14 e15 =>
   Owp.bnd fun y16 e17 =>
   Owp.bnd fun y18 e19 =>
   Owp.bif (fun e20 =>
   Owp.some (⟨[.res (.more (.dp (.pair T49 .unit)) (.one (.dp T24))) y1, .res (.more (.dp (.pair T49 .unit)) (.one (.dp T2))) y3, .res (.more (.dp (.pair T49 .unit)) (.one (.dp T2))) y5, .res (.more (.dp (.pair T49 .unit)) (.one (.dp T2))) y7, .res (.more (.dp (.pair T49 .unit)) (.one (.dp T2))) y9, .cut ⟨[], [(0, 0), (1, 1), (2, 5)], (tourmake_body.c1p y1 y3 y5 y7 y9), 3, .normal, (tourmake_body.c1q y1 y3 y5 y9 o12), 3⟩, .res (.more (.dp (.pair T49 .unit)) (.one (.dp T2))) y14, .res (.more (.dp (.pair T49 .unit)) (.one (.dp T2))) y16, .res (.more (.dp (.pair T49 .unit)) (.one (.dp T2))) y18, .dec true], [], via (cutP (And.intro (And.intro (And.intro (And.intro (And.intro (And.intro (And.intro trivial e2) e4) (by decide : nz (2 : Int))) e6) (by decide : nz (2 : Int))) e8) e10) [(0, 0), (1, 1), (2, 5)] (tourmake_body.c1p y1 y3 y5 y7 y9) (((tourmake_body.c1_ok k y1 y3 y5 y7 y9).ap e13)) (retwP (And.intro (And.intro (And.intro (And.intro trivial e15) e17) e19) e20) (.pair T49 .unit) (y18.1 : ((List Int) × Unit)) (.one (.dp T25)) ((((iquo .i64 (imul .i64 (isub .i64 y3.2 (20 : Int)) (65536 : Int)) (2 : Int)), (iquo .i64 (imul .i64 (isub .i64 y5.2 (20 : Int)) (65536 : Int)) (2 : Int)), ()), ((0 : Int), (0 : Int), ()), o12, (0 : Int), (0 : Int), (0 : Int), y14.2, y16.2, y1.2, false, (0 : Int), ()) : V25))) (by kernel_rfl)⟩)) (fun e20 =>
   Owp.bnd fun y21 e22 =>
    Owp.bnd fun y23 e24 =>
    Owp.bnd fun y25 e26 =>
    Owp.bnd fun y27 e28 =>
    Owp.bnd fun y29 e30 =>
    Owp.some (⟨[.res (.more (.dp (.pair T49 .unit)) (.one (.dp T24))) y1, .res (.more (.dp (.pair T49 .unit)) (.one (.dp T2))) y3, .res (.more (.dp (.pair T49 .unit)) (.one (.dp T2))) y5, .res (.more (.dp (.pair T49 .unit)) (.one (.dp T2))) y7, .res (.more (.dp (.pair T49 .unit)) (.one (.dp T2))) y9, .cut ⟨[], [(0, 0), (1, 1), (2, 5)], (tourmake_body.c1p y1 y3 y5 y7 y9), 3, .normal, (tourmake_body.c1q y1 y3 y5 y9 o12), 3⟩, .res (.more (.dp (.pair T49 .unit)) (.one (.dp T2))) y14, .res (.more (.dp (.pair T49 .unit)) (.one (.dp T2))) y16, .res (.more (.dp (.pair T49 .unit)) (.one (.dp T2))) y18, .dec false, .res (.more (.dp (.pair T49 .unit)) (.one (.dp T2))) y21, .res (.more (.dp (.pair T49 .unit)) (.one (.dp T2))) y23, .res (.more (.dp (.pair T49 .unit)) (.one (.dp T2))) y25, .res (.more (.dp (.pair T49 .unit)) (.one (.dp T2))) y27, .res (.more (.dp (.pair T49 .unit)) (.one (.dp T2))) y29], [], via (cutP (And.intro (And.intro (And.intro (And.intro (And.intro (And.intro (And.intro trivial e2) e4) (by decide : nz (2 : Int))) e6) (by decide : nz (2 : Int))) e8) e10) [(0, 0), (1, 1), (2, 5)] (tourmake_body.c1p y1 y3 y5 y7 y9) (((tourmake_body.c1_ok k y1 y3 y5 y7 y9).ap e13)) (retwP (And.intro (And.intro (And.intro (And.intro (And.intro (And.intro (And.intro (And.intro (And.intro (And.intro (And.intro trivial e15) e17) e19) e20) e22) (by decide : nz (2 : Int))) e24) (by decide : nz (2 : Int))) e26) e28) e30) (.pair T49 .unit) (y29.1 : ((List Int) × Unit)) (.one (.dp T25)) ((((iquo .i64 (imul .i64 (isub .i64 y3.2 (20 : Int)) (65536 : Int)) (2 : Int)), (iquo .i64 (imul .i64 (isub .i64 y5.2 (20 : Int)) (65536 : Int)) (2 : Int)), ()), ((iquo .i64 (imul .i64 (isub .i64 y21.2 (10 : Int)) (65536 : Int)) (2 : Int)), (iquo .i64 (imul .i64 (isub .i64 y23.2 (10 : Int)) (65536 : Int)) (2 : Int)), ()), o12, (isub .i64 y25.2 (32768 : Int)), (imul .i64 (iadd .i64 (1 : Int) y27.2) (65536 : Int)), (imul .i64 (iadd .i64 (1 : Int) y29.2) (65536 : Int)), y14.2, y16.2, y1.2, false, (0 : Int), ()) : V25))) (by kernel_rfl)⟩))
theorem tourmake_body.ok (k : Nat) : FnOk PR 104 (tourmake_body.sp k) :=
  fnW_ok (t := (.pair T49 .unit)) (ps := .unit) (t' := (.pair T49 .unit)) (rs := (.one (.dp T25))) (g := fun x => tourmake_body k x.1) (tourmake_body.cok k) hmix Try.func104 (code := tourmake_body.code) (by kernel_rfl) (by kernel_rfl) (by kernel_rfl) (by kernel_rfl) (by kernel_rfl) (by kernel_rfl) (by kernel_rfl) (by kernel_rfl) (by kernel_rfl) (fun x => Nat.le_of_ble_eq_true (by kernel_rfl)) fun x y hy => match (tourmake_body.way k x.1).ap hy with | ⟨ans, cmds, h⟩ => ⟨ans, cmds, via h (by kernel_rfl)⟩

/-! tourney/tourmake.Body -/
noncomputable def tourmake_Body.code : Code := Func.cd Try.f35
def tourmake_Body (k : Nat) (a0 : (List Int)) : Option V25 :=
  bnd (tourmake_body k (a0, ())) fun y1 =>
  some y1.2
noncomputable def tourmake_Body.sp (k : Nat) : Go.Sx.Spec := ⟨(.pair T49 .unit), (.one (.dp T25)), fun x => tourmake_Body k x.1, false⟩
noncomputable def tourmake_Body.cx (k : Nat) : Go.Sx.Ctx := ⟨tys, [(104, tourmake_body.sp k)], eqs, 7, false⟩
theorem tourmake_Body.cok (k : Nat) : CtxOk PR (tourmake_Body.cx k) := ctx_ok tysOk eqsOk (FnsOk.cons (tourmake_body.ok k) FnsOk.nil)
theorem tourmake_Body.way (k : Nat) (a0 : (List Int)) : Owp (tourmake_Body k a0) fun y => ∃ answers cmds, exec PR (tourmake_Body.cx k) tourmake_Body.code 0 (entry (.pair T49 .unit) (a0, ())).st answers (Ret (tourmake_Body.cx k) Try.f35 cmds (.one (.dp T25)) y) := by
  unfold tourmake_Body; exact
   Owp.bnd fun y1 e2 =>
   Owp.some (⟨[.res (.more (.dp (.pair T49 .unit)) (.one (.dp T25))) y1], [], via (retP (And.intro trivial e2) (.one (.dp T25)) (y1.2 : V25)) (by kernel_rfl)⟩)
theorem tourmake_Body.ok (k : Nat) : FnOk PR 35 (tourmake_Body.sp k) :=
  fn_ok (tourmake_Body.cok k) hmix Try.func35 (code := tourmake_Body.code) (by kernel_rfl) (by kernel_rfl) (by kernel_rfl) rfl (by kernel_rfl) (by kernel_rfl) (by kernel_rfl) (fun x => Nat.le_of_ble_eq_true (by kernel_rfl)) fun x y hy => (tourmake_Body.way k x.1).ap hy

/-! tourney/tourkeep2.pushes -/
noncomputable def tourkeep2_pushes.code : Code := Func.cd Try.f38
def tourkeep2_pushes (k : Nat) : Option Bool :=
  bnd (tourkeep2_square k 0 0 1) fun y1 =>
  bnd (body_Push k ((0, 0, ()), (0, 0, ()), 0, 0, 131072, 65536, 0, 0, y1, false, 0, ()) (262144, 0, ()) (0, 0, ())) fun y3 =>
  bnd (body_Check k ((0, 0, ()), (0, 0, ()), 0, 0, 131072, 65536, 0, 0, y1, false, 0, ())) fun y5 =>
  bif' (ieq y5 0)
  (bif' (Ty.eqb T22 y3.2.1 ((131072 : Int), (0 : Int), ()))
   (bnd (body_Move k y3 65536) fun y9 =>
    some (Ty.eqb T22 y9.1 ((131072 : Int), (0 : Int), ())))
   (some false))
  (some false)
noncomputable def tourkeep2_pushes.sp (k : Nat) : Go.Sx.Spec := ⟨.unit, (.one (.dp T4)), fun x => tourkeep2_pushes k, false⟩
noncomputable def tourkeep2_pushes.cx (k : Nat) : Go.Sx.Ctx := ⟨tys, [(107, (tourkeep2_square.sp k).frz), (16, body_Push.sp k), (41, body_Check.sp k), (42, body_Move.sp k)], eqs, 25, false⟩
theorem tourkeep2_pushes.cok (k : Nat) : CtxOk PR (tourkeep2_pushes.cx k) := ctx_ok tysOk eqsOk (FnsOk.cons (FnOk.frz rfl (tourkeep2_square.ok k)) (FnsOk.cons (body_Push.ok k) (FnsOk.cons (body_Check.ok k) (FnsOk.cons (body_Move.ok k) FnsOk.nil))))
theorem tourkeep2_pushes.way (k : Nat) : Owp (tourkeep2_pushes k) fun y => ∃ answers cmds, exec PR (tourkeep2_pushes.cx k) tourkeep2_pushes.code 0 (entry .unit ()).st answers (Ret (tourkeep2_pushes.cx k) Try.f38 cmds (.one (.dp T4)) y) := by
  unfold tourkeep2_pushes; exact
   Owp.bnd fun y1 e2 =>
   Owp.bnd fun y3 e4 =>
   Owp.bnd fun y5 e6 =>
   Owp.bif (fun e7 =>
   Owp.bif (fun e8 =>
    Owp.bnd fun y9 e10 =>
     Owp.some (⟨[.res (.one (.dp T24)) y1, .res (.one (.dp T25)) y3, .res (.one (.dp T2)) y5, .dec true, .dec true, .dec true, .dec true, .dec true, .dec true, .dec true, .res (.one (.dp T25)) y9, .dec true, .dec true, .dec true, .dec true], [], via (retP (And.intro (And.intro (And.intro (And.intro (And.intro (And.intro (And.intro (And.intro (And.intro (And.intro (And.intro (And.intro (And.intro (And.intro trivial e2) e4) e6) e7) e7) e7) e7) e7) e8) (And.intro e8 e10)) e8) e8) e8) e8) (.one (.dp T4)) ((Ty.eqb T22 y9.1 ((131072 : Int), (0 : Int), ())) : Bool)) (by kernel_rfl)⟩)) (fun e8 =>
    Owp.some (⟨[.res (.one (.dp T24)) y1, .res (.one (.dp T25)) y3, .res (.one (.dp T2)) y5, .dec true, .dec true, .dec true, .dec true, .dec true, .dec false, .dec false, .dec true, .dec false, .dec false, .dec false, .dec false], [], via (retP (And.intro (And.intro (And.intro (And.intro (And.intro (And.intro (And.intro (And.intro (And.intro (And.intro (And.intro (And.intro (And.intro (And.intro trivial e2) e4) e6) e7) e7) e7) e7) e7) e8) e8) e8) e8) e8) e8) (.one (.dp T4)) (false : Bool)) (by kernel_rfl)⟩))) (fun e7 =>
   Owp.some (⟨[.res (.one (.dp T24)) y1, .res (.one (.dp T25)) y3, .res (.one (.dp T2)) y5, .dec false, .dec false, .dec false, .dec false, .dec false, .dec false, .dec false, .dec true, .dec false, .dec false, .dec false, .dec false], [], via (retP (And.intro (And.intro (And.intro (And.intro (And.intro (And.intro (And.intro (And.intro (And.intro (And.intro (And.intro (And.intro (And.intro (And.intro trivial e2) e4) e6) e7) e7) e7) e7) e7) ff) ff) ff) ff) ff) ff) (.one (.dp T4)) (false : Bool)) (by kernel_rfl)⟩))
theorem tourkeep2_pushes.ok (k : Nat) : FnOk PR 38 (tourkeep2_pushes.sp k) :=
  fn_ok (tourkeep2_pushes.cok k) hmix Try.func38 (code := tourkeep2_pushes.code) (by kernel_rfl) (by kernel_rfl) (by kernel_rfl) rfl (by kernel_rfl) (by kernel_rfl) (by kernel_rfl) (fun x => Nat.le_of_ble_eq_true (by kernel_rfl)) fun x y hy => (tourkeep2_pushes.way k).ap hy

/-! tourney/sweep.Valid -/
noncomputable def sweep_Valid.code : Code := Func.cd Try.f40
def sweep_Valid (k : Nat) (a0 : (V22 × (V22 × Unit))) : Option Bool :=
  bif' (ile a0.1.1 a0.2.1.1)
  (some (ile a0.1.2.1 a0.2.1.2.1))
  (some false)
noncomputable def sweep_Valid.sp (k : Nat) : Go.Sx.Spec := ⟨(.pair (.pair T22 (.pair T22 .unit)) .unit), (.one (.dp T4)), fun x => sweep_Valid k x.1, false⟩
noncomputable def sweep_Valid.cx (k : Nat) : Go.Sx.Ctx := ⟨tys, [], eqs, 19, false⟩
theorem sweep_Valid.cok (k : Nat) : CtxOk PR (sweep_Valid.cx k) := ctx_ok tysOk eqsOk FnsOk.nil
theorem sweep_Valid.way (k : Nat) (a0 : (V22 × (V22 × Unit))) : Owp (sweep_Valid k a0) fun y => ∃ answers cmds, exec PR (sweep_Valid.cx k) sweep_Valid.code 0 (entry (.pair (.pair T22 (.pair T22 .unit)) .unit) (a0, ())).st answers (Ret (sweep_Valid.cx k) Try.f40 cmds (.one (.dp T4)) y) := by
  unfold sweep_Valid; exact
   Owp.bif (fun e1 =>
   Owp.some (⟨[.dec true, .dec true, .dec true, .dec true, .dec true, .dec true, .dec true, .dec true], [], via (retP (And.intro (And.intro (And.intro (And.intro (And.intro (And.intro (And.intro (And.intro trivial e1) e1) e1) e1) e1) e1) e1) e1) (.one (.dp T4)) ((ile a0.1.2.1 a0.2.1.2.1) : Bool)) (by kernel_rfl)⟩)) (fun e1 =>
   Owp.some (⟨[.dec false, .dec false, .dec false, .dec false, .dec false, .dec false, .dec false, .dec false], [], via (retP (And.intro (And.intro (And.intro (And.intro (And.intro (And.intro (And.intro (And.intro trivial e1) e1) e1) e1) e1) e1) e1) e1) (.one (.dp T4)) (false : Bool)) (by kernel_rfl)⟩))
theorem sweep_Valid.ok (k : Nat) : FnOk PR 40 (sweep_Valid.sp k) :=
  fn_ok (sweep_Valid.cok k) hmix Try.func40 (code := sweep_Valid.code) (by kernel_rfl) (by kernel_rfl) (by kernel_rfl) rfl (by kernel_rfl) (by kernel_rfl) (by kernel_rfl) (fun x => Nat.le_of_ble_eq_true (by kernel_rfl)) fun x y hy => (sweep_Valid.way k x.1).ap hy

/-! tourney/tourkeep2.BodyPlaced -/
noncomputable def tourkeep2_BodyPlaced.code : Code := Func.cd Try.f5
def tourkeep2_BodyPlaced.c1 (k : Nat) (y1 : V25) (y3 : (List V22)) (y5 : (V22 × (V22 × Unit))) : Option (Bool) :=
  bnd (tourkeep2_pushes k) fun y7 =>
  bif' y7
  (bnd (poly_Check k y3) fun y10 =>
   bif' (ine y10 0)
   (some true)
   (bif' (ine (len y3) (len y1.2.2.2.2.2.2.2.2.1))
    (some true)
    (bnd (sweep_Valid k y5) fun y14 =>
     some (!y14))))
  (some true)
def tourkeep2_BodyPlaced.c3 (k : Nat) (v19 : Int) (y3 : (List V22)) (y5 : (V22 × (V22 × Unit))) : Option (Bool) :=
  bif' (ilt (el Z22 y3 v19).1 y5.1.1)
  (some true)
  (bif' (igt (el Z22 y3 v19).1 y5.2.1.1)
   (some true)
   (bif' (ilt (el Z22 y3 v19).2.1 y5.1.2.1)
    (some true)
    (some (igt (el Z22 y3 v19).2.1 y5.2.1.2.1))))
def tourkeep2_BodyPlaced.c2 (k : Nat) (y3 : (List V22)) (y5 : (V22 × (V22 × Unit))) : Nat → Int → Option (Unit ⊕ Unit)
  | 0, _ => none
  | n + 1, v19 =>
   bif' (ilt v19 (len y3))
   (req (inL v19 y3) <|
    bnd (tourkeep2_BodyPlaced.c3 k v19 y3 y5) fun o25 =>
    bif' o25
    (some (.inl ()))
    (tourkeep2_BodyPlaced.c2 k y3 y5 n (iadd .i64 v19 1)))
   (some (.inr ()))
def tourkeep2_BodyPlaced (k : Nat) (a0 : (List Int)) : Option Bool :=
  bnd (tourmake_Body k a0) fun y1 =>
  bnd (body_Place k y1) fun y3 =>
  bnd (body_Bounds k y1) fun y5 =>
  bnd (tourkeep2_BodyPlaced.c1 k y1 y3 y5) fun o16 =>
  bif' o16
  (some false)
  (bnd (tourkeep2_BodyPlaced.c2 k y3 y5 k 0) fun o28 =>
   two o28 (fun y30 =>
   some false) (fun y32 =>
   bif' (ige y1.1.1 (isub .i64 y5.1.1 2))
    (bif' (ile y1.1.1 (iadd .i64 y5.2.1.1 2))
     (bif' (ige y1.1.2.1 (isub .i64 y5.1.2.1 2))
      (some (ile y1.1.2.1 (iadd .i64 y5.2.1.2.1 2)))
      (some false))
     (some false))
    (some false)))
noncomputable def tourkeep2_BodyPlaced.sp (k : Nat) : Go.Sx.Spec := ⟨(.pair T49 .unit), (.one (.dp T4)), fun x => tourkeep2_BodyPlaced k x.1, false⟩
noncomputable def tourkeep2_BodyPlaced.cx (k : Nat) : Go.Sx.Ctx := ⟨tys, [(35, tourmake_Body.sp k), (36, (body_Place.sp k).frz), (37, body_Bounds.sp k), (38, tourkeep2_pushes.sp k), (39, poly_Check.sp k), (40, sweep_Valid.sp k)], eqs, 109, false⟩
theorem tourkeep2_BodyPlaced.cok (k : Nat) : CtxOk PR (tourkeep2_BodyPlaced.cx k) := ctx_ok tysOk eqsOk (FnsOk.cons (tourmake_Body.ok k) (FnsOk.cons (FnOk.frz rfl (body_Place.ok k)) (FnsOk.cons (body_Bounds.ok k) (FnsOk.cons (tourkeep2_pushes.ok k) (FnsOk.cons (poly_Check.ok k) (FnsOk.cons (sweep_Valid.ok k) FnsOk.nil))))))
noncomputable def tourkeep2_BodyPlaced.c1p (y1 : V25) (y3 : (List V22)) (y5 : (V22 × (V22 × Unit))) : SL := ⟨[(3, (.val .ptr ⟨0, 0, (0 : Int), 0, 0⟩)), (4, (.val T24 y3)), (5, (.val .ptr ⟨1, 0, (0 : Int), 0, 0⟩))], [(0, .cells T25 y1), (1, .cells (.pair T22 (.pair T22 .unit)) y5)]⟩
noncomputable def tourkeep2_BodyPlaced.c1q (y1 : V25) (y3 : (List V22)) (y5 : (V22 × (V22 × Unit))) (o : Bool) : SL := (fun v => ⟨[(3, (.val .ptr ⟨0, 0, (0 : Int), 0, 0⟩)), (4, (.val T24 y3)), (5, (.val .ptr ⟨1, 0, (0 : Int), 0, 0⟩)), (33, (.val T4 v))], [(0, .cells T25 y1), (1, .cells (.pair T22 (.pair T22 .unit)) y5)]⟩) o
noncomputable def tourkeep2_BodyPlaced.c1x (o : Bool) : Ex := (fun _ => .normal) o
noncomputable def tourkeep2_BodyPlaced.c1n (o : Bool) : Nat := (fun _ => 2) o
theorem tourkeep2_BodyPlaced.c1_ok (k : Nat) (y1 : V25) (y3 : (List V22)) (y5 : (V22 × (V22 × Unit))) : Owp (tourkeep2_BodyPlaced.c1 k y1 y3 y5) fun o => Triple PR (tourkeep2_BodyPlaced.cx k) (sub tourkeep2_BodyPlaced.code [1, 1, 1, 0, 0]) 2 (tourkeep2_BodyPlaced.c1p y1 y3 y5) (tourkeep2_BodyPlaced.c1x o) (tourkeep2_BodyPlaced.c1n o) (tourkeep2_BodyPlaced.c1q y1 y3 y5 o) := by
  unfold tourkeep2_BodyPlaced.c1; exact
   Owp.bnd fun y7 e8 =>
   Owp.bif (fun e9 =>
   Owp.bnd fun y10 e11 =>
    Owp.bif (fun e12 =>
    Owp.some (triple_way (tourkeep2_BodyPlaced.cok k) hmix [.res (.one (.dp T4)) y7, .dec false, .dec false, .res (.one (.dp T2)) y10, .dec false, .dec false, .dec true, .dec true, .dec true, .dec true, .dec true, .dec true, .dec true, .dec true, .dec true, .dec true, .dec true, .dec true] [] [(0, 0), (1, 1)] (via (finP (And.intro (And.intro (And.intro (And.intro (And.intro (And.intro (And.intro (And.intro (And.intro (And.intro (And.intro (And.intro (And.intro (And.intro (And.intro (And.intro trivial e8) (congrArg not e9)) (And.intro (congrArg not e9) e11)) (congrArg not e9)) (congrArg not e9)) e12) e12) e12) e12) e12) e12) e12) tt) tt) tt) tt) .normal [(0, 0), (1, 1)] (tourkeep2_BodyPlaced.c1q y1 y3 y5 true)) (by kernel_rfl)))) (fun e12 =>
    Owp.bif (fun e13 =>
     Owp.some (triple_way (tourkeep2_BodyPlaced.cok k) hmix [.res (.one (.dp T4)) y7, .dec false, .dec false, .res (.one (.dp T2)) y10, .dec false, .dec false, .dec false, .dec false, .dec false, .dec false, .dec false, .dec false, .dec false, .dec true, .dec true, .dec true, .dec true, .dec true] [] [(0, 0), (1, 1)] (via (finP (And.intro (And.intro (And.intro (And.intro (And.intro (And.intro (And.intro (And.intro (And.intro (And.intro (And.intro (And.intro (And.intro (And.intro (And.intro (And.intro trivial e8) (congrArg not e9)) (And.intro (congrArg not e9) e11)) (congrArg not e9)) (congrArg not e9)) e12) e12) e12) e12) e12) e12) e12) e13) e13) e13) e13) .normal [(0, 0), (1, 1)] (tourkeep2_BodyPlaced.c1q y1 y3 y5 true)) (by kernel_rfl)))) (fun e13 =>
     Owp.bnd fun y14 e15 =>
      Owp.some (triple_way (tourkeep2_BodyPlaced.cok k) hmix [.res (.one (.dp T4)) y7, .dec false, .dec false, .res (.one (.dp T2)) y10, .dec false, .dec false, .dec false, .dec false, .dec false, .dec false, .dec false, .dec false, .dec false, .dec false, .dec false, .res (.one (.dp T4)) y14, .dec false, .dec false] [] [(0, 0), (1, 1)] (via (finP (And.intro (And.intro (And.intro (And.intro (And.intro (And.intro (And.intro (And.intro (And.intro (And.intro (And.intro (And.intro (And.intro (And.intro (And.intro (And.intro trivial e8) (congrArg not e9)) (And.intro (congrArg not e9) e11)) (congrArg not e9)) (congrArg not e9)) e12) e12) e12) e12) e12) e12) e12) e13) (And.intro e13 e15)) e13) e13) .normal [(0, 0), (1, 1)] (tourkeep2_BodyPlaced.c1q y1 y3 y5 (!y14))) (by kernel_rfl)))))) (fun e9 =>
   Owp.some (triple_way (tourkeep2_BodyPlaced.cok k) hmix [.res (.one (.dp T4)) y7, .dec true, .dec true, .dec true, .dec true, .dec true, .dec true, .dec true, .dec true, .dec true, .dec true, .dec true, .dec true, .dec true, .dec true, .dec true, .dec true, .dec true] [] [(0, 0), (1, 1)] (via (finP (And.intro (And.intro (And.intro (And.intro (And.intro (And.intro (And.intro (And.intro (And.intro (And.intro (And.intro (And.intro (And.intro (And.intro (And.intro (And.intro trivial e8) (congrArg not e9)) (congrArg not e9)) (congrArg not e9)) (congrArg not e9)) tt) tt) tt) tt) tt) tt) tt) tt) tt) tt) tt) .normal [(0, 0), (1, 1)] (tourkeep2_BodyPlaced.c1q y1 y3 y5 true)) (by kernel_rfl))))
noncomputable def tourkeep2_BodyPlaced.c3p (v19 : Int) (y1 : V25) (y3 : (List V22)) (y5 : (V22 × (V22 × Unit))) : SL := ⟨[(3, (.val .ptr ⟨0, 0, (0 : Int), 0, 0⟩)), (5, (.val .ptr ⟨1, 0, (0 : Int), 0, 0⟩)), (7, (.val .ptr ⟨2, 0, (0 : Int), 0, 0⟩)), (34, (.val T24 y3)), (35, (.val T2 (len y3))), (36, (.val T2 v19))], [(0, .cells T25 y1), (1, .cells (.pair T22 (.pair T22 .unit)) y5), (2, .cells T22 (el Z22 y3 v19))]⟩
noncomputable def tourkeep2_BodyPlaced.c3q (v19 : Int) (y1 : V25) (y3 : (List V22)) (y5 : (V22 × (V22 × Unit))) (o : Bool) : SL := (fun v => ⟨[(3, (.val .ptr ⟨0, 0, (0 : Int), 0, 0⟩)), (5, (.val .ptr ⟨1, 0, (0 : Int), 0, 0⟩)), (34, (.val T24 y3)), (35, (.val T2 (len y3))), (36, (.val T2 v19)), (69, (.val T4 v))], [(0, .cells T25 y1), (1, .cells (.pair T22 (.pair T22 .unit)) y5)]⟩) o
noncomputable def tourkeep2_BodyPlaced.c3x (o : Bool) : Ex := (fun _ => .normal) o
noncomputable def tourkeep2_BodyPlaced.c3n (o : Bool) : Nat := (fun _ => 2) o
theorem tourkeep2_BodyPlaced.c3_ok (k : Nat) (v19 : Int) (y1 : V25) (y3 : (List V22)) (y5 : (V22 × (V22 × Unit))) : Owp (tourkeep2_BodyPlaced.c3 k v19 y3 y5) fun o => Triple PR (tourkeep2_BodyPlaced.cx k) (sub tourkeep2_BodyPlaced.code [1, 1, 1, 1, 0, 1, 0, 0, 1, 1, 0, 0, 1, 0]) 3 (tourkeep2_BodyPlaced.c3p v19 y1 y3 y5) (tourkeep2_BodyPlaced.c3x o) (tourkeep2_BodyPlaced.c3n o) (tourkeep2_BodyPlaced.c3q v19 y1 y3 y5 o) := by
  unfold tourkeep2_BodyPlaced.c3; exact
   Owp.bif (fun e22 =>
   Owp.some (triple_way (tourkeep2_BodyPlaced.cok k) hmix [.dec true, .dec true, .dec true, .dec true, .dec true, .dec true, .dec true, .dec true, .dec true, .dec true, .dec true, .dec true, .dec true, .dec true, .dec true, .dec true, .dec true, .dec true, .dec true, .dec true, .dec true] [] [(0, 0), (1, 1)] (via (finP (And.intro (And.intro (And.intro (And.intro (And.intro (And.intro (And.intro (And.intro (And.intro (And.intro (And.intro (And.intro (And.intro (And.intro (And.intro (And.intro (And.intro (And.intro (And.intro (And.intro (And.intro trivial e22) e22) e22) e22) e22) e22) e22) tt) tt) tt) tt) tt) tt) tt) tt) tt) tt) tt) tt) tt) tt) .normal [(0, 0), (1, 1)] (tourkeep2_BodyPlaced.c3q v19 y1 y3 y5 true)) (by kernel_rfl)))) (fun e22 =>
   Owp.bif (fun e23 =>
    Owp.some (triple_way (tourkeep2_BodyPlaced.cok k) hmix [.dec false, .dec false, .dec false, .dec false, .dec false, .dec false, .dec false, .dec true, .dec true, .dec true, .dec true, .dec true, .dec true, .dec true, .dec true, .dec true, .dec true, .dec true, .dec true, .dec true, .dec true] [] [(0, 0), (1, 1)] (via (finP (And.intro (And.intro (And.intro (And.intro (And.intro (And.intro (And.intro (And.intro (And.intro (And.intro (And.intro (And.intro (And.intro (And.intro (And.intro (And.intro (And.intro (And.intro (And.intro (And.intro (And.intro trivial e22) e22) e22) e22) e22) e22) e22) e23) e23) e23) e23) e23) e23) e23) tt) tt) tt) tt) tt) tt) tt) .normal [(0, 0), (1, 1)] (tourkeep2_BodyPlaced.c3q v19 y1 y3 y5 true)) (by kernel_rfl)))) (fun e23 =>
    Owp.bif (fun e24 =>
     Owp.some (triple_way (tourkeep2_BodyPlaced.cok k) hmix [.dec false, .dec false, .dec false, .dec false, .dec false, .dec false, .dec false, .dec false, .dec false, .dec false, .dec false, .dec false, .dec false, .dec false, .dec true, .dec true, .dec true, .dec true, .dec true, .dec true, .dec true] [] [(0, 0), (1, 1)] (via (finP (And.intro (And.intro (And.intro (And.intro (And.intro (And.intro (And.intro (And.intro (And.intro (And.intro (And.intro (And.intro (And.intro (And.intro (And.intro (And.intro (And.intro (And.intro (And.intro (And.intro (And.intro trivial e22) e22) e22) e22) e22) e22) e22) e23) e23) e23) e23) e23) e23) e23) e24) e24) e24) e24) e24) e24) e24) .normal [(0, 0), (1, 1)] (tourkeep2_BodyPlaced.c3q v19 y1 y3 y5 true)) (by kernel_rfl)))) (fun e24 =>
     Owp.some (triple_way (tourkeep2_BodyPlaced.cok k) hmix [.dec false, .dec false, .dec false, .dec false, .dec false, .dec false, .dec false, .dec false, .dec false, .dec false, .dec false, .dec false, .dec false, .dec false, .dec false, .dec false, .dec false, .dec false, .dec false, .dec false, .dec false] [] [(0, 0), (1, 1)] (via (finP (And.intro (And.intro (And.intro (And.intro (And.intro (And.intro (And.intro (And.intro (And.intro (And.intro (And.intro (And.intro (And.intro (And.intro (And.intro (And.intro (And.intro (And.intro (And.intro (And.intro (And.intro trivial e22) e22) e22) e22) e22) e22) e22) e23) e23) e23) e23) e23) e23) e23) e24) e24) e24) e24) e24) e24) e24) .normal [(0, 0), (1, 1)] (tourkeep2_BodyPlaced.c3q v19 y1 y3 y5 (igt (el Z22 y3 v19).2.1 y5.2.1.2.1))) (by kernel_rfl))))))
noncomputable def tourkeep2_BodyPlaced.c2p (y1 : V25) (y3 : (List V22)) (y5 : (V22 × (V22 × Unit))) (v19 : Int) : SL := ⟨[(3, (.val .ptr ⟨0, 0, (0 : Int), 0, 0⟩)), (5, (.val .ptr ⟨1, 0, (0 : Int), 0, 0⟩)), (34, (.val T24 y3)), (35, (.val T2 (len y3))), (36, (.val T2 v19))], [(0, .cells T25 y1), (1, .cells (.pair T22 (.pair T22 .unit)) y5)]⟩
noncomputable def tourkeep2_BodyPlaced.c2q (y1 : V25) (y5 : (V22 × (V22 × Unit))) (o : Unit ⊕ Unit) : SL := (fun o => two o (fun v => ⟨[(2, (.val T4 false))], []⟩) (fun v => ⟨[(3, (.val .ptr ⟨0, 0, (0 : Int), 0, 0⟩)), (5, (.val .ptr ⟨1, 0, (0 : Int), 0, 0⟩))], [(0, .cells T25 y1), (1, .cells (.pair T22 (.pair T22 .unit)) y5)]⟩)) o
noncomputable def tourkeep2_BodyPlaced.c2x (o : Unit ⊕ Unit) : Ex := (fun o => two o (fun _ => .ret) (fun _ => (.exit 0))) o
noncomputable def tourkeep2_BodyPlaced.c2n (o : Unit ⊕ Unit) : Nat := (fun o => two o (fun _ => 0) (fun _ => 2)) o
theorem tourkeep2_BodyPlaced.c2_ok (k : Nat) (y1 : V25) (y3 : (List V22)) (y5 : (V22 × (V22 × Unit))) : ∀ (n : Nat) (v19 : Int), Owp (tourkeep2_BodyPlaced.c2 k y3 y5 n v19) fun o => LTriple PR (tourkeep2_BodyPlaced.cx k) (sub tourkeep2_BodyPlaced.code [1, 1, 1, 1, 0, 1, 0, 0]) 2 (tourkeep2_BodyPlaced.c2p y1 y3 y5 v19) (tourkeep2_BodyPlaced.c2x o) (tourkeep2_BodyPlaced.c2n o) (tourkeep2_BodyPlaced.c2q y1 y5 o)
  | 0, _ => fun _ h => nomatch h
  | n + 1, v19 => Owp.of (tourkeep2_BodyPlaced.c2.eq_2 ..) (
   Owp.bif (fun e20 =>
   Owp.req fun h21 =>
    Owp.bnd fun o25 e26 =>
    Owp.bif (fun e27 =>
    Owp.some (loop_exit (tourkeep2_BodyPlaced.cok k) hmix [.dec true, .cutR 8 ⟨[], [(0, 0), (1, 1), (2, 5)], (tourkeep2_BodyPlaced.c3p v19 y1 y3 y5), 3, .normal, (tourkeep2_BodyPlaced.c3q v19 y1 y3 y5 o25), 2⟩, .dec true] [] [] exne_ret (via (cutP (And.intro (And.intro trivial e20) h21) [(0, 0), (1, 1), (2, 5)] (tourkeep2_BodyPlaced.c3p v19 y1 y3 y5) (((tourkeep2_BodyPlaced.c3_ok k v19 y1 y3 y5).ap e26)) (finP (And.intro trivial e27) .ret [] (tourkeep2_BodyPlaced.c2q y1 y5 (.inl ())))) (by kernel_rfl)))) (fun e27 =>
    fun y hy => loop_back (tourkeep2_BodyPlaced.cok k) hmix 2 (tourkeep2_BodyPlaced.c2p y1 y3 y5 (iadd .i64 v19 (1 : Int))) [.dec true, .cutR 8 ⟨[], [(0, 0), (1, 1), (2, 5)], (tourkeep2_BodyPlaced.c3p v19 y1 y3 y5), 3, .normal, (tourkeep2_BodyPlaced.c3q v19 y1 y3 y5 o25), 2⟩, .dec false] [] [(0, 0), (1, 1)] (via (cutP (And.intro (And.intro trivial e20) h21) [(0, 0), (1, 1), (2, 5)] (tourkeep2_BodyPlaced.c3p v19 y1 y3 y5) (((tourkeep2_BodyPlaced.c3_ok k v19 y1 y3 y5).ap e26)) (finP (And.intro trivial e27) .normal [(0, 0), (1, 1)] (tourkeep2_BodyPlaced.c2p y1 y3 y5 (iadd .i64 v19 (1 : Int))))) (by kernel_rfl)) ((tourkeep2_BodyPlaced.c2_ok k y1 y3 y5 n (iadd .i64 v19 (1 : Int))).ap hy))) (fun e20 =>
   Owp.some (loop_exit (tourkeep2_BodyPlaced.cok k) hmix [.dec false] [] [(0, 0), (1, 1)] (exne 0) (via (finP (And.intro trivial e20) (.exit 0) [(0, 0), (1, 1)] (tourkeep2_BodyPlaced.c2q y1 y5 (.inr ()))) (by kernel_rfl)))))
theorem tourkeep2_BodyPlaced.way (k : Nat) (a0 : (List Int)) : Owp (tourkeep2_BodyPlaced k a0) fun y => ∃ answers cmds, exec PR (tourkeep2_BodyPlaced.cx k) tourkeep2_BodyPlaced.code 0 (entry (.pair T49 .unit) (a0, ())).st answers (Ret (tourkeep2_BodyPlaced.cx k) Try.f5 cmds (.one (.dp T4)) y) := by
  unfold tourkeep2_BodyPlaced; exact
   Owp.bnd fun y1 e2 =>
   Owp.bnd fun y3 e4 =>
   Owp.bnd fun y5 e6 =>
   Owp.bnd fun o16 e17 =>
   Owp.bif (fun e18 =>
   Owp.some (⟨[.res (.one (.dp T25)) y1, .res (.one (.dp T24)) y3, .res (.one (.dp (.pair T22 (.pair T22 .unit)))) y5, .cutR 3 ⟨[], [(0, 3), (1, 9)], (tourkeep2_BodyPlaced.c1p y1 y3 y5), 2, .normal, (tourkeep2_BodyPlaced.c1q y1 y3 y5 o16), 2⟩, .dec true], [], via (cutP (And.intro (And.intro (And.intro trivial e2) e4) e6) [(0, 3), (1, 9)] (tourkeep2_BodyPlaced.c1p y1 y3 y5) (((tourkeep2_BodyPlaced.c1_ok k y1 y3 y5).ap e17)) (retP (And.intro trivial e18) (.one (.dp T4)) (false : Bool))) (by kernel_rfl)⟩)) (fun e18 =>
   Owp.bnd fun o28 e29 =>
    Owp.two (fun y30 e31 =>
    Owp.some (⟨[.res (.one (.dp T25)) y1, .res (.one (.dp T24)) y3, .res (.one (.dp (.pair T22 (.pair T22 .unit)))) y5, .cutR 3 ⟨[], [(0, 3), (1, 9)], (tourkeep2_BodyPlaced.c1p y1 y3 y5), 2, .normal, (tourkeep2_BodyPlaced.c1q y1 y3 y5 o16), 2⟩, .dec false, .cut ⟨[], [(0, 0), (1, 1)], (tourkeep2_BodyPlaced.c2p y1 y3 y5 (0 : Int)), 2, .ret, (tourkeep2_BodyPlaced.c2q y1 y5 (.inl ())), 0⟩], [], via (cutP (And.intro (And.intro (And.intro trivial e2) e4) e6) [(0, 3), (1, 9)] (tourkeep2_BodyPlaced.c1p y1 y3 y5) (((tourkeep2_BodyPlaced.c1_ok k y1 y3 y5).ap e17)) (cutP (And.intro trivial e18) [(0, 0), (1, 1)] (tourkeep2_BodyPlaced.c2p y1 y3 y5 (0 : Int)) (((tourkeep2_BodyPlaced.c2_ok k y1 y3 y5 k (0 : Int)).ap (e29.trans (congrArg some e31))).triple) (retP trivial (.one (.dp T4)) (false : Bool)))) (by kernel_rfl)⟩)) (fun y32 e33 =>
    Owp.bif (fun e34 =>
     Owp.bif (fun e35 =>
      Owp.bif (fun e36 =>
       Owp.some (⟨[.res (.one (.dp T25)) y1, .res (.one (.dp T24)) y3, .res (.one (.dp (.pair T22 (.pair T22 .unit)))) y5, .cutR 3 ⟨[], [(0, 3), (1, 9)], (tourkeep2_BodyPlaced.c1p y1 y3 y5), 2, .normal, (tourkeep2_BodyPlaced.c1q y1 y3 y5 o16), 2⟩, .dec false, .cut ⟨[], [(0, 0), (1, 1)], (tourkeep2_BodyPlaced.c2p y1 y3 y5 (0 : Int)), 2, (.exit 0), (tourkeep2_BodyPlaced.c2q y1 y5 (.inr ())), 2⟩, .dec true, .dec true, .dec true, .dec true, .dec true, .dec true, .dec true, .dec true, .dec true, .dec true, .dec true, .dec true, .dec true, .dec true, .dec true, .dec true, .dec true, .dec true, .dec true, .dec true, .dec true, .dec true, .dec true, .dec true, .dec true, .dec true, .dec true], [], via (cutP (And.intro (And.intro (And.intro trivial e2) e4) e6) [(0, 3), (1, 9)] (tourkeep2_BodyPlaced.c1p y1 y3 y5) (((tourkeep2_BodyPlaced.c1_ok k y1 y3 y5).ap e17)) (cutP (And.intro trivial e18) [(0, 0), (1, 1)] (tourkeep2_BodyPlaced.c2p y1 y3 y5 (0 : Int)) (((tourkeep2_BodyPlaced.c2_ok k y1 y3 y5 k (0 : Int)).ap (e29.trans (congrArg some e33))).triple) (retP (And.intro (And.intro (And.intro (And.intro (And.intro (And.intro (And.intro (And.intro (And.intro (And.intro (And.intro (And.intro (And.intro (And.intro (And.intro (And.intro (And.intro (And.intro (And.intro (And.intro (And.intro (And.intro (And.intro (And.intro (And.intro (And.intro (And.intro trivial e34) e34) e34) e34) e34) e34) e34) e34) e34) e35) e35) e35) e35) e35) e35) e35) e35) e35) e36) e36) e36) e36) e36) e36) e36) e36) e36) (.one (.dp T4)) ((ile y1.1.2.1 (iadd .i64 y5.2.1.2.1 (2 : Int))) : Bool)))) (by kernel_rfl)⟩)) (fun e36 =>
       Owp.some (⟨[.res (.one (.dp T25)) y1, .res (.one (.dp T24)) y3, .res (.one (.dp (.pair T22 (.pair T22 .unit)))) y5, .cutR 3 ⟨[], [(0, 3), (1, 9)], (tourkeep2_BodyPlaced.c1p y1 y3 y5), 2, .normal, (tourkeep2_BodyPlaced.c1q y1 y3 y5 o16), 2⟩, .dec false, .cut ⟨[], [(0, 0), (1, 1)], (tourkeep2_BodyPlaced.c2p y1 y3 y5 (0 : Int)), 2, (.exit 0), (tourkeep2_BodyPlaced.c2q y1 y5 (.inr ())), 2⟩, .dec true, .dec true, .dec true, .dec true, .dec true, .dec true, .dec true, .dec true, .dec true, .dec true, .dec true, .dec true, .dec true, .dec true, .dec true, .dec true, .dec true, .dec true, .dec false, .dec false, .dec false, .dec false, .dec false, .dec false, .dec false, .dec false, .dec false], [], via (cutP (And.intro (And.intro (And.intro trivial e2) e4) e6) [(0, 3), (1, 9)] (tourkeep2_BodyPlaced.c1p y1 y3 y5) (((tourkeep2_BodyPlaced.c1_ok k y1 y3 y5).ap e17)) (cutP (And.intro trivial e18) [(0, 0), (1, 1)] (tourkeep2_BodyPlaced.c2p y1 y3 y5 (0 : Int)) (((tourkeep2_BodyPlaced.c2_ok k y1 y3 y5 k (0 : Int)).ap (e29.trans (congrArg some e33))).triple) (retP (And.intro (And.intro (And.intro (And.intro (And.intro (And.intro (And.intro (And.intro (And.intro (And.intro (And.intro (And.intro (And.intro (And.intro (And.intro (And.intro (And.intro (And.intro (And.intro (And.intro (And.intro (And.intro (And.intro (And.intro (And.intro (And.intro (And.intro trivial e34) e34) e34) e34) e34) e34) e34) e34) e34) e35) e35) e35) e35) e35) e35) e35) e35) e35) e36) e36) e36) e36) e36) e36) e36) e36) e36) (.one (.dp T4)) (false : Bool)))) (by kernel_rfl)⟩))) (fun e35 =>
      Owp.some (⟨[.res (.one (.dp T25)) y1, .res (.one (.dp T24)) y3, .res (.one (.dp (.pair T22 (.pair T22 .unit)))) y5, .cutR 3 ⟨[], [(0, 3), (1, 9)], (tourkeep2_BodyPlaced.c1p y1 y3 y5), 2, .normal, (tourkeep2_BodyPlaced.c1q y1 y3 y5 o16), 2⟩, .dec false, .cut ⟨[], [(0, 0), (1, 1)], (tourkeep2_BodyPlaced.c2p y1 y3 y5 (0 : Int)), 2, (.exit 0), (tourkeep2_BodyPlaced.c2q y1 y5 (.inr ())), 2⟩, .dec true, .dec true, .dec true, .dec true, .dec true, .dec true, .dec true, .dec true, .dec true, .dec false, .dec false, .dec false, .dec false, .dec false, .dec false, .dec false, .dec false, .dec false, .dec false, .dec false, .dec false, .dec false, .dec false, .dec false, .dec false, .dec false, .dec false], [], via (cutP (And.intro (And.intro (And.intro trivial e2) e4) e6) [(0, 3), (1, 9)] (tourkeep2_BodyPlaced.c1p y1 y3 y5) (((tourkeep2_BodyPlaced.c1_ok k y1 y3 y5).ap e17)) (cutP (And.intro trivial e18) [(0, 0), (1, 1)] (tourkeep2_BodyPlaced.c2p y1 y3 y5 (0 : Int)) (((tourkeep2_BodyPlaced.c2_ok k y1 y3 y5 k (0 : Int)).ap (e29.trans (congrArg some e33))).triple) (retP (And.intro (And.intro (And.intro (And.intro (And.intro (And.intro (And.intro (And.intro (And.intro (And.intro (And.intro (And.intro (And.intro (And.intro (And.intro (And.intro (And.intro (And.intro (And.intro (And.intro (And.intro (And.intro (And.intro (And.intro (And.intro (And.intro (And.intro trivial e34) e34) e34) e34) e34) e34) e34) e34) e34) e35) e35) e35) e35) e35) e35) e35) e35) e35) ff) ff) ff) ff) ff) ff) ff) ff) ff) (.one (.dp T4)) (false : Bool)))) (by kernel_rfl)⟩))) (fun e34 =>
     Owp.some (⟨[.res (.one (.dp T25)) y1, .res (.one (.dp T24)) y3, .res (.one (.dp (.pair T22 (.pair T22 .unit)))) y5, .cutR 3 ⟨[], [(0, 3), (1, 9)], (tourkeep2_BodyPlaced.c1p y1 y3 y5), 2, .normal, (tourkeep2_BodyPlaced.c1q y1 y3 y5 o16), 2⟩, .dec false, .cut ⟨[], [(0, 0), (1, 1)], (tourkeep2_BodyPlaced.c2p y1 y3 y5 (0 : Int)), 2, (.exit 0), (tourkeep2_BodyPlaced.c2q y1 y5 (.inr ())), 2⟩, .dec false, .dec false, .dec false, .dec false, .dec false, .dec false, .dec false, .dec false, .dec false, .dec false, .dec false, .dec false, .dec false, .dec false, .dec false, .dec false, .dec false, .dec false, .dec false, .dec false, .dec false, .dec false, .dec false, .dec false, .dec false, .dec false, .dec false], [], via (cutP (And.intro (And.intro (And.intro trivial e2) e4) e6) [(0, 3), (1, 9)] (tourkeep2_BodyPlaced.c1p y1 y3 y5) (((tourkeep2_BodyPlaced.c1_ok k y1 y3 y5).ap e17)) (cutP (And.intro trivial e18) [(0, 0), (1, 1)] (tourkeep2_BodyPlaced.c2p y1 y3 y5 (0 : Int)) (((tourkeep2_BodyPlaced.c2_ok k y1 y3 y5 k (0 : Int)).ap (e29.trans (congrArg some e33))).triple) (retP (And.intro (And.intro (And.intro (And.intro (And.intro (And.intro (And.intro (And.intro (And.intro (And.intro (And.intro (And.intro (And.intro (And.intro (And.intro (And.intro (And.intro (And.intro (And.intro (And.intro (And.intro (And.intro (And.intro (And.intro (And.intro (And.intro (And.intro trivial e34) e34) e34) e34) e34) e34) e34) e34) e34) ff) ff) ff) ff) ff) ff) ff) ff) ff) ff) ff) ff) ff) ff) ff) ff) ff) ff) (.one (.dp T4)) (false : Bool)))) (by kernel_rfl)⟩))))
theorem tourkeep2_BodyPlaced.ok (k : Nat) : FnOk PR 5 (tourkeep2_BodyPlaced.sp k) :=
  fn_ok (tourkeep2_BodyPlaced.cok k) hmix Try.func5 (code := tourkeep2_BodyPlaced.code) (by kernel_rfl) (by kernel_rfl) (by kernel_rfl) rfl (by kernel_rfl) (by kernel_rfl) (by kernel_rfl) (fun x => Nat.le_of_ble_eq_true (by kernel_rfl)) fun x y hy => (tourkeep2_BodyPlaced.way k x.1).ap hy

/-! tourney/tourref2.Placed -/
noncomputable def tourref2_Placed.code : Code := Func.cd Try.f44
def tourref2_Placed.c1 (k : Nat) (a0 : V25) : Nat → Int → (List V22) → Option ((List V22))
  | 0, _, _ => none
  | n + 1, v2, v3 =>
   bif' (ilt v2 (len (mk0 Z22 (len a0.2.2.2.2.2.2.2.2.1))))
   (req (inL v2 a0.2.2.2.2.2.2.2.2.1) <|
    bnd (tourref2_World k a0 (el Z22 a0.2.2.2.2.2.2.2.2.1 v2)) fun y6 =>
    req (inL v2 v3) <|
    tourref2_Placed.c1 k a0 n (iadd .i64 v2 1) (st v3 v2 y6))
   (some v3)
def tourref2_Placed (k : Nat) (a0 : V25) : Option (List V22) :=
  req (mkOk 16 (len a0.2.2.2.2.2.2.2.2.1) (len a0.2.2.2.2.2.2.2.2.1)) <|
  bnd (tourref2_Placed.c1 k a0 k 0 (mk0 Z22 (len a0.2.2.2.2.2.2.2.2.1))) fun o9 =>
  some o9
noncomputable def tourref2_Placed.sp (k : Nat) : Go.Sx.Spec := ⟨(.pair T25 .unit), (.one (.ow T22 23)), fun x => tourref2_Placed k x.1, false⟩
noncomputable def tourref2_Placed.cx (k : Nat) : Go.Sx.Ctx := ⟨tys, [(115, tourref2_World.sp k)], eqs, 26, false⟩
theorem tourref2_Placed.cok (k : Nat) : CtxOk PR (tourref2_Placed.cx k) := ctx_ok tysOk eqsOk (FnsOk.cons (tourref2_World.ok k) FnsOk.nil)
noncomputable def tourref2_Placed.c1p (a0 : V25) (v2 : Int) (v3 : (List V22)) : SL := ⟨[(1, (.val .ptr ⟨0, 0, (0 : Int), 0, 0⟩)), (3, (.val .own (1 : Nat))), (10, (.val T2 (len (mk0 Z22 (len a0.2.2.2.2.2.2.2.2.1))))), (11, (.val T2 v2))], [(0, .cells T25 a0), (1, .row T22 v3 23)]⟩
noncomputable def tourref2_Placed.c1q (o : (List V22)) : SL := (fun v => ⟨[(3, (.val .own (0 : Nat)))], [(0, .row T22 v 23)]⟩) o
noncomputable def tourref2_Placed.c1x (o : (List V22)) : Ex := (fun _ => (.exit 0)) o
noncomputable def tourref2_Placed.c1n (o : (List V22)) : Nat := (fun _ => 1) o
theorem tourref2_Placed.c1_ok (k : Nat) (a0 : V25) : ∀ (n : Nat) (v2 : Int) (v3 : (List V22)), Owp (tourref2_Placed.c1 k a0 n v2 v3) fun o => LTriple PR (tourref2_Placed.cx k) (sub tourref2_Placed.code [1, 1, 0, 1, 0, 0]) 2 (tourref2_Placed.c1p a0 v2 v3) (tourref2_Placed.c1x o) (tourref2_Placed.c1n o) (tourref2_Placed.c1q o)
  | 0, _, _ => fun _ h => nomatch h
  | n + 1, v2, v3 => Owp.of (tourref2_Placed.c1.eq_2 ..) (
   Owp.bif (fun e4 =>
   Owp.req fun h5 =>
    Owp.bnd fun y6 e7 =>
    Owp.req fun h8 =>
    fun y hy => loop_back (tourref2_Placed.cok k) hmix 2 (tourref2_Placed.c1p a0 (iadd .i64 v2 (1 : Int)) (st v3 v2 y6)) [.dec true, .res (.one (.dp T22)) y6] [] [(0, 0), (1, 1)] (via (finP (And.intro (And.intro (And.intro (And.intro (And.intro trivial e4) h5) e7) h8) h8) .normal [(0, 0), (1, 1)] (tourref2_Placed.c1p a0 (iadd .i64 v2 (1 : Int)) (st v3 v2 y6))) (by kernel_rfl)) ((tourref2_Placed.c1_ok k a0 n (iadd .i64 v2 (1 : Int)) (st v3 v2 y6)).ap hy)) (fun e4 =>
   Owp.some (loop_exit (tourref2_Placed.cok k) hmix [.dec false] [] [(0, 1)] (exne 0) (via (finP (And.intro trivial e4) (.exit 0) [(0, 1)] (tourref2_Placed.c1q v3)) (by kernel_rfl)))))
theorem tourref2_Placed.way (k : Nat) (a0 : V25) : Owp (tourref2_Placed k a0) fun y => ∃ answers cmds, exec PR (tourref2_Placed.cx k) tourref2_Placed.code 0 (entry (.pair T25 .unit) (a0, ())).st answers (Ret (tourref2_Placed.cx k) Try.f44 cmds (.one (.ow T22 23)) y) := by
  unfold tourref2_Placed; exact
   Owp.req fun h1 =>
   Owp.bnd fun o9 e10 =>
   Owp.some (⟨[.cut ⟨[], [(0, 0), (1, 5)], (tourref2_Placed.c1p a0 (0 : Int) (mk0 Z22 (len a0.2.2.2.2.2.2.2.2.1))), 2, (.exit 0), (tourref2_Placed.c1q o9), 1⟩], [], via (cutP (And.intro trivial h1) [(0, 0), (1, 5)] (tourref2_Placed.c1p a0 (0 : Int) (mk0 Z22 (len a0.2.2.2.2.2.2.2.2.1))) (((tourref2_Placed.c1_ok k a0 k (0 : Int) (mk0 Z22 (len a0.2.2.2.2.2.2.2.2.1))).ap e10).triple) (retP trivial (.one (.ow T22 23)) (o9 : (List V22)))) (by kernel_rfl)⟩)
theorem tourref2_Placed.ok (k : Nat) : FnOk PR 44 (tourref2_Placed.sp k) :=
  fn_ok (tourref2_Placed.cok k) hmix Try.func44 (code := tourref2_Placed.code) (by kernel_rfl) (by kernel_rfl) (by kernel_rfl) rfl (by kernel_rfl) (by kernel_rfl) (by kernel_rfl) (fun x => Nat.le_of_ble_eq_true (by kernel_rfl)) fun x y hy => (tourref2_Placed.way k x.1).ap hy

/-! slices.Min[[]int,int] -/
noncomputable def slices_Min.code : Code := Func.cd Try.f116
def slices_Min.c1 (k : Nat) (a0 : (List Int)) : Nat → Int → Int → Option (Int)
  | 0, _, _ => none
  | n + 1, v3, v4 =>
   bif' (ilt v4 (len a0))
   (req (inL v4 a0) <|
    slices_Min.c1 k a0 n (imin v3 (el 0 a0 v4)) (iadd .i64 v4 1))
   (some v3)
def slices_Min (k : Nat) (a0 : (List Int)) : Option Int :=
  bif' (ilt (len a0) 1)
  (none)
  (req (inL 0 a0) <|
   bnd (slices_Min.c1 k a0 k (el 0 a0 0) 1) fun o7 =>
   some o7)
noncomputable def slices_Min.sp (k : Nat) : Go.Sx.Spec := ⟨(.pair T49 .unit), (.one (.dp T2)), fun x => slices_Min k x.1, false⟩
noncomputable def slices_Min.cx (k : Nat) : Go.Sx.Ctx := ⟨tys, [], eqs, 25, false⟩
theorem slices_Min.cok (k : Nat) : CtxOk PR (slices_Min.cx k) := ctx_ok tysOk eqsOk FnsOk.nil
noncomputable def slices_Min.c1p (a0 : (List Int)) (v3 : Int) (v4 : Int) : SL := ⟨[(0, (.val T49 a0)), (3, (.val T2 v3)), (4, (.val T2 v4))], []⟩
noncomputable def slices_Min.c1q (o : Int) : SL := (fun v => ⟨[(3, (.val T2 v))], []⟩) o
noncomputable def slices_Min.c1x (o : Int) : Ex := (fun _ => (.exit 0)) o
noncomputable def slices_Min.c1n (o : Int) : Nat := (fun _ => 0) o
theorem slices_Min.c1_ok (k : Nat) (a0 : (List Int)) : ∀ (n : Nat) (v3 : Int) (v4 : Int), Owp (slices_Min.c1 k a0 n v3 v4) fun o => LTriple PR (slices_Min.cx k) (sub slices_Min.code [1, 1, 1, 0, 1, 0, 0]) 0 (slices_Min.c1p a0 v3 v4) (slices_Min.c1x o) (slices_Min.c1n o) (slices_Min.c1q o)
  | 0, _, _ => fun _ h => nomatch h
  | n + 1, v3, v4 => Owp.of (slices_Min.c1.eq_2 ..) (
   Owp.bif (fun e5 =>
   Owp.req fun h6 =>
    fun y hy => loop_back (slices_Min.cok k) hmix 0 (slices_Min.c1p a0 (imin v3 (el (0 : Int) a0 v4)) (iadd .i64 v4 (1 : Int))) [.dec true] [] [] (via (finP (And.intro (And.intro trivial e5) h6) .normal [] (slices_Min.c1p a0 (imin v3 (el (0 : Int) a0 v4)) (iadd .i64 v4 (1 : Int)))) (by kernel_rfl)) ((slices_Min.c1_ok k a0 n (imin v3 (el (0 : Int) a0 v4)) (iadd .i64 v4 (1 : Int))).ap hy)) (fun e5 =>
   Owp.some (loop_exit (slices_Min.cok k) hmix [.dec false] [] [] (exne 0) (via (finP (And.intro trivial e5) (.exit 0) [] (slices_Min.c1q v3)) (by kernel_rfl)))))
theorem slices_Min.way (k : Nat) (a0 : (List Int)) : Owp (slices_Min k a0) fun y => ∃ answers cmds, exec PR (slices_Min.cx k) slices_Min.code 0 (entry (.pair T49 .unit) (a0, ())).st answers (Ret (slices_Min.cx k) Try.f116 cmds (.one (.dp T2)) y) := by
  unfold slices_Min; exact
   Owp.bif (fun e1 =>
   Owp.none) (fun e1 =>
   Owp.req fun h2 =>
    Owp.bnd fun o7 e8 =>
    Owp.some (⟨[.dec false, .cut ⟨[], [], (slices_Min.c1p a0 (el (0 : Int) a0 (0 : Int)) (1 : Int)), 0, (.exit 0), (slices_Min.c1q o7), 0⟩], [], via (cutP (And.intro (And.intro trivial e1) h2) [] (slices_Min.c1p a0 (el (0 : Int) a0 (0 : Int)) (1 : Int)) (((slices_Min.c1_ok k a0 k (el (0 : Int) a0 (0 : Int)) (1 : Int)).ap e8).triple) (retP trivial (.one (.dp T2)) (o7 : Int))) (by kernel_rfl)⟩))
theorem slices_Min.ok (k : Nat) : FnOk PR 116 (slices_Min.sp k) :=
  fn_ok (slices_Min.cok k) hmix Try.func116 (code := slices_Min.code) (by kernel_rfl) (by kernel_rfl) (by kernel_rfl) rfl (by kernel_rfl) (by kernel_rfl) (by kernel_rfl) (fun x => Nat.le_of_ble_eq_true (by kernel_rfl)) fun x y hy => (slices_Min.way k x.1).ap hy

/-! slices.Max[[]int,int] -/
noncomputable def slices_Max.code : Code := Func.cd Try.f117
def slices_Max.c1 (k : Nat) (a0 : (List Int)) : Nat → Int → Int → Option (Int)
  | 0, _, _ => none
  | n + 1, v3, v4 =>
   bif' (ilt v4 (len a0))
   (req (inL v4 a0) <|
    slices_Max.c1 k a0 n (imax v3 (el 0 a0 v4)) (iadd .i64 v4 1))
   (some v3)
def slices_Max (k : Nat) (a0 : (List Int)) : Option Int :=
  bif' (ilt (len a0) 1)
  (none)
  (req (inL 0 a0) <|
   bnd (slices_Max.c1 k a0 k (el 0 a0 0) 1) fun o7 =>
   some o7)
noncomputable def slices_Max.sp (k : Nat) : Go.Sx.Spec := ⟨(.pair T49 .unit), (.one (.dp T2)), fun x => slices_Max k x.1, false⟩
noncomputable def slices_Max.cx (k : Nat) : Go.Sx.Ctx := ⟨tys, [], eqs, 25, false⟩
theorem slices_Max.cok (k : Nat) : CtxOk PR (slices_Max.cx k) := ctx_ok tysOk eqsOk FnsOk.nil
noncomputable def slices_Max.c1p (a0 : (List Int)) (v3 : Int) (v4 : Int) : SL := ⟨[(0, (.val T49 a0)), (3, (.val T2 v3)), (4, (.val T2 v4))], []⟩
noncomputable def slices_Max.c1q (o : Int) : SL := (fun v => ⟨[(3, (.val T2 v))], []⟩) o
noncomputable def slices_Max.c1x (o : Int) : Ex := (fun _ => (.exit 0)) o
noncomputable def slices_Max.c1n (o : Int) : Nat := (fun _ => 0) o
theorem slices_Max.c1_ok (k : Nat) (a0 : (List Int)) : ∀ (n : Nat) (v3 : Int) (v4 : Int), Owp (slices_Max.c1 k a0 n v3 v4) fun o => LTriple PR (slices_Max.cx k) (sub slices_Max.code [1, 1, 1, 0, 1, 0, 0]) 0 (slices_Max.c1p a0 v3 v4) (slices_Max.c1x o) (slices_Max.c1n o) (slices_Max.c1q o)
  | 0, _, _ => fun _ h => nomatch h
  | n + 1, v3, v4 => Owp.of (slices_Max.c1.eq_2 ..) (
   Owp.bif (fun e5 =>
   Owp.req fun h6 =>
    fun y hy => loop_back (slices_Max.cok k) hmix 0 (slices_Max.c1p a0 (imax v3 (el (0 : Int) a0 v4)) (iadd .i64 v4 (1 : Int))) [.dec true] [] [] (via (finP (And.intro (And.intro trivial e5) h6) .normal [] (slices_Max.c1p a0 (imax v3 (el (0 : Int) a0 v4)) (iadd .i64 v4 (1 : Int)))) (by kernel_rfl)) ((slices_Max.c1_ok k a0 n (imax v3 (el (0 : Int) a0 v4)) (iadd .i64 v4 (1 : Int))).ap hy)) (fun e5 =>
   Owp.some (loop_exit (slices_Max.cok k) hmix [.dec false] [] [] (exne 0) (via (finP (And.intro trivial e5) (.exit 0) [] (slices_Max.c1q v3)) (by kernel_rfl)))))
theorem slices_Max.way (k : Nat) (a0 : (List Int)) : Owp (slices_Max k a0) fun y => ∃ answers cmds, exec PR (slices_Max.cx k) slices_Max.code 0 (entry (.pair T49 .unit) (a0, ())).st answers (Ret (slices_Max.cx k) Try.f117 cmds (.one (.dp T2)) y) := by
  unfold slices_Max; exact
   Owp.bif (fun e1 =>
   Owp.none) (fun e1 =>
   Owp.req fun h2 =>
    Owp.bnd fun o7 e8 =>
    Owp.some (⟨[.dec false, .cut ⟨[], [], (slices_Max.c1p a0 (el (0 : Int) a0 (0 : Int)) (1 : Int)), 0, (.exit 0), (slices_Max.c1q o7), 0⟩], [], via (cutP (And.intro (And.intro trivial e1) h2) [] (slices_Max.c1p a0 (el (0 : Int) a0 (0 : Int)) (1 : Int)) (((slices_Max.c1_ok k a0 k (el (0 : Int) a0 (0 : Int)) (1 : Int)).ap e8).triple) (retP trivial (.one (.dp T2)) (o7 : Int))) (by kernel_rfl)⟩))
theorem slices_Max.ok (k : Nat) : FnOk PR 117 (slices_Max.sp k) :=
  fn_ok (slices_Max.cok k) hmix Try.func117 (code := slices_Max.code) (by kernel_rfl) (by kernel_rfl) (by kernel_rfl) rfl (by kernel_rfl) (by kernel_rfl) (by kernel_rfl) (fun x => Nat.le_of_ble_eq_true (by kernel_rfl)) fun x y hy => (slices_Max.way k x.1).ap hy

/-! tourney/tourref2.Around -/
noncomputable def tourref2_Around.code : Code := Func.cd Try.f45
def tourref2_Around.c1 (k : Nat) (a0 : (List V22)) : Nat → Int → (List Int) → (List Int) → Option (((List Int) × (List Int)))
  | 0, _, _, _ => none
  | n + 1, v1, v2, v3 =>
   bif' (ilt v1 (len a0))
   (req (inL v1 a0) <|
    req (room 8 v2 [(el Z22 a0 v1).1]) <|
    req (room 8 v3 [(el Z22 a0 v1).2.1]) <|
    tourref2_Around.c1 k a0 n (iadd .i64 v1 1) (v2 ++ [(el Z22 a0 v1).1]) (v3 ++ [(el Z22 a0 v1).2.1]))
   (some (v2, v3))
def tourref2_Around (k : Nat) (a0 : (List V22)) : Option (V22 × (V22 × Unit)) :=
  bnd (tourref2_Around.c1 k a0 k 0 [] []) fun o8 =>
  bnd (slices_Min k o8.1) fun y10 =>
  bnd (slices_Min k o8.2) fun y12 =>
  bnd (slices_Max k o8.1) fun y14 =>
  bnd (slices_Max k o8.2) fun y16 =>
  some ((y10, y12, ()), (y14, y16, ()), ())
noncomputable def tourref2_Around.sp (k : Nat) : Go.Sx.Spec := ⟨(.pair T24 .unit), (.one (.dp (.pair T22 (.pair T22 .unit)))), fun x => tourref2_Around k x.1, false⟩
noncomputable def tourref2_Around.cx (k : Nat) : Go.Sx.Ctx := ⟨tys, [(116, slices_Min.sp k), (117, slices_Max.sp k)], eqs, 35, false⟩
theorem tourref2_Around.cok (k : Nat) : CtxOk PR (tourref2_Around.cx k) := ctx_ok tysOk eqsOk (FnsOk.cons (slices_Min.ok k) (FnsOk.cons (slices_Max.ok k) FnsOk.nil))
noncomputable def tourref2_Around.c1p (a0 : (List V22)) (v1 : Int) (v2 : (List Int)) (v3 : (List Int)) : SL := ⟨[(2, (.val .ptr ⟨0, 0, (0 : Int), 0, 0⟩)), (3, (.val .own (1 : Nat))), (4, (.val .own (2 : Nat))), (7, (.val T24 a0)), (8, (.val T2 (len a0))), (9, (.val T2 v1))], [(0, .cells (.pair T22 (.pair T22 .unit)) (((0 : Int), (0 : Int), ()), ((0 : Int), (0 : Int), ()), ())), (1, .row T2 v2 3), (2, .row T2 v3 3)]⟩
noncomputable def tourref2_Around.c1q (o : ((List Int) × (List Int))) : SL := (fun v => ⟨[(2, (.val .ptr ⟨0, 0, (0 : Int), 0, 0⟩)), (3, (.val .own (1 : Nat))), (4, (.val .own (2 : Nat)))], [(0, .cells (.pair T22 (.pair T22 .unit)) (((0 : Int), (0 : Int), ()), ((0 : Int), (0 : Int), ()), ())), (1, .row T2 v.1 3), (2, .row T2 v.2 3)]⟩) o
noncomputable def tourref2_Around.c1x (o : ((List Int) × (List Int))) : Ex := (fun _ => (.exit 0)) o
noncomputable def tourref2_Around.c1n (o : ((List Int) × (List Int))) : Nat := (fun _ => 3) o
theorem tourref2_Around.c1_ok (k : Nat) (a0 : (List V22)) : ∀ (n : Nat) (v1 : Int) (v2 : (List Int)) (v3 : (List Int)), Owp (tourref2_Around.c1 k a0 n v1 v2 v3) fun o => LTriple PR (tourref2_Around.cx k) (sub tourref2_Around.code [1, 1, 0, 1, 0, 0]) 3 (tourref2_Around.c1p a0 v1 v2 v3) (tourref2_Around.c1x o) (tourref2_Around.c1n o) (tourref2_Around.c1q o)
  | 0, _, _, _ => fun _ h => nomatch h
  | n + 1, v1, v2, v3 => Owp.of (tourref2_Around.c1.eq_2 ..) (
   Owp.bif (fun e4 =>
   Owp.req fun h5 =>
    Owp.req fun h6 =>
    Owp.req fun h7 =>
    fun y hy => loop_back (tourref2_Around.cok k) hmix 3 (tourref2_Around.c1p a0 (iadd .i64 v1 (1 : Int)) (v2 ++ [(el Z22 a0 v1).1]) (v3 ++ [(el Z22 a0 v1).2.1])) [.dec true, .dec true, .dec true] [] [(0, 0), (1, 12), (2, 17)] (via (finP (And.intro (And.intro (And.intro (And.intro trivial e4) h5) h6) h7) .normal [(0, 0), (1, 12), (2, 17)] (tourref2_Around.c1p a0 (iadd .i64 v1 (1 : Int)) (v2 ++ [(el Z22 a0 v1).1]) (v3 ++ [(el Z22 a0 v1).2.1]))) (by kernel_rfl)) ((tourref2_Around.c1_ok k a0 n (iadd .i64 v1 (1 : Int)) (v2 ++ [(el Z22 a0 v1).1]) (v3 ++ [(el Z22 a0 v1).2.1])).ap hy)) (fun e4 =>
   Owp.some (loop_exit (tourref2_Around.cok k) hmix [.dec false] [] [(0, 0), (1, 1), (2, 2)] (exne 0) (via (finP (And.intro trivial e4) (.exit 0) [(0, 0), (1, 1), (2, 2)] (tourref2_Around.c1q (v2, v3))) (by kernel_rfl)))))
theorem tourref2_Around.way (k : Nat) (a0 : (List V22)) : Owp (tourref2_Around k a0) fun y => ∃ answers cmds, exec PR (tourref2_Around.cx k) tourref2_Around.code 0 (entry (.pair T24 .unit) (a0, ())).st answers (Ret (tourref2_Around.cx k) Try.f45 cmds (.one (.dp (.pair T22 (.pair T22 .unit)))) y) := by
  unfold tourref2_Around; exact
   Owp.bnd fun o8 e9 =>
   Owp.bnd fun y10 e11 =>
   Owp.bnd fun y12 e13 =>
   Owp.bnd fun y14 e15 =>
   Owp.bnd fun y16 e17 =>
   Owp.some (⟨[.cut ⟨[.own 3 T2 3, .own 4 T2 3], [(0, 0), (1, 6), (2, 7)], (tourref2_Around.c1p a0 (0 : Int) [] []), 3, (.exit 0), (tourref2_Around.c1q o8), 3⟩, .res (.one (.dp T2)) y10, .res (.one (.dp T2)) y12, .res (.one (.dp T2)) y14, .res (.one (.dp T2)) y16], [], via (cutP trivial [(0, 0), (1, 6), (2, 7)] (tourref2_Around.c1p a0 (0 : Int) [] []) (((tourref2_Around.c1_ok k a0 k (0 : Int) [] []).ap e9).triple) (retP (And.intro (And.intro (And.intro (And.intro trivial e11) e13) e15) e17) (.one (.dp (.pair T22 (.pair T22 .unit)))) (((y10, y12, ()), (y14, y16, ()), ()) : (V22 × (V22 × Unit))))) (by kernel_rfl)⟩)
theorem tourref2_Around.ok (k : Nat) : FnOk PR 45 (tourref2_Around.sp k) :=
  fn_ok (tourref2_Around.cok k) hmix Try.func45 (code := tourref2_Around.code) (by kernel_rfl) (by kernel_rfl) (by kernel_rfl) rfl (by kernel_rfl) (by kernel_rfl) (by kernel_rfl) (fun x => Nat.le_of_ble_eq_true (by kernel_rfl)) fun x y hy => (tourref2_Around.way k x.1).ap hy

/-! tourney/tourref2.Step -/
noncomputable def tourref2_Step.code : Code := Func.cd Try.f46
def tourref2_Step.c1 (k : Nat) : Nat → Int → Option (Int)
  | 0, _ => none
  | n + 1, v14 =>
   bif' (ilt v14 0)
   (tourref2_Step.c1 k n (iadd .i64 v14 65536))
   (some v14)
def tourref2_Step (k : Nat) (a0 : V25) (a1 : Int) : Option V25 :=
  bnd (tourref2_Free k a0) fun y1 =>
  bif' y1
  (bnd (fix_Mul k a1 a0.2.1.1) fun y4 =>
   bnd (tourref2_nearest k (iadd .i64 a0.1.1 y4) 58982400) fun y6 =>
   bnd (fix_Mul k a1 a0.2.1.2.1) fun y8 =>
   bnd (tourref2_nearest k (iadd .i64 a0.1.2.1 y8) 58982400) fun y10 =>
   bnd (fix_Mul k a1 a0.2.2.2.1) fun y12 =>
   bnd (tourref2_Step.c1 k k (iadd .i64 a0.2.2.1 y12)) fun o16 =>
   some ((y6, y10, ()), a0.2.1, (irem o16 65536), a0.2.2.2))
  (some a0)
noncomputable def tourref2_Step.sp (k : Nat) : Go.Sx.Spec := ⟨(.pair T25 (.pair T2 .unit)), (.one (.dp T25)), fun x => tourref2_Step k x.1 x.2.1, false⟩
noncomputable def tourref2_Step.cx (k : Nat) : Go.Sx.Ctx := ⟨tys, [(91, tourref2_Free.sp k), (89, fix_Mul.sp k), (93, tourref2_nearest.sp k)], eqs, 51, false⟩
theorem tourref2_Step.cok (k : Nat) : CtxOk PR (tourref2_Step.cx k) := ctx_ok tysOk eqsOk (FnsOk.cons (tourref2_Free.ok k) (FnsOk.cons (fix_Mul.ok k) (FnsOk.cons (tourref2_nearest.ok k) FnsOk.nil)))
noncomputable def tourref2_Step.c1p (a0 : V25) (y6 : Int) (y10 : Int) (v14 : Int) : SL := ⟨[(2, (.val .ptr ⟨0, 0, (0 : Int), 0, 0⟩)), (4, (.val .ptr ⟨1, 0, (0 : Int), 0, 0⟩))], [(0, .cells T25 ((y6, y10, ()), a0.2.1, v14, a0.2.2.2)), (1, .cells T25 (((0 : Int), (0 : Int), ()), ((0 : Int), (0 : Int), ()), (0 : Int), (0 : Int), (0 : Int), (0 : Int), (0 : Int), (0 : Int), [], false, (0 : Int), ()))]⟩
noncomputable def tourref2_Step.c1q (a0 : V25) (y6 : Int) (y10 : Int) (o : Int) : SL := (fun v => ⟨[(2, (.val .ptr ⟨0, 0, (0 : Int), 0, 0⟩)), (4, (.val .ptr ⟨1, 0, (0 : Int), 0, 0⟩))], [(0, .cells T25 ((y6, y10, ()), a0.2.1, v, a0.2.2.2)), (1, .cells T25 (((0 : Int), (0 : Int), ()), ((0 : Int), (0 : Int), ()), (0 : Int), (0 : Int), (0 : Int), (0 : Int), (0 : Int), (0 : Int), [], false, (0 : Int), ()))]⟩) o
noncomputable def tourref2_Step.c1x (o : Int) : Ex := (fun _ => (.exit 0)) o
noncomputable def tourref2_Step.c1n (o : Int) : Nat := (fun _ => 2) o
theorem tourref2_Step.c1_ok (k : Nat) (a0 : V25) (y6 : Int) (y10 : Int) : ∀ (n : Nat) (v14 : Int), Owp (tourref2_Step.c1 k n v14) fun o => LTriple PR (tourref2_Step.cx k) (sub tourref2_Step.code [1, 1, 1, 1, 0, 0, 0]) 2 (tourref2_Step.c1p a0 y6 y10 v14) (tourref2_Step.c1x o) (tourref2_Step.c1n o) (tourref2_Step.c1q a0 y6 y10 o)
  | 0, _ => fun _ h => nomatch h
  | n + 1, v14 => Owp.of (tourref2_Step.c1.eq_2 ..) (
   Owp.bif (fun e15 =>
   fun y hy => loop_back (tourref2_Step.cok k) hmix 2 (tourref2_Step.c1p a0 y6 y10 (iadd .i64 v14 (65536 : Int))) [.dec true] [] [(0, 0), (1, 1)] (via (finP (And.intro trivial e15) .normal [(0, 0), (1, 1)] (tourref2_Step.c1p a0 y6 y10 (iadd .i64 v14 (65536 : Int)))) (by kernel_rfl)) ((tourref2_Step.c1_ok k a0 y6 y10 n (iadd .i64 v14 (65536 : Int))).ap hy)) (fun e15 =>
   Owp.some (loop_exit (tourref2_Step.cok k) hmix [.dec false] [] [(0, 0), (1, 1)] (exne 0) (via (finP (And.intro trivial e15) (.exit 0) [(0, 0), (1, 1)] (tourref2_Step.c1q a0 y6 y10 v14)) (by kernel_rfl)))))
theorem tourref2_Step.way (k : Nat) (a0 : V25) (a1 : Int) : Owp (tourref2_Step k a0 a1) fun y => ∃ answers cmds, exec PR (tourref2_Step.cx k) tourref2_Step.code 0 (entry (.pair T25 (.pair T2 .unit)) (a0, a1, ())).st answers (Ret (tourref2_Step.cx k) Try.f46 cmds (.one (.dp T25)) y) := by
  unfold tourref2_Step; exact
   Owp.bnd fun y1 e2 =>
   Owp.bif (fun e3 =>
   Owp.bnd fun y4 e5 =>
    Owp.bnd fun y6 e7 =>
    Owp.bnd fun y8 e9 =>
    Owp.bnd fun y10 e11 =>
    Owp.bnd fun y12 e13 =>
    Owp.bnd fun o16 e17 =>
    Owp.some (⟨[.res (.one (.dp T4)) y1, .dec false, .res (.one (.dp T2)) y4, .res (.one (.dp T2)) y6, .res (.one (.dp T2)) y8, .res (.one (.dp T2)) y10, .res (.one (.dp T2)) y12, .cut ⟨[], [(0, 0), (1, 1)], (tourref2_Step.c1p a0 y6 y10 (iadd .i64 a0.2.2.1 y12)), 2, (.exit 0), (tourref2_Step.c1q a0 y6 y10 o16), 2⟩], [], via (cutP (And.intro (And.intro (And.intro (And.intro (And.intro (And.intro (And.intro trivial e2) (congrArg not e3)) e5) e7) e9) e11) e13) [(0, 0), (1, 1)] (tourref2_Step.c1p a0 y6 y10 (iadd .i64 a0.2.2.1 y12)) (((tourref2_Step.c1_ok k a0 y6 y10 k (iadd .i64 a0.2.2.1 y12)).ap e17).triple) (retP (And.intro trivial (by decide : nz (65536 : Int))) (.one (.dp T25)) (((y6, y10, ()), a0.2.1, (irem o16 (65536 : Int)), a0.2.2.2) : V25))) (by kernel_rfl)⟩)) (fun e3 =>
   Owp.some (⟨[.res (.one (.dp T4)) y1, .dec true], [], via (retP (And.intro (And.intro trivial e2) (congrArg not e3)) (.one (.dp T25)) (a0 : V25)) (by kernel_rfl)⟩))
theorem tourref2_Step.ok (k : Nat) : FnOk PR 46 (tourref2_Step.sp k) :=
  fn_ok (tourref2_Step.cok k) hmix Try.func46 (code := tourref2_Step.code) (by kernel_rfl) (by kernel_rfl) (by kernel_rfl) rfl (by kernel_rfl) (by kernel_rfl) (by kernel_rfl) (fun x => Nat.le_of_ble_eq_true (by kernel_rfl)) fun x y hy => (tourref2_Step.way k x.1 x.2.1).ap hy

/-! tourney/tourlaw2.BodyChecks -/
noncomputable def tourlaw2_BodyChecks.code : Code := Func.cd Try.f6
def tourlaw2_BodyChecks.c1 (k : Nat) (a0 : V25) (y1 : Int) : Option (Bool) :=
  bnd (tourlaw2_bodyBegun k) fun y3 =>
  bif' y3
  (bnd (body_Check k a0) fun y6 =>
   some (ine y6 y1))
  (some true)
def tourlaw2_BodyChecks.c2 (k : Nat) (a0 : V25) (y11 : V25) (y13 : (List V22)) : Option (Bool) :=
  bif' (ieq (len y13) 0)
  (bnd (body_Bounds k a0) fun y17 =>
   bif' (Ty.eqb (.pair T22 (.pair T22 .unit)) y17 (((0 : Int), (0 : Int), ()), ((0 : Int), (0 : Int), ()), ()))
   (bnd (tourref2_SameBody k y11 a0) fun y20 =>
    some y20)
   (some false))
  (some false)
def tourlaw2_BodyChecks.c3 (k : Nat) (a0 : V25) (y13 : (List V22)) : Option (Bool) :=
  bnd (tourref2_Placed k a0) fun y24 =>
  bnd (slices_Equal k y13 y24) fun y26 =>
  bif' y26
  (bnd (body_Bounds k a0) fun y29 =>
   bnd (tourref2_Placed k a0) fun y31 =>
   bnd (tourref2_Around k y31) fun y33 =>
   some (!(Ty.eqb (.pair T22 (.pair T22 .unit)) y29 y33)))
  (some true)
def tourlaw2_BodyChecks.c4 (k : Nat) (a1 : Int) : Option (Bool) :=
  bif' (ilt a1 0)
  (some true)
  (some (igt a1 65536))
def tourlaw2_BodyChecks (k : Nat) (a0 : V25) (a1 : Int) : Option Bool :=
  bnd (tourref2_Body k a0) fun y1 =>
  bnd (tourlaw2_BodyChecks.c1 k a0 y1) fun o8 =>
  bif' o8
  (some false)
  (bnd (body_Move k a0 a1) fun y11 =>
   bnd (body_Place k a0) fun y13 =>
   bif' (ine y1 0)
   (bnd (tourlaw2_BodyChecks.c2 k a0 y11 y13) fun o22 =>
    some o22)
   (bnd (tourlaw2_BodyChecks.c3 k a0 y13) fun o35 =>
    bif' o35
    (some false)
    (bnd (tourlaw2_BodyChecks.c4 k a1) fun o39 =>
     bif' o39
     (bnd (tourref2_SameBody k y11 a0) fun y42 =>
      some y42)
     (bnd (tourref2_Step k a0 a1) fun y44 =>
      bnd (tourref2_SameBody k y11 y44) fun y46 =>
      some y46))))
noncomputable def tourlaw2_BodyChecks.sp (k : Nat) : Go.Sx.Spec := ⟨(.pair T25 (.pair T2 .unit)), (.one (.dp T4)), fun x => tourlaw2_BodyChecks k x.1 x.2.1, false⟩
noncomputable def tourlaw2_BodyChecks.cx (k : Nat) : Go.Sx.Ctx := ⟨tys, [(17, tourref2_Body.sp k), (15, tourlaw2_bodyBegun.sp k), (41, body_Check.sp k), (42, body_Move.sp k), (36, (body_Place.sp k).frz), (37, body_Bounds.sp k), (18, tourref2_SameBody.sp k), (44, tourref2_Placed.sp k), (43, slices_Equal.sp k), (45, tourref2_Around.sp k), (46, tourref2_Step.sp k)], eqs, 66, false⟩
theorem tourlaw2_BodyChecks.cok (k : Nat) : CtxOk PR (tourlaw2_BodyChecks.cx k) := ctx_ok tysOk eqsOk (FnsOk.cons (tourref2_Body.ok k) (FnsOk.cons (tourlaw2_bodyBegun.ok k) (FnsOk.cons (body_Check.ok k) (FnsOk.cons (body_Move.ok k) (FnsOk.cons (FnOk.frz rfl (body_Place.ok k)) (FnsOk.cons (body_Bounds.ok k) (FnsOk.cons (tourref2_SameBody.ok k) (FnsOk.cons (tourref2_Placed.ok k) (FnsOk.cons (slices_Equal.ok k) (FnsOk.cons (tourref2_Around.ok k) (FnsOk.cons (tourref2_Step.ok k) FnsOk.nil)))))))))))
noncomputable def tourlaw2_BodyChecks.c1p (a0 : V25) (a1 : Int) (y1 : Int) : SL := ⟨[(1, (.val T2 a1)), (2, (.val .ptr ⟨0, 0, (0 : Int), 0, 0⟩)), (5, (.val T2 y1))], [(0, .cells T25 a0)]⟩
noncomputable def tourlaw2_BodyChecks.c1q (a0 : V25) (a1 : Int) (y1 : Int) (o : Bool) : SL := (fun v => ⟨[(1, (.val T2 a1)), (2, (.val .ptr ⟨0, 0, (0 : Int), 0, 0⟩)), (5, (.val T2 y1)), (17, (.val T4 v))], [(0, .cells T25 a0)]⟩) o
noncomputable def tourlaw2_BodyChecks.c1x (o : Bool) : Ex := (fun _ => .normal) o
noncomputable def tourlaw2_BodyChecks.c1n (o : Bool) : Nat := (fun _ => 1) o
theorem tourlaw2_BodyChecks.c1_ok (k : Nat) (a0 : V25) (a1 : Int) (y1 : Int) : Owp (tourlaw2_BodyChecks.c1 k a0 y1) fun o => Triple PR (tourlaw2_BodyChecks.cx k) (sub tourlaw2_BodyChecks.code [1, 1, 0, 0]) 1 (tourlaw2_BodyChecks.c1p a0 a1 y1) (tourlaw2_BodyChecks.c1x o) (tourlaw2_BodyChecks.c1n o) (tourlaw2_BodyChecks.c1q a0 a1 y1 o) := by
  unfold tourlaw2_BodyChecks.c1; exact
   Owp.bnd fun y3 e4 =>
   Owp.bif (fun e5 =>
   Owp.bnd fun y6 e7 =>
    Owp.some (triple_way (tourlaw2_BodyChecks.cok k) hmix [.res (.one (.dp T4)) y3, .dec false, .dec false, .res (.one (.dp T2)) y6, .dec false, .dec false, .dec false] [] [(0, 0)] (via (finP (And.intro (And.intro (And.intro (And.intro (And.intro (And.intro trivial e4) (congrArg not e5)) (And.intro (congrArg not e5) e7)) (congrArg not e5)) (congrArg not e5)) (congrArg not e5)) .normal [(0, 0)] (tourlaw2_BodyChecks.c1q a0 a1 y1 (ine y6 y1))) (by kernel_rfl)))) (fun e5 =>
   Owp.some (triple_way (tourlaw2_BodyChecks.cok k) hmix [.res (.one (.dp T4)) y3, .dec true, .dec true, .dec true, .dec true, .dec true, .dec true] [] [(0, 0)] (via (finP (And.intro (And.intro (And.intro (And.intro (And.intro (And.intro trivial e4) (congrArg not e5)) (congrArg not e5)) (congrArg not e5)) (congrArg not e5)) (congrArg not e5)) .normal [(0, 0)] (tourlaw2_BodyChecks.c1q a0 a1 y1 true)) (by kernel_rfl))))
noncomputable def tourlaw2_BodyChecks.c2p (a0 : V25) (y11 : V25) (y13 : (List V22)) : SL := ⟨[(2, (.val .ptr ⟨0, 0, (0 : Int), 0, 0⟩)), (6, (.val .ptr ⟨1, 0, (0 : Int), 0, 0⟩)), (7, (.val T24 y13))], [(0, .cells T25 a0), (1, .cells T25 y11)]⟩
noncomputable def tourlaw2_BodyChecks.c2q (o : Bool) : SL := (fun v => ⟨[(4, (.val T4 v))], []⟩) o
noncomputable def tourlaw2_BodyChecks.c2x (o : Bool) : Ex := (fun _ => .normal) o
noncomputable def tourlaw2_BodyChecks.c2n (o : Bool) : Nat := (fun _ => 0) o
theorem tourlaw2_BodyChecks.c2_ok (k : Nat) (a0 : V25) (y11 : V25) (y13 : (List V22)) : Owp (tourlaw2_BodyChecks.c2 k a0 y11 y13) fun o => Triple PR (tourlaw2_BodyChecks.cx k) (sub tourlaw2_BodyChecks.code [1, 1, 1, 1, 0, 1, 0, 0]) 2 (tourlaw2_BodyChecks.c2p a0 y11 y13) (tourlaw2_BodyChecks.c2x o) (tourlaw2_BodyChecks.c2n o) (tourlaw2_BodyChecks.c2q o) := by
  unfold tourlaw2_BodyChecks.c2; exact
   Owp.bif (fun e16 =>
   Owp.bnd fun y17 e18 =>
    Owp.bif (fun e19 =>
    Owp.bnd fun y20 e21 =>
     Owp.some (triple_way (tourlaw2_BodyChecks.cok k) hmix [.dec true, .dec true, .res (.one (.dp (.pair T22 (.pair T22 .unit)))) y17, .dec true, .dec true, .dec true, .dec true, .dec true, .dec true, .res (.one (.dp T4)) y20, .dec true] [] [] (via (finP (And.intro (And.intro (And.intro (And.intro (And.intro (And.intro (And.intro (And.intro (And.intro trivial e16) (And.intro e16 e18)) e16) e16) e16) e19) e19) (And.intro e19 e21)) e19) .normal [] (tourlaw2_BodyChecks.c2q y20)) (by kernel_rfl)))) (fun e19 =>
    Owp.some (triple_way (tourlaw2_BodyChecks.cok k) hmix [.dec true, .dec true, .res (.one (.dp (.pair T22 (.pair T22 .unit)))) y17, .dec true, .dec true, .dec true, .dec false, .dec false, .dec false, .dec true, .dec false] [] [] (via (finP (And.intro (And.intro (And.intro (And.intro (And.intro (And.intro (And.intro (And.intro (And.intro trivial e16) (And.intro e16 e18)) e16) e16) e16) e19) e19) e19) e19) .normal [] (tourlaw2_BodyChecks.c2q false)) (by kernel_rfl))))) (fun e16 =>
   Owp.some (triple_way (tourlaw2_BodyChecks.cok k) hmix [.dec false, .dec false, .dec true, .dec false, .dec false, .dec false, .dec false, .dec false, .dec false, .dec true, .dec false] [] [] (via (finP (And.intro (And.intro (And.intro (And.intro (And.intro (And.intro (And.intro (And.intro (And.intro trivial e16) e16) e16) e16) e16) ff) ff) ff) ff) .normal [] (tourlaw2_BodyChecks.c2q false)) (by kernel_rfl))))
noncomputable def tourlaw2_BodyChecks.c3p (a0 : V25) (a1 : Int) (y11 : V25) (y13 : (List V22)) : SL := ⟨[(1, (.val T2 a1)), (2, (.val .ptr ⟨0, 0, (0 : Int), 0, 0⟩)), (6, (.val .ptr ⟨1, 0, (0 : Int), 0, 0⟩)), (7, (.val T24 y13))], [(0, .cells T25 a0), (1, .cells T25 y11)]⟩
noncomputable def tourlaw2_BodyChecks.c3q (a0 : V25) (a1 : Int) (y11 : V25) (o : Bool) : SL := (fun v => ⟨[(1, (.val T2 a1)), (2, (.val .ptr ⟨0, 0, (0 : Int), 0, 0⟩)), (6, (.val .ptr ⟨1, 0, (0 : Int), 0, 0⟩)), (51, (.val T4 v))], [(0, .cells T25 a0), (1, .cells T25 y11)]⟩) o
noncomputable def tourlaw2_BodyChecks.c3x (o : Bool) : Ex := (fun _ => .normal) o
noncomputable def tourlaw2_BodyChecks.c3n (o : Bool) : Nat := (fun _ => 2) o
theorem tourlaw2_BodyChecks.c3_ok (k : Nat) (a0 : V25) (a1 : Int) (y11 : V25) (y13 : (List V22)) : Owp (tourlaw2_BodyChecks.c3 k a0 y13) fun o => Triple PR (tourlaw2_BodyChecks.cx k) (sub tourlaw2_BodyChecks.code [1, 1, 1, 1, 1, 0, 0]) 2 (tourlaw2_BodyChecks.c3p a0 a1 y11 y13) (tourlaw2_BodyChecks.c3x o) (tourlaw2_BodyChecks.c3n o) (tourlaw2_BodyChecks.c3q a0 a1 y11 o) := by
  unfold tourlaw2_BodyChecks.c3; exact
   Owp.bnd fun y24 e25 =>
   Owp.bnd fun y26 e27 =>
   Owp.bif (fun e28 =>
   Owp.bnd fun y29 e30 =>
    Owp.bnd fun y31 e32 =>
    Owp.bnd fun y33 e34 =>
    Owp.some (triple_way (tourlaw2_BodyChecks.cok k) hmix [.res (.one (.ow T22 23)) y24, .res (.one (.dp T4)) y26, .dec false, .dec false, .res (.one (.dp (.pair T22 (.pair T22 .unit)))) y29, .dec false, .dec false, .res (.one (.ow T22 23)) y31, .dec false, .res (.one (.dp (.pair T22 (.pair T22 .unit)))) y33, .dec false, .dec false] [] [(0, 0), (1, 1)] (via (finP (And.intro (And.intro (And.intro (And.intro (And.intro (And.intro (And.intro (And.intro (And.intro trivial e25) e27) (congrArg not e28)) (And.intro (congrArg not e28) e30)) (congrArg not e28)) (And.intro (congrArg not e28) e32)) (And.intro (congrArg not e28) e34)) (congrArg not e28)) (congrArg not e28)) .normal [(0, 0), (1, 1)] (tourlaw2_BodyChecks.c3q a0 a1 y11 (!(Ty.eqb (.pair T22 (.pair T22 .unit)) y29 y33)))) (by kernel_rfl)))) (fun e28 =>
   Owp.some (triple_way (tourlaw2_BodyChecks.cok k) hmix [.res (.one (.ow T22 23)) y24, .res (.one (.dp T4)) y26, .dec true, .dec true, .dec true, .dec true, .dec true, .dec true, .dec true, .dec true, .dec true, .dec true] [] [(0, 0), (1, 1)] (via (finP (And.intro (And.intro (And.intro (And.intro (And.intro (And.intro (And.intro (And.intro (And.intro trivial e25) e27) (congrArg not e28)) (congrArg not e28)) (congrArg not e28)) (congrArg not e28)) (congrArg not e28)) (congrArg not e28)) (congrArg not e28)) .normal [(0, 0), (1, 1)] (tourlaw2_BodyChecks.c3q a0 a1 y11 true)) (by kernel_rfl))))
noncomputable def tourlaw2_BodyChecks.c4p (a0 : V25) (a1 : Int) (y11 : V25) : SL := ⟨[(1, (.val T2 a1)), (2, (.val .ptr ⟨0, 0, (0 : Int), 0, 0⟩)), (6, (.val .ptr ⟨1, 0, (0 : Int), 0, 0⟩))], [(0, .cells T25 a0), (1, .cells T25 y11)]⟩
noncomputable def tourlaw2_BodyChecks.c4q (a0 : V25) (a1 : Int) (y11 : V25) (o : Bool) : SL := (fun v => ⟨[(1, (.val T2 a1)), (2, (.val .ptr ⟨0, 0, (0 : Int), 0, 0⟩)), (6, (.val .ptr ⟨1, 0, (0 : Int), 0, 0⟩)), (57, (.val T4 v))], [(0, .cells T25 a0), (1, .cells T25 y11)]⟩) o
noncomputable def tourlaw2_BodyChecks.c4x (o : Bool) : Ex := (fun _ => .normal) o
noncomputable def tourlaw2_BodyChecks.c4n (o : Bool) : Nat := (fun _ => 2) o
theorem tourlaw2_BodyChecks.c4_ok (k : Nat) (a0 : V25) (a1 : Int) (y11 : V25) : Owp (tourlaw2_BodyChecks.c4 k a1) fun o => Triple PR (tourlaw2_BodyChecks.cx k) (sub tourlaw2_BodyChecks.code [1, 1, 1, 1, 1, 1, 0, 0]) 2 (tourlaw2_BodyChecks.c4p a0 a1 y11) (tourlaw2_BodyChecks.c4x o) (tourlaw2_BodyChecks.c4n o) (tourlaw2_BodyChecks.c4q a0 a1 y11 o) := by
  unfold tourlaw2_BodyChecks.c4; exact
   Owp.bif (fun e38 =>
   Owp.some (triple_way (tourlaw2_BodyChecks.cok k) hmix [.dec true, .dec true, .dec true] [] [(0, 0), (1, 1)] (via (finP (And.intro (And.intro (And.intro trivial e38) e38) e38) .normal [(0, 0), (1, 1)] (tourlaw2_BodyChecks.c4q a0 a1 y11 true)) (by kernel_rfl)))) (fun e38 =>
   Owp.some (triple_way (tourlaw2_BodyChecks.cok k) hmix [.dec false, .dec false, .dec false] [] [(0, 0), (1, 1)] (via (finP (And.intro (And.intro (And.intro trivial e38) e38) e38) .normal [(0, 0), (1, 1)] (tourlaw2_BodyChecks.c4q a0 a1 y11 (igt a1 (65536 : Int)))) (by kernel_rfl))))
theorem tourlaw2_BodyChecks.way (k : Nat) (a0 : V25) (a1 : Int) : Owp (tourlaw2_BodyChecks k a0 a1) fun y => ∃ answers cmds, exec PR (tourlaw2_BodyChecks.cx k) tourlaw2_BodyChecks.code 0 (entry (.pair T25 (.pair T2 .unit)) (a0, a1, ())).st answers (Ret (tourlaw2_BodyChecks.cx k) Try.f6 cmds (.one (.dp T4)) y) := by
  unfold tourlaw2_BodyChecks; exact
   Owp.bnd fun y1 e2 =>
   Owp.bnd fun o8 e9 =>
   Owp.bif (fun e10 =>
   Owp.some (⟨[.res (.one (.dp T2)) y1, .cutR 2 ⟨[], [(0, 0)], (tourlaw2_BodyChecks.c1p a0 a1 y1), 1, .normal, (tourlaw2_BodyChecks.c1q a0 a1 y1 o8), 1⟩, .dec true], [], via (cutP (And.intro trivial e2) [(0, 0)] (tourlaw2_BodyChecks.c1p a0 a1 y1) (((tourlaw2_BodyChecks.c1_ok k a0 a1 y1).ap e9)) (retP (And.intro trivial e10) (.one (.dp T4)) (false : Bool))) (by kernel_rfl)⟩)) (fun e10 =>
   Owp.bnd fun y11 e12 =>
    Owp.bnd fun y13 e14 =>
    Owp.bif (fun e15 =>
    Owp.bnd fun o22 e23 =>
     Owp.some (⟨[.res (.one (.dp T2)) y1, .cutR 2 ⟨[], [(0, 0)], (tourlaw2_BodyChecks.c1p a0 a1 y1), 1, .normal, (tourlaw2_BodyChecks.c1q a0 a1 y1 o8), 1⟩, .dec false, .res (.one (.dp T25)) y11, .res (.one (.dp T24)) y13, .dec true, .cutR 6 ⟨[], [(0, 0), (1, 6)], (tourlaw2_BodyChecks.c2p a0 y11 y13), 2, .normal, (tourlaw2_BodyChecks.c2q o22), 0⟩], [], via (cutP (And.intro trivial e2) [(0, 0)] (tourlaw2_BodyChecks.c1p a0 a1 y1) (((tourlaw2_BodyChecks.c1_ok k a0 a1 y1).ap e9)) (cutP (And.intro (And.intro (And.intro (And.intro trivial e10) e12) e14) e15) [(0, 0), (1, 6)] (tourlaw2_BodyChecks.c2p a0 y11 y13) (((tourlaw2_BodyChecks.c2_ok k a0 y11 y13).ap e23)) (retP trivial (.one (.dp T4)) (o22 : Bool)))) (by kernel_rfl)⟩)) (fun e15 =>
    Owp.bnd fun o35 e36 =>
     Owp.bif (fun e37 =>
     Owp.some (⟨[.res (.one (.dp T2)) y1, .cutR 2 ⟨[], [(0, 0)], (tourlaw2_BodyChecks.c1p a0 a1 y1), 1, .normal, (tourlaw2_BodyChecks.c1q a0 a1 y1 o8), 1⟩, .dec false, .res (.one (.dp T25)) y11, .res (.one (.dp T24)) y13, .dec false, .cutR 7 ⟨[], [(0, 0), (1, 6)], (tourlaw2_BodyChecks.c3p a0 a1 y11 y13), 2, .normal, (tourlaw2_BodyChecks.c3q a0 a1 y11 o35), 2⟩, .dec true], [], via (cutP (And.intro trivial e2) [(0, 0)] (tourlaw2_BodyChecks.c1p a0 a1 y1) (((tourlaw2_BodyChecks.c1_ok k a0 a1 y1).ap e9)) (cutP (And.intro (And.intro (And.intro (And.intro trivial e10) e12) e14) e15) [(0, 0), (1, 6)] (tourlaw2_BodyChecks.c3p a0 a1 y11 y13) (((tourlaw2_BodyChecks.c3_ok k a0 a1 y11 y13).ap e36)) (retP (And.intro trivial e37) (.one (.dp T4)) (false : Bool)))) (by kernel_rfl)⟩)) (fun e37 =>
     Owp.bnd fun o39 e40 =>
      Owp.bif (fun e41 =>
      Owp.bnd fun y42 e43 =>
       Owp.some (⟨[.res (.one (.dp T2)) y1, .cutR 2 ⟨[], [(0, 0)], (tourlaw2_BodyChecks.c1p a0 a1 y1), 1, .normal, (tourlaw2_BodyChecks.c1q a0 a1 y1 o8), 1⟩, .dec false, .res (.one (.dp T25)) y11, .res (.one (.dp T24)) y13, .dec false, .cutR 7 ⟨[], [(0, 0), (1, 6)], (tourlaw2_BodyChecks.c3p a0 a1 y11 y13), 2, .normal, (tourlaw2_BodyChecks.c3q a0 a1 y11 o35), 2⟩, .dec false, .cutR 9 ⟨[], [(0, 0), (1, 1)], (tourlaw2_BodyChecks.c4p a0 a1 y11), 2, .normal, (tourlaw2_BodyChecks.c4q a0 a1 y11 o39), 2⟩, .dec true, .res (.one (.dp T4)) y42], [], via (cutP (And.intro trivial e2) [(0, 0)] (tourlaw2_BodyChecks.c1p a0 a1 y1) (((tourlaw2_BodyChecks.c1_ok k a0 a1 y1).ap e9)) (cutP (And.intro (And.intro (And.intro (And.intro trivial e10) e12) e14) e15) [(0, 0), (1, 6)] (tourlaw2_BodyChecks.c3p a0 a1 y11 y13) (((tourlaw2_BodyChecks.c3_ok k a0 a1 y11 y13).ap e36)) (cutP (And.intro trivial e37) [(0, 0), (1, 1)] (tourlaw2_BodyChecks.c4p a0 a1 y11) (((tourlaw2_BodyChecks.c4_ok k a0 a1 y11).ap e40)) (retP (And.intro (And.intro trivial e41) e43) (.one (.dp T4)) (y42 : Bool))))) (by kernel_rfl)⟩)) (fun e41 =>
      Owp.bnd fun y44 e45 =>
       Owp.bnd fun y46 e47 =>
       Owp.some (⟨[.res (.one (.dp T2)) y1, .cutR 2 ⟨[], [(0, 0)], (tourlaw2_BodyChecks.c1p a0 a1 y1), 1, .normal, (tourlaw2_BodyChecks.c1q a0 a1 y1 o8), 1⟩, .dec false, .res (.one (.dp T25)) y11, .res (.one (.dp T24)) y13, .dec false, .cutR 7 ⟨[], [(0, 0), (1, 6)], (tourlaw2_BodyChecks.c3p a0 a1 y11 y13), 2, .normal, (tourlaw2_BodyChecks.c3q a0 a1 y11 o35), 2⟩, .dec false, .cutR 9 ⟨[], [(0, 0), (1, 1)], (tourlaw2_BodyChecks.c4p a0 a1 y11), 2, .normal, (tourlaw2_BodyChecks.c4q a0 a1 y11 o39), 2⟩, .dec false, .res (.one (.dp T25)) y44, .res (.one (.dp T4)) y46], [], via (cutP (And.intro trivial e2) [(0, 0)] (tourlaw2_BodyChecks.c1p a0 a1 y1) (((tourlaw2_BodyChecks.c1_ok k a0 a1 y1).ap e9)) (cutP (And.intro (And.intro (And.intro (And.intro trivial e10) e12) e14) e15) [(0, 0), (1, 6)] (tourlaw2_BodyChecks.c3p a0 a1 y11 y13) (((tourlaw2_BodyChecks.c3_ok k a0 a1 y11 y13).ap e36)) (cutP (And.intro trivial e37) [(0, 0), (1, 1)] (tourlaw2_BodyChecks.c4p a0 a1 y11) (((tourlaw2_BodyChecks.c4_ok k a0 a1 y11).ap e40)) (retP (And.intro (And.intro (And.intro trivial e41) e45) e47) (.one (.dp T4)) (y46 : Bool))))) (by kernel_rfl)⟩)))))
theorem tourlaw2_BodyChecks.ok (k : Nat) : FnOk PR 6 (tourlaw2_BodyChecks.sp k) :=
  fn_ok (tourlaw2_BodyChecks.cok k) hmix Try.func6 (code := tourlaw2_BodyChecks.code) (by kernel_rfl) (by kernel_rfl) (by kernel_rfl) rfl (by kernel_rfl) (by kernel_rfl) (by kernel_rfl) (fun x => Nat.le_of_ble_eq_true (by kernel_rfl)) fun x y hy => (tourlaw2_BodyChecks.way k x.1 x.2.1).ap hy

end Go.Proofs.T1
