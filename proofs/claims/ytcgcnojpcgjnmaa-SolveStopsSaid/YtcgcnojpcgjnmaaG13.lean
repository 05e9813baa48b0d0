import Derived.Test.YtcgcnojpcgjnmaaG0
import Derived.Test.YtcgcnojpcgjnmaaG3
import Derived.Test.YtcgcnojpcgjnmaaG4
import Derived.Test.YtcgcnojpcgjnmaaG8
import Derived.Test.YtcgcnojpcgjnmaaG9
import Derived.Test.YtcgcnojpcgjnmaaG11
import Derived.Test.YtcgcnojpcgjnmaaG12
namespace Go.Proofs.T1
open Go Go.Sx Go.Proofs
set_option maxRecDepth 100000
set_option linter.unusedVariables false
/-! tourney/tourkeep2.block -/
noncomputable def tourkeep2_block.code : Code := Func.cd Try.f56
def tourkeep2_block (k : Nat) (a0 : Int) (a1 : Int) (a2 : Int) (a3 : Bool) : Option V25 :=
  bnd (tourkeep2_square k 0 0 a2) fun y1 =>
  bif' a3
  (some (((imul .i64 a0 65536), (imul .i64 a1 65536), ()), (0, 0, ()), 0, 0, 65536, 65536, 0, 0, y1, false, 0, ()))
  (some (((imul .i64 a0 65536), (imul .i64 a1 65536), ()), (0, 0, ()), 0, 0, 0, 0, 0, 0, y1, false, 0, ()))
noncomputable def tourkeep2_block.sp (k : Nat) : Go.Sx.Spec := ⟨(.pair T2 (.pair T2 (.pair T2 (.pair T4 .unit)))), (.one (.dp T25)), fun x => tourkeep2_block k x.1 x.2.1 x.2.2.1 x.2.2.2.1, false⟩
noncomputable def tourkeep2_block.cx (k : Nat) : Go.Sx.Ctx := ⟨tys, [(107, (tourkeep2_square.sp k).frz)], eqs, 22, 0, [], false⟩
theorem tourkeep2_block.cok (k : Nat) : CtxOk PR (tourkeep2_block.cx k) := ctx_ok tysOk eqsOk (FnsOk.cons (FnOk.frz rfl (tourkeep2_square.ok k)) FnsOk.nil) HsOk.nil
theorem tourkeep2_block.way (k : Nat) (a0 : Int) (a1 : Int) (a2 : Int) (a3 : Bool) : Owp (tourkeep2_block k a0 a1 a2 a3) fun y => ∃ answers cmds, exec PR (tourkeep2_block.cx k) tourkeep2_block.code 0 (entry (.pair T2 (.pair T2 (.pair T2 (.pair T4 .unit)))) (a0, a1, a2, a3, ())).st answers (Ret (tourkeep2_block.cx k) Try.f56 cmds (.one (.dp T25)) y) := by
  unfold tourkeep2_block; exact
   Owp.bnd fun y1 e2 =>
   Owp.bif (fun e3 =>
   Owp.some (⟨[.res (.one (.dp T24)) y1, .dec true], [], via (retP (And.intro (And.intro trivial e2) e3) (.one (.dp T25)) ((((imul .i64 a0 (65536 : Int)), (imul .i64 a1 (65536 : Int)), ()), ((0 : Int), (0 : Int), ()), (0 : Int), (0 : Int), (65536 : Int), (65536 : Int), (0 : Int), (0 : Int), y1, false, (0 : Int), ()) : V25)) (by kernel_rfl)⟩)) (fun e3 =>
   Owp.some (⟨[.res (.one (.dp T24)) y1, .dec false], [], via (retP (And.intro (And.intro trivial e2) e3) (.one (.dp T25)) ((((imul .i64 a0 (65536 : Int)), (imul .i64 a1 (65536 : Int)), ()), ((0 : Int), (0 : Int), ()), (0 : Int), (0 : Int), (0 : Int), (0 : Int), (0 : Int), (0 : Int), y1, false, (0 : Int), ()) : V25)) (by kernel_rfl)⟩))
theorem tourkeep2_block.ok (k : Nat) : FnOk PR 56 (tourkeep2_block.sp k) :=
  fn_ok (tourkeep2_block.cok k) hmix Try.func56 (code := tourkeep2_block.code) (by kernel_rfl) (by kernel_rfl) (by kernel_rfl) rfl rfl (by kernel_rfl) (by kernel_rfl) (by kernel_rfl) (fun x => Nat.le_of_ble_eq_true (by kernel_rfl)) fun x y hy => (tourkeep2_block.way k x.1 x.2.1 x.2.2.1 x.2.2.2.1).ap hy

/-! tourney/tourkeep2.solves -/
noncomputable def tourkeep2_solves.code : Code := Func.cd Try.f59
def tourkeep2_solves (k : Nat) : Option Bool :=
  bnd (tourkeep2_block k 0 0 1 false) fun y1 =>
  bnd (tourkeep2_block k 0 2 1 true) fun y3 =>
  req (inL 1 [y1, y3]) <|
  bnd (solve_Run_h k [(0, 1, 0, (0, 65536, ()), (0, 65536, ()), 0, 0, 0, ())] 8192 1 (st [y1, y3] 1 ((el Z25 [y1, y3] 1).1, ((el Z25 [y1, y3] 1).2.1.1, (-131072), ()), (el Z25 [y1, y3] 1).2.2))) fun y6 =>
  bif' (ieq y6.2.2 0)
  (bif' (ieq (len y6.1) 2)
   (bif' (ieq (len y6.2.1) 1)
    (req (inL 0 y6.2.1) <|
     bif' (ieq (el Z78 y6.2.1 0).2.2.2.2.2.2.1 131072)
     (req (inL 1 y6.1) <|
      some (ieq (el Z25 y6.1 1).2.1.2.1 0))
     (some false))
    (some false))
   (some false))
  (some false)
noncomputable def tourkeep2_solves.sp (k : Nat) : Go.Sx.Spec := ⟨.unit, (.one (.dp T4)), fun x => tourkeep2_solves k, false⟩
noncomputable def tourkeep2_solves.cx (k : Nat) : Go.Sx.Ctx := ⟨tys, [(56, tourkeep2_block.sp k)], eqs, 49, 0, [(58, solve_Run_h.h k)], false⟩
theorem tourkeep2_solves.cok (k : Nat) : CtxOk PR (tourkeep2_solves.cx k) := ctx_ok tysOk eqsOk (FnsOk.cons (tourkeep2_block.ok k) FnsOk.nil) (HsOk.cons (solve_Run_h.ok k) HsOk.nil)
theorem tourkeep2_solves.way (k : Nat) : Owp (tourkeep2_solves k) fun y => ∃ answers cmds, exec PR (tourkeep2_solves.cx k) tourkeep2_solves.code 0 (entry .unit ()).st answers (Ret (tourkeep2_solves.cx k) Try.f59 cmds (.one (.dp T4)) y) := by
  unfold tourkeep2_solves; exact
   Owp.bnd fun y1 e2 =>
   Owp.bnd fun y3 e4 =>
   Owp.req fun h5 =>
   Owp.bnd fun y6 e7 =>
   Owp.bif (fun e8 =>
   Owp.bif (fun e9 =>
    Owp.bif (fun e10 =>
     Owp.req fun h11 =>
      Owp.bif (fun e12 =>
      Owp.req fun h13 =>
       Owp.some (⟨[.res (.one (.dp T25)) y1, .res (.one (.dp T25)) y3, .dec true, .dec false, .hres [(0, 3)] (.pair (.slice T78) (.pair T2 (.pair T2 (.pair (.slice T25) .unit)))) ([((0 : Int), (1 : Int), (0 : Int), ((0 : Int), (65536 : Int), ()), ((0 : Int), (65536 : Int), ()), (0 : Int), (0 : Int), (0 : Int), ())], (8192 : Int), (1 : Int), (st [y1, y3] (1 : Int) ((el Z25 [y1, y3] (1 : Int)).1, ((el Z25 [y1, y3] (1 : Int)).2.1.1, (-131072 : Int), ()), (el Z25 [y1, y3] (1 : Int)).2.2)), ()) (.pair (.slice T25) (.pair (.slice T78) T2)) y6, .dec true, .dec true, .dec true, .dec true, .dec true, .dec true, .dec true, .dec true, .dec true, .dec true, .dec true, .dec true, .dec true, .dec true, .dec true, .dec true, .dec true, .dec true, .dec true, .dec true, .dec true], [], via (retP (And.intro (And.intro (And.intro (And.intro (And.intro (And.intro (And.intro (And.intro (And.intro (And.intro (And.intro (And.intro (And.intro (And.intro (And.intro (And.intro (And.intro (And.intro (And.intro (And.intro (And.intro (And.intro (And.intro (And.intro (And.intro (And.intro trivial e2) e4) h5) h5) (callHP (solve_Run_h.h k) [(0, 3)] ([((0 : Int), (1 : Int), (0 : Int), ((0 : Int), (65536 : Int), ()), ((0 : Int), (65536 : Int), ()), (0 : Int), (0 : Int), (0 : Int), ())], (8192 : Int), (1 : Int), (st [y1, y3] (1 : Int) ((el Z25 [y1, y3] (1 : Int)).1, ((el Z25 [y1, y3] (1 : Int)).2.1.1, (-131072 : Int), ()), (el Z25 [y1, y3] (1 : Int)).2.2)), ()) e7)) e8) e8) e8) e8) e9) e9) e9) e9) e10) (And.intro e10 h11)) e10) e10) e10) e10) e12) (And.intro e12 h13)) e12) e12) e12) e12) e12) (.one (.dp T4)) ((ieq (el Z25 y6.1 (1 : Int)).2.1.2.1 (0 : Int)) : Bool)) (by kernel_rfl)⟩)) (fun e12 =>
      Owp.some (⟨[.res (.one (.dp T25)) y1, .res (.one (.dp T25)) y3, .dec true, .dec false, .hres [(0, 3)] (.pair (.slice T78) (.pair T2 (.pair T2 (.pair (.slice T25) .unit)))) ([((0 : Int), (1 : Int), (0 : Int), ((0 : Int), (65536 : Int), ()), ((0 : Int), (65536 : Int), ()), (0 : Int), (0 : Int), (0 : Int), ())], (8192 : Int), (1 : Int), (st [y1, y3] (1 : Int) ((el Z25 [y1, y3] (1 : Int)).1, ((el Z25 [y1, y3] (1 : Int)).2.1.1, (-131072 : Int), ()), (el Z25 [y1, y3] (1 : Int)).2.2)), ()) (.pair (.slice T25) (.pair (.slice T78) T2)) y6, .dec true, .dec true, .dec true, .dec true, .dec true, .dec true, .dec true, .dec true, .dec true, .dec true, .dec true, .dec true, .dec true, .dec true, .dec false, .dec false, .dec false, .dec false, .dec false, .dec false, .dec false], [], via (retP (And.intro (And.intro (And.intro (And.intro (And.intro (And.intro (And.intro (And.intro (And.intro (And.intro (And.intro (And.intro (And.intro (And.intro (And.intro (And.intro (And.intro (And.intro (And.intro (And.intro (And.intro (And.intro (And.intro (And.intro (And.intro (And.intro trivial e2) e4) h5) h5) (callHP (solve_Run_h.h k) [(0, 3)] ([((0 : Int), (1 : Int), (0 : Int), ((0 : Int), (65536 : Int), ()), ((0 : Int), (65536 : Int), ()), (0 : Int), (0 : Int), (0 : Int), ())], (8192 : Int), (1 : Int), (st [y1, y3] (1 : Int) ((el Z25 [y1, y3] (1 : Int)).1, ((el Z25 [y1, y3] (1 : Int)).2.1.1, (-131072 : Int), ()), (el Z25 [y1, y3] (1 : Int)).2.2)), ()) e7)) e8) e8) e8) e8) e9) e9) e9) e9) e10) (And.intro e10 h11)) e10) e10) e10) e10) e12) e12) e12) e12) e12) e12) e12) (.one (.dp T4)) (false : Bool)) (by kernel_rfl)⟩))) (fun e10 =>
     Owp.some (⟨[.res (.one (.dp T25)) y1, .res (.one (.dp T25)) y3, .dec true, .dec false, .hres [(0, 3)] (.pair (.slice T78) (.pair T2 (.pair T2 (.pair (.slice T25) .unit)))) ([((0 : Int), (1 : Int), (0 : Int), ((0 : Int), (65536 : Int), ()), ((0 : Int), (65536 : Int), ()), (0 : Int), (0 : Int), (0 : Int), ())], (8192 : Int), (1 : Int), (st [y1, y3] (1 : Int) ((el Z25 [y1, y3] (1 : Int)).1, ((el Z25 [y1, y3] (1 : Int)).2.1.1, (-131072 : Int), ()), (el Z25 [y1, y3] (1 : Int)).2.2)), ()) (.pair (.slice T25) (.pair (.slice T78) T2)) y6, .dec true, .dec true, .dec true, .dec true, .dec true, .dec true, .dec true, .dec true, .dec false, .dec false, .dec false, .dec false, .dec false, .dec false, .dec false, .dec false, .dec false, .dec false, .dec false, .dec false, .dec false], [], via (retP (And.intro (And.intro (And.intro (And.intro (And.intro (And.intro (And.intro (And.intro (And.intro (And.intro (And.intro (And.intro (And.intro (And.intro (And.intro (And.intro (And.intro (And.intro (And.intro (And.intro (And.intro (And.intro (And.intro (And.intro (And.intro (And.intro trivial e2) e4) h5) h5) (callHP (solve_Run_h.h k) [(0, 3)] ([((0 : Int), (1 : Int), (0 : Int), ((0 : Int), (65536 : Int), ()), ((0 : Int), (65536 : Int), ()), (0 : Int), (0 : Int), (0 : Int), ())], (8192 : Int), (1 : Int), (st [y1, y3] (1 : Int) ((el Z25 [y1, y3] (1 : Int)).1, ((el Z25 [y1, y3] (1 : Int)).2.1.1, (-131072 : Int), ()), (el Z25 [y1, y3] (1 : Int)).2.2)), ()) e7)) e8) e8) e8) e8) e9) e9) e9) e9) e10) e10) e10) e10) e10) e10) ff) ff) ff) ff) ff) ff) ff) (.one (.dp T4)) (false : Bool)) (by kernel_rfl)⟩))) (fun e9 =>
    Owp.some (⟨[.res (.one (.dp T25)) y1, .res (.one (.dp T25)) y3, .dec true, .dec false, .hres [(0, 3)] (.pair (.slice T78) (.pair T2 (.pair T2 (.pair (.slice T25) .unit)))) ([((0 : Int), (1 : Int), (0 : Int), ((0 : Int), (65536 : Int), ()), ((0 : Int), (65536 : Int), ()), (0 : Int), (0 : Int), (0 : Int), ())], (8192 : Int), (1 : Int), (st [y1, y3] (1 : Int) ((el Z25 [y1, y3] (1 : Int)).1, ((el Z25 [y1, y3] (1 : Int)).2.1.1, (-131072 : Int), ()), (el Z25 [y1, y3] (1 : Int)).2.2)), ()) (.pair (.slice T25) (.pair (.slice T78) T2)) y6, .dec true, .dec true, .dec true, .dec true, .dec false, .dec false, .dec false, .dec false, .dec false, .dec false, .dec false, .dec false, .dec false, .dec false, .dec false, .dec false, .dec false, .dec false, .dec false, .dec false, .dec false], [], via (retP (And.intro (And.intro (And.intro (And.intro (And.intro (And.intro (And.intro (And.intro (And.intro (And.intro (And.intro (And.intro (And.intro (And.intro (And.intro (And.intro (And.intro (And.intro (And.intro (And.intro (And.intro (And.intro (And.intro (And.intro (And.intro (And.intro trivial e2) e4) h5) h5) (callHP (solve_Run_h.h k) [(0, 3)] ([((0 : Int), (1 : Int), (0 : Int), ((0 : Int), (65536 : Int), ()), ((0 : Int), (65536 : Int), ()), (0 : Int), (0 : Int), (0 : Int), ())], (8192 : Int), (1 : Int), (st [y1, y3] (1 : Int) ((el Z25 [y1, y3] (1 : Int)).1, ((el Z25 [y1, y3] (1 : Int)).2.1.1, (-131072 : Int), ()), (el Z25 [y1, y3] (1 : Int)).2.2)), ()) e7)) e8) e8) e8) e8) e9) e9) e9) e9) ff) ff) ff) ff) ff) ff) ff) ff) ff) ff) ff) ff) ff) (.one (.dp T4)) (false : Bool)) (by kernel_rfl)⟩))) (fun e8 =>
   Owp.some (⟨[.res (.one (.dp T25)) y1, .res (.one (.dp T25)) y3, .dec true, .dec false, .hres [(0, 3)] (.pair (.slice T78) (.pair T2 (.pair T2 (.pair (.slice T25) .unit)))) ([((0 : Int), (1 : Int), (0 : Int), ((0 : Int), (65536 : Int), ()), ((0 : Int), (65536 : Int), ()), (0 : Int), (0 : Int), (0 : Int), ())], (8192 : Int), (1 : Int), (st [y1, y3] (1 : Int) ((el Z25 [y1, y3] (1 : Int)).1, ((el Z25 [y1, y3] (1 : Int)).2.1.1, (-131072 : Int), ()), (el Z25 [y1, y3] (1 : Int)).2.2)), ()) (.pair (.slice T25) (.pair (.slice T78) T2)) y6, .dec false, .dec false, .dec false, .dec false, .dec false, .dec false, .dec false, .dec false, .dec false, .dec false, .dec false, .dec false, .dec false, .dec false, .dec false, .dec false, .dec false, .dec false, .dec false, .dec false, .dec false], [], via (retP (And.intro (And.intro (And.intro (And.intro (And.intro (And.intro (And.intro (And.intro (And.intro (And.intro (And.intro (And.intro (And.intro (And.intro (And.intro (And.intro (And.intro (And.intro (And.intro (And.intro (And.intro (And.intro (And.intro (And.intro (And.intro (And.intro trivial e2) e4) h5) h5) (callHP (solve_Run_h.h k) [(0, 3)] ([((0 : Int), (1 : Int), (0 : Int), ((0 : Int), (65536 : Int), ()), ((0 : Int), (65536 : Int), ()), (0 : Int), (0 : Int), (0 : Int), ())], (8192 : Int), (1 : Int), (st [y1, y3] (1 : Int) ((el Z25 [y1, y3] (1 : Int)).1, ((el Z25 [y1, y3] (1 : Int)).2.1.1, (-131072 : Int), ()), (el Z25 [y1, y3] (1 : Int)).2.2)), ()) e7)) e8) e8) e8) e8) ff) ff) ff) ff) ff) ff) ff) ff) ff) ff) ff) ff) ff) ff) ff) ff) ff) (.one (.dp T4)) (false : Bool)) (by kernel_rfl)⟩))
theorem tourkeep2_solves.ok (k : Nat) : FnOk PR 59 (tourkeep2_solves.sp k) :=
  fn_ok (tourkeep2_solves.cok k) hmix Try.func59 (code := tourkeep2_solves.code) (by kernel_rfl) (by kernel_rfl) (by kernel_rfl) rfl rfl (by kernel_rfl) (by kernel_rfl) (by kernel_rfl) (fun x => Nat.le_of_ble_eq_true (by kernel_rfl)) fun x y hy => (tourkeep2_solves.way k).ap hy

/-! tourney/tourkeep2.SolveStops -/
noncomputable def tourkeep2_SolveStops.code : Code := Func.cd Try.f8
def tourkeep2_SolveStops.c1 (k : Nat) (y9 : ((List V25) × ((List V78) × Int))) : Option (Bool) :=
  bnd (tourkeep2_solves k) fun y11 =>
  bif' y11
  (bif' (ine y9.2.2 0)
   (some true)
   (bif' (ine (len y9.1) 2)
    (some true)
    (some (ine (len y9.2.1) 1))))
  (some true)
def tourkeep2_SolveStops (k : Nat) (a0 : (List Int)) (a1 : Int) (a2 : Int) : Option Bool :=
  bnd (tourmake_Body k a0) fun y1 =>
  bnd (tourkeep2_block k 0 (-20) 1 false) fun y3 =>
  bnd (tourmake_Below k a1 262144) fun y5 =>
  bnd (tourmake_Below k a2 131072) fun y7 =>
  bnd (solve_Run k [y3, ((0, 0, ()), y1.2.1, y1.2.2.1, y1.2.2.2.1, y1.2.2.2.2.1, y1.2.2.2.2.2.1, 0, 0, y1.2.2.2.2.2.2.2.2)] [(0, 1, 0, ((isub .i64 y5 131072), (isub .i64 y7 131072), ()), (0, 65536, ()), 0, 0, 0, ())] 4096 1) fun y9 =>
  bnd (tourkeep2_SolveStops.c1 k y9) fun o16 =>
  bif' o16
  (some false)
  (bif' (ieq y1.2.2.2.2.1 0)
   (some true)
   (req (inL 1 y9.1) <|
    bnd (body_At k (el Z25 y9.1 1) ((isub .i64 y5 131072), (isub .i64 y7 131072), ())) fun y21 =>
    some (ige y21.2.1 (-512))))
noncomputable def tourkeep2_SolveStops.sp (k : Nat) : Go.Sx.Spec := ⟨(.pair T49 T22), (.one (.dp T4)), fun x => tourkeep2_SolveStops k x.1 x.2.1 x.2.2.1, false⟩
noncomputable def tourkeep2_SolveStops.cx (k : Nat) : Go.Sx.Ctx := ⟨tys, [(35, tourmake_Body.sp k), (56, tourkeep2_block.sp k), (57, tourmake_Below.sp k), (58, solve_Run.sp k), (59, tourkeep2_solves.sp k), (19, body_At.sp k)], eqs, 67, 0, [], false⟩
theorem tourkeep2_SolveStops.cok (k : Nat) : CtxOk PR (tourkeep2_SolveStops.cx k) := ctx_ok tysOk eqsOk (FnsOk.cons (tourmake_Body.ok k) (FnsOk.cons (tourkeep2_block.ok k) (FnsOk.cons (tourmake_Below.ok k) (FnsOk.cons (solve_Run.ok k) (FnsOk.cons (tourkeep2_solves.ok k) (FnsOk.cons (body_At.ok k) FnsOk.nil)))))) HsOk.nil
noncomputable def tourkeep2_SolveStops.c1p (y1 : V25) (y5 : Int) (y7 : Int) (y9 : ((List V25) × ((List V78) × Int))) : SL := ⟨[(7, (.val .ptr ⟨0, 0, (0 : Int), 0, 0⟩)), (9, (.val .ptr ⟨1, 0, (0 : Int), 0, 0⟩)), (10, (.val .own (2 : Nat))), (11, (.val (.slice T78) y9.2.1)), (12, (.val T2 y9.2.2))], [(0, .cells T25 (((0 : Int), (0 : Int), ()), y1.2.1, y1.2.2.1, y1.2.2.2.1, y1.2.2.2.2.1, y1.2.2.2.2.2.1, (0 : Int), (0 : Int), y1.2.2.2.2.2.2.2.2)), (1, .cells T22 ((isub .i64 y5 (131072 : Int)), (isub .i64 y7 (131072 : Int)), ())), (2, .row T25 y9.1 26)]⟩
noncomputable def tourkeep2_SolveStops.c1q (y1 : V25) (y5 : Int) (y7 : Int) (y9 : ((List V25) × ((List V78) × Int))) (o : Bool) : SL := (fun v => ⟨[(7, (.val .ptr ⟨0, 0, (0 : Int), 0, 0⟩)), (9, (.val .ptr ⟨1, 0, (0 : Int), 0, 0⟩)), (10, (.val .own (2 : Nat))), (54, (.val T4 v))], [(0, .cells T25 (((0 : Int), (0 : Int), ()), y1.2.1, y1.2.2.1, y1.2.2.2.1, y1.2.2.2.2.1, y1.2.2.2.2.2.1, (0 : Int), (0 : Int), y1.2.2.2.2.2.2.2.2)), (1, .cells T22 ((isub .i64 y5 (131072 : Int)), (isub .i64 y7 (131072 : Int)), ())), (2, .row T25 y9.1 26)]⟩) o
noncomputable def tourkeep2_SolveStops.c1x (o : Bool) : Ex := (fun _ => .normal) o
noncomputable def tourkeep2_SolveStops.c1n (o : Bool) : Nat := (fun _ => 3) o
theorem tourkeep2_SolveStops.c1_ok (k : Nat) (y1 : V25) (y5 : Int) (y7 : Int) (y9 : ((List V25) × ((List V78) × Int))) : Owp (tourkeep2_SolveStops.c1 k y9) fun o => Triple PR (tourkeep2_SolveStops.cx k) (sub tourkeep2_SolveStops.code [1, 1, 1, 1, 1, 1, 0, 0]) 3 (tourkeep2_SolveStops.c1p y1 y5 y7 y9) (tourkeep2_SolveStops.c1x o) (tourkeep2_SolveStops.c1n o) (tourkeep2_SolveStops.c1q y1 y5 y7 y9 o) := by
  unfold tourkeep2_SolveStops.c1; exact
   Owp.bnd fun y11 e12 =>
   Owp.bif (fun e13 =>
   Owp.bif (fun e14 =>
    Owp.some (triple_way (tourkeep2_SolveStops.cok k) hmix [.res (.one (.dp T4)) y11, .dec false, .dec false, .dec false, .dec true, .dec true, .dec true, .dec true, .dec true, .dec true, .dec true, .dec true] [] [(0, 0), (1, 1), (2, 2)] (via (finP (And.intro (And.intro (And.intro (And.intro (And.intro (And.intro (And.intro (And.intro (And.intro (And.intro (And.intro (And.intro trivial e12) (congrArg not e13)) (congrArg not e13)) (congrArg not e13)) e14) e14) e14) e14) tt) tt) tt) tt) .normal [(0, 0), (1, 1), (2, 2)] (tourkeep2_SolveStops.c1q y1 y5 y7 y9 true)) (by kernel_rfl)))) (fun e14 =>
    Owp.bif (fun e15 =>
     Owp.some (triple_way (tourkeep2_SolveStops.cok k) hmix [.res (.one (.dp T4)) y11, .dec false, .dec false, .dec false, .dec false, .dec false, .dec false, .dec false, .dec true, .dec true, .dec true, .dec true] [] [(0, 0), (1, 1), (2, 2)] (via (finP (And.intro (And.intro (And.intro (And.intro (And.intro (And.intro (And.intro (And.intro (And.intro (And.intro (And.intro (And.intro trivial e12) (congrArg not e13)) (congrArg not e13)) (congrArg not e13)) e14) e14) e14) e14) e15) e15) e15) e15) .normal [(0, 0), (1, 1), (2, 2)] (tourkeep2_SolveStops.c1q y1 y5 y7 y9 true)) (by kernel_rfl)))) (fun e15 =>
     Owp.some (triple_way (tourkeep2_SolveStops.cok k) hmix [.res (.one (.dp T4)) y11, .dec false, .dec false, .dec false, .dec false, .dec false, .dec false, .dec false, .dec false, .dec false, .dec false, .dec false] [] [(0, 0), (1, 1), (2, 2)] (via (finP (And.intro (And.intro (And.intro (And.intro (And.intro (And.intro (And.intro (And.intro (And.intro (And.intro (And.intro (And.intro trivial e12) (congrArg not e13)) (congrArg not e13)) (congrArg not e13)) e14) e14) e14) e14) e15) e15) e15) e15) .normal [(0, 0), (1, 1), (2, 2)] (tourkeep2_SolveStops.c1q y1 y5 y7 y9 (ine (len y9.2.1) (1 : Int)))) (by kernel_rfl)))))) (fun e13 =>
   Owp.some (triple_way (tourkeep2_SolveStops.cok k) hmix [.res (.one (.dp T4)) y11, .dec true, .dec true, .dec true, .dec true, .dec true, .dec true, .dec true, .dec true, .dec true, .dec true, .dec true] [] [(0, 0), (1, 1), (2, 2)] (via (finP (And.intro (And.intro (And.intro (And.intro (And.intro (And.intro (And.intro (And.intro (And.intro (And.intro (And.intro (And.intro trivial e12) (congrArg not e13)) (congrArg not e13)) (congrArg not e13)) tt) tt) tt) tt) tt) tt) tt) tt) .normal [(0, 0), (1, 1), (2, 2)] (tourkeep2_SolveStops.c1q y1 y5 y7 y9 true)) (by kernel_rfl))))
theorem tourkeep2_SolveStops.way (k : Nat) (a0 : (List Int)) (a1 : Int) (a2 : Int) : Owp (tourkeep2_SolveStops k a0 a1 a2) fun y => ∃ answers cmds, exec PR (tourkeep2_SolveStops.cx k) tourkeep2_SolveStops.code 0 (entry (.pair T49 T22) (a0, a1, a2, ())).st answers (Ret (tourkeep2_SolveStops.cx k) Try.f8 cmds (.one (.dp T4)) y) := by
  unfold tourkeep2_SolveStops; exact
   Owp.bnd fun y1 e2 =>
   Owp.bnd fun y3 e4 =>
   Owp.bnd fun y5 e6 =>
   Owp.bnd fun y7 e8 =>
   Owp.bnd fun y9 e10 =>
   Owp.bnd fun o16 e17 =>
   Owp.bif (fun e18 =>
   Owp.some (⟨[.res (.one (.dp T25)) y1, .res (.one (.dp T25)) y3, .res (.one (.dp T2)) y5, .res (.one (.dp T2)) y7, .dec false, .dec false, .res (.more (.ow T25 26) (.more (.dp (.slice T78)) (.one (.dp T2)))) y9, .cutR 6 ⟨[], [(0, 3), (1, 22), (2, 31)], (tourkeep2_SolveStops.c1p y1 y5 y7 y9), 3, .normal, (tourkeep2_SolveStops.c1q y1 y5 y7 y9 o16), 3⟩, .dec true], [], via (cutP (And.intro (And.intro (And.intro (And.intro (And.intro trivial e2) e4) e6) e8) e10) [(0, 3), (1, 22), (2, 31)] (tourkeep2_SolveStops.c1p y1 y5 y7 y9) (((tourkeep2_SolveStops.c1_ok k y1 y5 y7 y9).ap e17)) (retP (And.intro trivial e18) (.one (.dp T4)) (false : Bool))) (by kernel_rfl)⟩)) (fun e18 =>
   Owp.bif (fun e19 =>
    Owp.some (⟨[.res (.one (.dp T25)) y1, .res (.one (.dp T25)) y3, .res (.one (.dp T2)) y5, .res (.one (.dp T2)) y7, .dec false, .dec false, .res (.more (.ow T25 26) (.more (.dp (.slice T78)) (.one (.dp T2)))) y9, .cutR 6 ⟨[], [(0, 3), (1, 22), (2, 31)], (tourkeep2_SolveStops.c1p y1 y5 y7 y9), 3, .normal, (tourkeep2_SolveStops.c1q y1 y5 y7 y9 o16), 3⟩, .dec false, .dec true, .dec true, .dec true, .dec true, .dec true, .dec true, .dec true, .dec true, .dec true], [], via (cutP (And.intro (And.intro (And.intro (And.intro (And.intro trivial e2) e4) e6) e8) e10) [(0, 3), (1, 22), (2, 31)] (tourkeep2_SolveStops.c1p y1 y5 y7 y9) (((tourkeep2_SolveStops.c1_ok k y1 y5 y7 y9).ap e17)) (retP (And.intro (And.intro (And.intro (And.intro (And.intro (And.intro (And.intro (And.intro (And.intro trivial e18) e19) e19) e19) e19) e19) e19) e19) e19) (.one (.dp T4)) (true : Bool))) (by kernel_rfl)⟩)) (fun e19 =>
    Owp.req fun h20 =>
     Owp.bnd fun y21 e22 =>
     Owp.some (⟨[.res (.one (.dp T25)) y1, .res (.one (.dp T25)) y3, .res (.one (.dp T2)) y5, .res (.one (.dp T2)) y7, .dec false, .dec false, .res (.more (.ow T25 26) (.more (.dp (.slice T78)) (.one (.dp T2)))) y9, .cutR 6 ⟨[], [(0, 3), (1, 22), (2, 31)], (tourkeep2_SolveStops.c1p y1 y5 y7 y9), 3, .normal, (tourkeep2_SolveStops.c1q y1 y5 y7 y9 o16), 3⟩, .dec false, .dec false, .dec false, .dec false, .dec false, .dec false, .res (.one (.dp T22)) y21, .dec false, .dec false, .dec false], [], via (cutP (And.intro (And.intro (And.intro (And.intro (And.intro trivial e2) e4) e6) e8) e10) [(0, 3), (1, 22), (2, 31)] (tourkeep2_SolveStops.c1p y1 y5 y7 y9) (((tourkeep2_SolveStops.c1_ok k y1 y5 y7 y9).ap e17)) (retP (And.intro (And.intro (And.intro (And.intro (And.intro (And.intro (And.intro (And.intro (And.intro trivial e18) e19) (And.intro e19 h20)) (And.intro e19 h20)) e19) (And.intro e19 e22)) e19) e19) e19) (.one (.dp T4)) ((ige y21.2.1 (-512 : Int)) : Bool))) (by kernel_rfl)⟩)))
theorem tourkeep2_SolveStops.ok (k : Nat) : FnOk PR 8 (tourkeep2_SolveStops.sp k) :=
  fn_ok (tourkeep2_SolveStops.cok k) hmix Try.func8 (code := tourkeep2_SolveStops.code) (by kernel_rfl) (by kernel_rfl) (by kernel_rfl) rfl rfl (by kernel_rfl) (by kernel_rfl) (by kernel_rfl) (fun x => Nat.le_of_ble_eq_true (by kernel_rfl)) fun x y hy => (tourkeep2_SolveStops.way k x.1 x.2.1 x.2.2.1).ap hy

end Go.Proofs.T1
