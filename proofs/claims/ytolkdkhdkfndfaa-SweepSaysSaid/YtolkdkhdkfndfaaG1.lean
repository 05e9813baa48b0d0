import Derived.Test.YtolkdkhdkfndfaaG0
namespace Go.Proofs.T1
open Go Go.Sx Go.Proofs
set_option maxRecDepth 100000
set_option linter.unusedVariables false
/-! tourney/sweep.Valid -/
noncomputable def sweep_Valid.code : Code := Func.cd Try.f41
def sweep_Valid (k : Nat) (a0 : V41) : Option Bool :=
  bif' (ile a0.1.1 a0.2.1.1)
  (some (ile a0.1.2.1 a0.2.1.2.1))
  (some false)
noncomputable def sweep_Valid.sp (k : Nat) : Go.Sx.Spec := ⟨(.pair T41 .unit), (.one (.dp T4)), fun x => sweep_Valid k x.1, false⟩
noncomputable def sweep_Valid.cx (k : Nat) : Go.Sx.Ctx := ⟨tys, [], eqs, 19, 0, [], false⟩
theorem sweep_Valid.cok (k : Nat) : CtxOk PR (sweep_Valid.cx k) := ctx_ok tysOk eqsOk FnsOk.nil HsOk.nil
theorem sweep_Valid.way (k : Nat) (a0 : V41) : Owp (sweep_Valid k a0) fun y => ∃ answers cmds, exec PR (sweep_Valid.cx k) sweep_Valid.code 0 (entry (.pair T41 .unit) (a0, ())).st answers (Ret (sweep_Valid.cx k) Try.f41 cmds (.one (.dp T4)) y) := by
  unfold sweep_Valid; exact
   Owp.bif (fun e1 =>
   Owp.some (⟨[.dec true, .dec true, .dec true, .dec true, .dec true, .dec true, .dec true, .dec true], [], via (retP (And.intro (And.intro (And.intro (And.intro (And.intro (And.intro (And.intro (And.intro trivial e1) e1) e1) e1) e1) e1) e1) e1) (.one (.dp T4)) ((ile a0.1.2.1 a0.2.1.2.1) : Bool)) (by kernel_rfl)⟩)) (fun e1 =>
   Owp.some (⟨[.dec false, .dec false, .dec false, .dec false, .dec false, .dec false, .dec false, .dec false], [], via (retP (And.intro (And.intro (And.intro (And.intro (And.intro (And.intro (And.intro (And.intro trivial e1) e1) e1) e1) e1) e1) e1) e1) (.one (.dp T4)) (false : Bool)) (by kernel_rfl)⟩))
theorem sweep_Valid.ok (k : Nat) : FnOk PR 41 (sweep_Valid.sp k) :=
  fn_ok (sweep_Valid.cok k) hmix Try.func41 (code := sweep_Valid.code) (by kernel_rfl) (by kernel_rfl) (by kernel_rfl) rfl rfl (by kernel_rfl) (by kernel_rfl) (by kernel_rfl) (fun x => Nat.le_of_ble_eq_true (by kernel_rfl)) fun x y hy => (sweep_Valid.way k x.1).ap hy

/-! tourney/sweep.Join -/
noncomputable def sweep_Join.code : Code := Func.cd Try.f28
def sweep_Join.c1 (k : Nat) (a0 : V41) (a1 : V41) : Option (Bool) :=
  bnd (sweep_Valid k a0) fun y1 =>
  bif' y1
  (some false)
  (bnd (sweep_Valid k a1) fun y4 =>
   some (!y4))
def sweep_Join (k : Nat) (a0 : V41) (a1 : V41) : Option V41 :=
  bnd (sweep_Join.c1 k a0 a1) fun o6 =>
  bif' o6
  (some ((0, 0, ()), (0, 0, ()), ()))
  (bnd (sweep_Valid k a0) fun y9 =>
   bif' y9
   (bnd (sweep_Valid k a1) fun y12 =>
    bif' y12
    (some (((imin a0.1.1 a1.1.1), (imin a0.1.2.1 a1.1.2.1), ()), ((imax a0.2.1.1 a1.2.1.1), (imax a0.2.1.2.1 a1.2.1.2.1), ()), ()))
    (some a0))
   (some a1))
noncomputable def sweep_Join.sp (k : Nat) : Go.Sx.Spec := ⟨(.pair T41 (.pair T41 .unit)), (.one (.dp T41)), fun x => sweep_Join k x.1 x.2.1, false⟩
noncomputable def sweep_Join.cx (k : Nat) : Go.Sx.Ctx := ⟨tys, [(41, sweep_Valid.sp k)], eqs, 56, 0, [], false⟩
theorem sweep_Join.cok (k : Nat) : CtxOk PR (sweep_Join.cx k) := ctx_ok tysOk eqsOk (FnsOk.cons (sweep_Valid.ok k) FnsOk.nil) HsOk.nil
noncomputable def sweep_Join.c1p (a0 : V41) (a1 : V41) : SL := ⟨[(2, (.val .ptr ⟨0, 0, (0 : Int), 0, 0⟩)), (3, (.val .ptr ⟨1, 0, (0 : Int), 0, 0⟩)), (4, (.val .ptr ⟨2, 0, (0 : Int), 0, 0⟩))], [(0, .cells T41 a0), (1, .cells T41 a1), (2, .cells T41 (((0 : Int), (0 : Int), ()), ((0 : Int), (0 : Int), ()), ()))]⟩
noncomputable def sweep_Join.c1q (a0 : V41) (a1 : V41) (o : Bool) : SL := (fun v => ⟨[(2, (.val .ptr ⟨0, 0, (0 : Int), 0, 0⟩)), (3, (.val .ptr ⟨1, 0, (0 : Int), 0, 0⟩)), (4, (.val .ptr ⟨2, 0, (0 : Int), 0, 0⟩)), (5, (.val T4 v))], [(0, .cells T41 a0), (1, .cells T41 a1), (2, .cells T41 (((0 : Int), (0 : Int), ()), ((0 : Int), (0 : Int), ()), ()))]⟩) o
noncomputable def sweep_Join.c1x (o : Bool) : Ex := (fun _ => .normal) o
noncomputable def sweep_Join.c1n (o : Bool) : Nat := (fun _ => 3) o
theorem sweep_Join.c1_ok (k : Nat) (a0 : V41) (a1 : V41) : Owp (sweep_Join.c1 k a0 a1) fun o => Triple PR (sweep_Join.cx k) (sub sweep_Join.code [1, 0, 0, 0]) 3 (sweep_Join.c1p a0 a1) (sweep_Join.c1x o) (sweep_Join.c1n o) (sweep_Join.c1q a0 a1 o) := by
  unfold sweep_Join.c1; exact
   Owp.bnd fun y1 e2 =>
   Owp.bif (fun e3 =>
   Owp.some (triple_way (sweep_Join.cok k) hmix [.res (.one (.dp T4)) y1, .dec false, .dec false, .dec true, .dec false, .dec false] [] [(0, 0), (1, 1), (2, 2)] (via (finP (And.intro (And.intro (And.intro (And.intro (And.intro trivial e2) (congrArg not e3)) (congrArg not e3)) (congrArg not e3)) (congrArg not e3)) .normal [(0, 0), (1, 1), (2, 2)] (sweep_Join.c1q a0 a1 false)) (by kernel_rfl)))) (fun e3 =>
   Owp.bnd fun y4 e5 =>
    Owp.some (triple_way (sweep_Join.cok k) hmix [.res (.one (.dp T4)) y1, .dec true, .dec true, .res (.one (.dp T4)) y4, .dec true, .dec true] [] [(0, 0), (1, 1), (2, 2)] (via (finP (And.intro (And.intro (And.intro (And.intro (And.intro trivial e2) (congrArg not e3)) (And.intro (congrArg not e3) e5)) (congrArg not e3)) (congrArg not e3)) .normal [(0, 0), (1, 1), (2, 2)] (sweep_Join.c1q a0 a1 (!y4))) (by kernel_rfl))))
theorem sweep_Join.way (k : Nat) (a0 : V41) (a1 : V41) : Owp (sweep_Join k a0 a1) fun y => ∃ answers cmds, exec PR (sweep_Join.cx k) sweep_Join.code 0 (entry (.pair T41 (.pair T41 .unit)) (a0, a1, ())).st answers (Ret (sweep_Join.cx k) Try.f28 cmds (.one (.dp T41)) y) := by
  unfold sweep_Join; exact
   Owp.bnd fun o6 e7 =>
   Owp.bif (fun e8 =>
   Owp.some (⟨[.cutR 1 ⟨[], [(0, 0), (1, 1), (2, 2)], (sweep_Join.c1p a0 a1), 3, .normal, (sweep_Join.c1q a0 a1 o6), 3⟩, .dec true], [], via (cutP trivial [(0, 0), (1, 1), (2, 2)] (sweep_Join.c1p a0 a1) (((sweep_Join.c1_ok k a0 a1).ap e7)) (retP (And.intro trivial e8) (.one (.dp T41)) ((((0 : Int), (0 : Int), ()), ((0 : Int), (0 : Int), ()), ()) : V41))) (by kernel_rfl)⟩)) (fun e8 =>
   Owp.bnd fun y9 e10 =>
    Owp.bif (fun e11 =>
    Owp.bnd fun y12 e13 =>
     Owp.bif (fun e14 =>
     Owp.some (⟨[.cutR 1 ⟨[], [(0, 0), (1, 1), (2, 2)], (sweep_Join.c1p a0 a1), 3, .normal, (sweep_Join.c1q a0 a1 o6), 3⟩, .dec false, .res (.one (.dp T4)) y9, .dec false, .res (.one (.dp T4)) y12, .dec false], [], via (cutP trivial [(0, 0), (1, 1), (2, 2)] (sweep_Join.c1p a0 a1) (((sweep_Join.c1_ok k a0 a1).ap e7)) (retP (And.intro (And.intro (And.intro (And.intro (And.intro trivial e8) e10) (congrArg not e11)) e13) (congrArg not e14)) (.one (.dp T41)) ((((imin a0.1.1 a1.1.1), (imin a0.1.2.1 a1.1.2.1), ()), ((imax a0.2.1.1 a1.2.1.1), (imax a0.2.1.2.1 a1.2.1.2.1), ()), ()) : V41))) (by kernel_rfl)⟩)) (fun e14 =>
     Owp.some (⟨[.cutR 1 ⟨[], [(0, 0), (1, 1), (2, 2)], (sweep_Join.c1p a0 a1), 3, .normal, (sweep_Join.c1q a0 a1 o6), 3⟩, .dec false, .res (.one (.dp T4)) y9, .dec false, .res (.one (.dp T4)) y12, .dec true], [], via (cutP trivial [(0, 0), (1, 1), (2, 2)] (sweep_Join.c1p a0 a1) (((sweep_Join.c1_ok k a0 a1).ap e7)) (retP (And.intro (And.intro (And.intro (And.intro (And.intro trivial e8) e10) (congrArg not e11)) e13) (congrArg not e14)) (.one (.dp T41)) (a0 : V41))) (by kernel_rfl)⟩))) (fun e11 =>
    Owp.some (⟨[.cutR 1 ⟨[], [(0, 0), (1, 1), (2, 2)], (sweep_Join.c1p a0 a1), 3, .normal, (sweep_Join.c1q a0 a1 o6), 3⟩, .dec false, .res (.one (.dp T4)) y9, .dec true], [], via (cutP trivial [(0, 0), (1, 1), (2, 2)] (sweep_Join.c1p a0 a1) (((sweep_Join.c1_ok k a0 a1).ap e7)) (retP (And.intro (And.intro (And.intro trivial e8) e10) (congrArg not e11)) (.one (.dp T41)) (a1 : V41))) (by kernel_rfl)⟩)))
theorem sweep_Join.ok (k : Nat) : FnOk PR 28 (sweep_Join.sp k) :=
  fn_ok (sweep_Join.cok k) hmix Try.func28 (code := sweep_Join.code) (by kernel_rfl) (by kernel_rfl) (by kernel_rfl) rfl rfl (by kernel_rfl) (by kernel_rfl) (by kernel_rfl) (fun x => Nat.le_of_ble_eq_true (by kernel_rfl)) fun x y hy => (sweep_Join.way k x.1 x.2.1).ap hy

/-! tourney/sweep.Meet -/
noncomputable def sweep_Meet.code : Code := Func.cd Try.f29
def sweep_Meet (k : Nat) (a0 : V41) (a1 : V41) : Option Bool :=
  bnd (sweep_Valid k a0) fun y1 =>
  bif' y1
  (bnd (sweep_Valid k a1) fun y4 =>
   bif' y4
   (bif' (ile a0.1.1 a1.2.1.1)
    (bif' (ile a1.1.1 a0.2.1.1)
     (bif' (ile a0.1.2.1 a1.2.1.2.1)
      (some (ile a1.1.2.1 a0.2.1.2.1))
      (some false))
     (some false))
    (some false))
   (some false))
  (some false)
noncomputable def sweep_Meet.sp (k : Nat) : Go.Sx.Spec := ⟨(.pair T41 (.pair T41 .unit)), (.one (.dp T4)), fun x => sweep_Meet k x.1 x.2.1, false⟩
noncomputable def sweep_Meet.cx (k : Nat) : Go.Sx.Ctx := ⟨tys, [(41, sweep_Valid.sp k)], eqs, 47, 0, [], false⟩
theorem sweep_Meet.cok (k : Nat) : CtxOk PR (sweep_Meet.cx k) := ctx_ok tysOk eqsOk (FnsOk.cons (sweep_Valid.ok k) FnsOk.nil) HsOk.nil
theorem sweep_Meet.way (k : Nat) (a0 : V41) (a1 : V41) : Owp (sweep_Meet k a0 a1) fun y => ∃ answers cmds, exec PR (sweep_Meet.cx k) sweep_Meet.code 0 (entry (.pair T41 (.pair T41 .unit)) (a0, a1, ())).st answers (Ret (sweep_Meet.cx k) Try.f29 cmds (.one (.dp T4)) y) := by
  unfold sweep_Meet; exact
   Owp.bnd fun y1 e2 =>
   Owp.bif (fun e3 =>
   Owp.bnd fun y4 e5 =>
    Owp.bif (fun e6 =>
    Owp.bif (fun e7 =>
     Owp.bif (fun e8 =>
      Owp.bif (fun e9 =>
       Owp.some (⟨[.res (.one (.dp T4)) y1, .dec true, .dec true, .res (.one (.dp T4)) y4, .dec true, .dec true, .dec true, .dec true, .dec true, .dec true, .dec true, .dec true, .dec true, .dec true, .dec true, .dec true, .dec true, .dec true, .dec true, .dec true, .dec true, .dec true, .dec true, .dec true, .dec true, .dec true, .dec true, .dec true, .dec true, .dec true, .dec true, .dec true, .dec true, .dec true, .dec true, .dec true, .dec true], [], via (retP (And.intro (And.intro (And.intro (And.intro (And.intro (And.intro (And.intro (And.intro (And.intro (And.intro (And.intro (And.intro (And.intro (And.intro (And.intro (And.intro (And.intro (And.intro (And.intro (And.intro (And.intro (And.intro (And.intro (And.intro (And.intro (And.intro (And.intro (And.intro (And.intro (And.intro (And.intro (And.intro (And.intro (And.intro (And.intro (And.intro trivial e2) e3) (And.intro e3 e5)) e3) e6) e6) e6) e6) e6) e6) e6) e6) e7) e7) e7) e7) e7) e7) e7) e7) e8) e8) e8) e8) e8) e8) e8) e8) e9) e9) e9) e9) e9) e9) e9) e9) (.one (.dp T4)) ((ile a1.1.2.1 a0.2.1.2.1) : Bool)) (by kernel_rfl)⟩)) (fun e9 =>
       Owp.some (⟨[.res (.one (.dp T4)) y1, .dec true, .dec true, .res (.one (.dp T4)) y4, .dec true, .dec true, .dec true, .dec true, .dec true, .dec true, .dec true, .dec true, .dec true, .dec true, .dec true, .dec true, .dec true, .dec true, .dec true, .dec true, .dec true, .dec true, .dec true, .dec true, .dec true, .dec true, .dec true, .dec true, .dec true, .dec false, .dec false, .dec false, .dec false, .dec false, .dec false, .dec false, .dec false], [], via (retP (And.intro (And.intro (And.intro (And.intro (And.intro (And.intro (And.intro (And.intro (And.intro (And.intro (And.intro (And.intro (And.intro (And.intro (And.intro (And.intro (And.intro (And.intro (And.intro (And.intro (And.intro (And.intro (And.intro (And.intro (And.intro (And.intro (And.intro (And.intro (And.intro (And.intro (And.intro (And.intro (And.intro (And.intro (And.intro (And.intro trivial e2) e3) (And.intro e3 e5)) e3) e6) e6) e6) e6) e6) e6) e6) e6) e7) e7) e7) e7) e7) e7) e7) e7) e8) e8) e8) e8) e8) e8) e8) e8) e9) e9) e9) e9) e9) e9) e9) e9) (.one (.dp T4)) (false : Bool)) (by kernel_rfl)⟩))) (fun e8 =>
      Owp.some (⟨[.res (.one (.dp T4)) y1, .dec true, .dec true, .res (.one (.dp T4)) y4, .dec true, .dec true, .dec true, .dec true, .dec true, .dec true, .dec true, .dec true, .dec true, .dec true, .dec true, .dec true, .dec true, .dec true, .dec true, .dec true, .dec true, .dec false, .dec false, .dec false, .dec false, .dec false, .dec false, .dec false, .dec false, .dec false, .dec false, .dec false, .dec false, .dec false, .dec false, .dec false, .dec false], [], via (retP (And.intro (And.intro (And.intro (And.intro (And.intro (And.intro (And.intro (And.intro (And.intro (And.intro (And.intro (And.intro (And.intro (And.intro (And.intro (And.intro (And.intro (And.intro (And.intro (And.intro (And.intro (And.intro (And.intro (And.intro (And.intro (And.intro (And.intro (And.intro (And.intro (And.intro (And.intro (And.intro (And.intro (And.intro (And.intro (And.intro trivial e2) e3) (And.intro e3 e5)) e3) e6) e6) e6) e6) e6) e6) e6) e6) e7) e7) e7) e7) e7) e7) e7) e7) e8) e8) e8) e8) e8) e8) e8) e8) ff) ff) ff) ff) ff) ff) ff) ff) (.one (.dp T4)) (false : Bool)) (by kernel_rfl)⟩))) (fun e7 =>
     Owp.some (⟨[.res (.one (.dp T4)) y1, .dec true, .dec true, .res (.one (.dp T4)) y4, .dec true, .dec true, .dec true, .dec true, .dec true, .dec true, .dec true, .dec true, .dec true, .dec false, .dec false, .dec false, .dec false, .dec false, .dec false, .dec false, .dec false, .dec false, .dec false, .dec false, .dec false, .dec false, .dec false, .dec false, .dec false, .dec false, .dec false, .dec false, .dec false, .dec false, .dec false, .dec false, .dec false], [], via (retP (And.intro (And.intro (And.intro (And.intro (And.intro (And.intro (And.intro (And.intro (And.intro (And.intro (And.intro (And.intro (And.intro (And.intro (And.intro (And.intro (And.intro (And.intro (And.intro (And.intro (And.intro (And.intro (And.intro (And.intro (And.intro (And.intro (And.intro (And.intro (And.intro (And.intro (And.intro (And.intro (And.intro (And.intro (And.intro (And.intro trivial e2) e3) (And.intro e3 e5)) e3) e6) e6) e6) e6) e6) e6) e6) e6) e7) e7) e7) e7) e7) e7) e7) e7) ff) ff) ff) ff) ff) ff) ff) ff) ff) ff) ff) ff) ff) ff) ff) ff) (.one (.dp T4)) (false : Bool)) (by kernel_rfl)⟩))) (fun e6 =>
    Owp.some (⟨[.res (.one (.dp T4)) y1, .dec true, .dec true, .res (.one (.dp T4)) y4, .dec true, .dec false, .dec false, .dec false, .dec false, .dec false, .dec false, .dec false, .dec false, .dec false, .dec false, .dec false, .dec false, .dec false, .dec false, .dec false, .dec false, .dec false, .dec false, .dec false, .dec false, .dec false, .dec false, .dec false, .dec false, .dec false, .dec false, .dec false, .dec false, .dec false, .dec false, .dec false, .dec false], [], via (retP (And.intro (And.intro (And.intro (And.intro (And.intro (And.intro (And.intro (And.intro (And.intro (And.intro (And.intro (And.intro (And.intro (And.intro (And.intro (And.intro (And.intro (And.intro (And.intro (And.intro (And.intro (And.intro (And.intro (And.intro (And.intro (And.intro (And.intro (And.intro (And.intro (And.intro (And.intro (And.intro (And.intro (And.intro (And.intro (And.intro trivial e2) e3) (And.intro e3 e5)) e3) e6) e6) e6) e6) e6) e6) e6) e6) ff) ff) ff) ff) ff) ff) ff) ff) ff) ff) ff) ff) ff) ff) ff) ff) ff) ff) ff) ff) ff) ff) ff) ff) (.one (.dp T4)) (false : Bool)) (by kernel_rfl)⟩))) (fun e3 =>
   Owp.some (⟨[.res (.one (.dp T4)) y1, .dec false, .dec false, .dec true, .dec false, .dec false, .dec false, .dec false, .dec false, .dec false, .dec false, .dec false, .dec false, .dec false, .dec false, .dec false, .dec false, .dec false, .dec false, .dec false, .dec false, .dec false, .dec false, .dec false, .dec false, .dec false, .dec false, .dec false, .dec false, .dec false, .dec false, .dec false, .dec false, .dec false, .dec false, .dec false, .dec false], [], via (retP (And.intro (And.intro (And.intro (And.intro (And.intro (And.intro (And.intro (And.intro (And.intro (And.intro (And.intro (And.intro (And.intro (And.intro (And.intro (And.intro (And.intro (And.intro (And.intro (And.intro (And.intro (And.intro (And.intro (And.intro (And.intro (And.intro (And.intro (And.intro (And.intro (And.intro (And.intro (And.intro (And.intro (And.intro (And.intro (And.intro trivial e2) e3) e3) e3) ff) ff) ff) ff) ff) ff) ff) ff) ff) ff) ff) ff) ff) ff) ff) ff) ff) ff) ff) ff) ff) ff) ff) ff) ff) ff) ff) ff) ff) ff) ff) ff) (.one (.dp T4)) (false : Bool)) (by kernel_rfl)⟩))
theorem sweep_Meet.ok (k : Nat) : FnOk PR 29 (sweep_Meet.sp k) :=
  fn_ok (sweep_Meet.cok k) hmix Try.func29 (code := sweep_Meet.code) (by kernel_rfl) (by kernel_rfl) (by kernel_rfl) rfl rfl (by kernel_rfl) (by kernel_rfl) (by kernel_rfl) (fun x => Nat.le_of_ble_eq_true (by kernel_rfl)) fun x y hy => (sweep_Meet.way k x.1 x.2.1).ap hy

/-! slices.Clone[[]tourney/api.Box,tourney/api.Box] -/
noncomputable def slices_Clone_31.code : Code := Func.cd Try.f31
def slices_Clone_31 (k : Nat) (a0 : (List V41)) : Option (List V41) :=
  req (room0 32 a0) <|
  some a0
noncomputable def slices_Clone_31.sp (k : Nat) : Go.Sx.Spec := ⟨(.pair (.slice T41) .unit), (.one (.ow T41 42)), fun x => slices_Clone_31 k x.1, false⟩
noncomputable def slices_Clone_31.cx (k : Nat) : Go.Sx.Ctx := ⟨tys, [], eqs, 8, 0, [], false⟩
theorem slices_Clone_31.cok (k : Nat) : CtxOk PR (slices_Clone_31.cx k) := ctx_ok tysOk eqsOk FnsOk.nil HsOk.nil
theorem slices_Clone_31.way (k : Nat) (a0 : (List V41)) : Owp (slices_Clone_31 k a0) fun y => ∃ answers cmds, exec PR (slices_Clone_31.cx k) slices_Clone_31.code 0 (entry (.pair (.slice T41) .unit) (a0, ())).st answers (Ret (slices_Clone_31.cx k) Try.f31 cmds (.one (.ow T41 42)) y) := by
  unfold slices_Clone_31; exact
   Owp.req fun h1 => match a0, h1 with
   | [], h1 => Owp.some (⟨[.fork [] [.dec true]], [.own 2 T41 42], via (show (True → (True ∧ (True ∧ some (Blk.row T41 ([] : (List V41)) 42) = some (Blk.row T41 ([] : (List V41)) 42)))) ∧ ((True ∧ room0 32 ([] : (List V41))) ∧ (True ∧ some (Blk.row T41 ([] : (List V41)) 42) = some (Blk.row T41 ([] : (List V41)) 42))) from ⟨fun _ => ⟨trivial, trivial, rfl⟩, ⟨trivial, h1⟩, trivial, rfl⟩) (by kernel_rfl)⟩)
   | a :: l, h1 => Owp.some (⟨[.dec false, .dec true], [.own 2 T41 42], via (show ((True ∧ false = false) ∧ room0 32 (a :: l)) ∧ (True ∧ some (Blk.row T41 (a :: l : (List V41)) 42) = some (Blk.row T41 (a :: l : (List V41)) 42)) from ⟨⟨⟨trivial, rfl⟩, h1⟩, trivial, rfl⟩) (by kernel_rfl)⟩)
theorem slices_Clone_31.ok (k : Nat) : FnOk PR 31 (slices_Clone_31.sp k) :=
  fn_ok (slices_Clone_31.cok k) hmix Try.func31 (code := slices_Clone_31.code) (by kernel_rfl) (by kernel_rfl) (by kernel_rfl) rfl rfl (by kernel_rfl) (by kernel_rfl) (by kernel_rfl) (fun x => Nat.le_of_ble_eq_true (by kernel_rfl)) fun x y hy => (slices_Clone_31.way k x.1).ap hy

/-! tourney/tourmake.Below -/
noncomputable def tourmake_Below.code : Code := Func.cd Try.f82
def tourmake_Below (k : Nat) (a0 : Int) (a1 : Int) : Option Int :=
  req (nz a1) <|
  bif' (ilt (irem a0 a1) 0)
  (some (iadd .i64 (irem a0 a1) a1))
  (some (irem a0 a1))
noncomputable def tourmake_Below.sp (k : Nat) : Go.Sx.Spec := ⟨T27, (.one (.dp T2)), fun x => tourmake_Below k x.1 x.2.1, false⟩
noncomputable def tourmake_Below.cx (k : Nat) : Go.Sx.Ctx := ⟨tys, [], eqs, 14, 0, [], false⟩
theorem tourmake_Below.cok (k : Nat) : CtxOk PR (tourmake_Below.cx k) := ctx_ok tysOk eqsOk FnsOk.nil HsOk.nil
theorem tourmake_Below.way (k : Nat) (a0 : Int) (a1 : Int) : Owp (tourmake_Below k a0 a1) fun y => ∃ answers cmds, exec PR (tourmake_Below.cx k) tourmake_Below.code 0 (entry T27 (a0, a1, ())).st answers (Ret (tourmake_Below.cx k) Try.f82 cmds (.one (.dp T2)) y) := by
  unfold tourmake_Below; exact
   Owp.req fun h1 =>
   Owp.bif (fun e2 =>
   Owp.some (⟨[.dec true], [], via (retP (And.intro (And.intro trivial h1) e2) (.one (.dp T2)) ((iadd .i64 (irem a0 a1) a1) : Int)) (by kernel_rfl)⟩)) (fun e2 =>
   Owp.some (⟨[.dec false], [], via (retP (And.intro (And.intro trivial h1) e2) (.one (.dp T2)) ((irem a0 a1) : Int)) (by kernel_rfl)⟩))
theorem tourmake_Below.ok (k : Nat) : FnOk PR 82 (tourmake_Below.sp k) :=
  fn_ok (tourmake_Below.cok k) hmix Try.func82 (code := tourmake_Below.code) (by kernel_rfl) (by kernel_rfl) (by kernel_rfl) rfl rfl (by kernel_rfl) (by kernel_rfl) (by kernel_rfl) (fun x => Nat.le_of_ble_eq_true (by kernel_rfl)) fun x y hy => (tourmake_Below.way k x.1 x.2.1).ap hy

/-! slices.Grow[[]tourney/api.Box,tourney/api.Box] -/
noncomputable def slices_Grow.code : Code := Func.cd Try.f165
def slices_Grow (k : Nat) (a0 : Unit) (a1 : Int) : Option (List V41) :=
  bif' (ilt a1 0)
  (none)
  (bif' (igt (isub .i64 a1 (isub .i64 0 0)) 0)
   (req (zAp 32 (isub .i64 a1 (isub .i64 0 0))) <|
    req (tkOk (mk0 Z41 (isub .i64 a1 (isub .i64 0 0))) 0) <|
    some (tk (mk0 Z41 (isub .i64 a1 (isub .i64 0 0))) 0))
   (some []))
noncomputable def slices_Grow.sp (k : Nat) : Go.Sx.Spec := ⟨(.pair .nil (.pair T2 .unit)), (.one (.ow T41 42)), fun x => slices_Grow k x.1 x.2.1, false⟩
noncomputable def slices_Grow.cx (k : Nat) : Go.Sx.Ctx := ⟨tys, [], eqs, 27, 0, [], false⟩
theorem slices_Grow.cok (k : Nat) : CtxOk PR (slices_Grow.cx k) := ctx_ok tysOk eqsOk FnsOk.nil HsOk.nil
theorem slices_Grow.way (k : Nat) (a0 : Unit) (a1 : Int) : Owp (slices_Grow k a0 a1) fun y => ∃ answers cmds, exec PR (slices_Grow.cx k) slices_Grow.code 0 (entry (.pair .nil (.pair T2 .unit)) (a0, a1, ())).st answers (Ret (slices_Grow.cx k) Try.f165 cmds (.one (.ow T41 42)) y) := by
  unfold slices_Grow; exact
   Owp.bif (fun e1 =>
   Owp.none) (fun e1 =>
   Owp.bif (fun e2 =>
    Owp.req fun h3 =>
     Owp.req fun h4 =>
     Owp.some (⟨[.dec false, .dec true], [], via (retP (And.intro (And.intro (And.intro (And.intro (And.intro trivial e1) e2) (rfl : isZ 0)) h3) h4) (.one (.ow T41 42)) ((tk (mk0 Z41 (isub .i64 a1 (isub .i64 (0 : Int) (0 : Int)))) (0 : Int)) : (List V41))) (by kernel_rfl)⟩)) (fun e2 =>
    Owp.some (⟨[.dec false, .dec false], [.own 4 T41 42], via (retP (And.intro (And.intro trivial e1) e2) (.one (.ow T41 42)) ([] : (List V41))) (by kernel_rfl)⟩)))
theorem slices_Grow.ok (k : Nat) : FnOk PR 165 (slices_Grow.sp k) :=
  fn_ok (slices_Grow.cok k) hmix Try.func165 (code := slices_Grow.code) (by kernel_rfl) (by kernel_rfl) (by kernel_rfl) rfl rfl (by kernel_rfl) (by kernel_rfl) (by kernel_rfl) (fun x => Nat.le_of_ble_eq_true (by kernel_rfl)) fun x y hy => (slices_Grow.way k x.1 x.2.1).ap hy

/-! slices.Concat[[]tourney/api.Box,tourney/api.Box] -/
noncomputable def slices_Concat.code : Code := Func.cd Try.f110
def slices_Concat.c1 (k : Nat) (a0 : (List (List V41))) : Nat → Int → Int → Option (Int)
  | 0, _, _ => none
  | n + 1, v1, v2 =>
   bif' (ilt v2 (len a0))
   (req (inL v2 a0) <|
    bif' (ilt (iadd .i64 v1 (len (el ([] : (List V41)) a0 v2))) 0)
    (none)
    (slices_Concat.c1 k a0 n (iadd .i64 v1 (len (el ([] : (List V41)) a0 v2))) (iadd .i64 v2 1)))
   (some v1)
def slices_Concat.c2 (k : Nat) (a0 : (List (List V41))) : Nat → Int → (List V41) → Option ((List V41))
  | 0, _, _ => none
  | n + 1, v10, v11 =>
   bif' (ilt v10 (len a0))
   (req (inL v10 a0) <|
    req (room 32 v11 (el ([] : (List V41)) a0 v10)) <|
    slices_Concat.c2 k a0 n (iadd .i64 v10 1) (v11 ++ (el ([] : (List V41)) a0 v10)))
   (some v11)
def slices_Concat (k : Nat) (a0 : (List (List V41))) : Option (List V41) :=
  bnd (slices_Concat.c1 k a0 k 0 0) fun o6 =>
  bnd (slices_Grow k () o6) fun y8 =>
  bnd (slices_Concat.c2 k a0 k 0 y8) fun o15 =>
  some o15
noncomputable def slices_Concat.sp (k : Nat) : Go.Sx.Spec := ⟨(.pair (.slice (.slice T41)) .unit), (.one (.ow T41 42)), fun x => slices_Concat k x.1, false⟩
noncomputable def slices_Concat.cx (k : Nat) : Go.Sx.Ctx := ⟨tys, [(165, slices_Grow.sp k)], eqs, 36, 0, [], false⟩
theorem slices_Concat.cok (k : Nat) : CtxOk PR (slices_Concat.cx k) := ctx_ok tysOk eqsOk (FnsOk.cons (slices_Grow.ok k) FnsOk.nil) HsOk.nil
noncomputable def slices_Concat.c1p (a0 : (List (List V41))) (v1 : Int) (v2 : Int) : SL := ⟨[(0, (.val (.slice (.slice T41)) a0)), (3, (.val T2 v1)), (9, (.val (.slice (.slice T41)) a0)), (10, (.val T2 (len a0))), (11, (.val T2 v2))], []⟩
noncomputable def slices_Concat.c1q (a0 : (List (List V41))) (o : Int) : SL := (fun v => ⟨[(0, (.val (.slice (.slice T41)) a0)), (3, (.val T2 v))], []⟩) o
noncomputable def slices_Concat.c1x (o : Int) : Ex := (fun _ => (.exit 0)) o
noncomputable def slices_Concat.c1n (o : Int) : Nat := (fun _ => 0) o
theorem slices_Concat.c1_ok (k : Nat) (a0 : (List (List V41))) : ∀ (n : Nat) (v1 : Int) (v2 : Int), Owp (slices_Concat.c1 k a0 n v1 v2) fun o => LTriple PR (slices_Concat.cx k) (sub slices_Concat.code [1, 1, 0, 1, 0, 0]) 0 (slices_Concat.c1p a0 v1 v2) (slices_Concat.c1x o) (slices_Concat.c1n o) (slices_Concat.c1q a0 o)
  | 0, _, _ => fun _ h => nomatch h
  | n + 1, v1, v2 => Owp.of (slices_Concat.c1.eq_2 ..) (
   Owp.bif (fun e3 =>
   Owp.req fun h4 =>
    Owp.bif (fun e5 =>
    Owp.none) (fun e5 =>
    fun y hy => loop_back (slices_Concat.cok k) hmix 0 (slices_Concat.c1p a0 (iadd .i64 v1 (len (el ([] : (List V41)) a0 v2))) (iadd .i64 v2 (1 : Int))) [.dec true, .dec false] [] [] (via (finP (And.intro (And.intro (And.intro trivial e3) h4) e5) .normal [] (slices_Concat.c1p a0 (iadd .i64 v1 (len (el ([] : (List V41)) a0 v2))) (iadd .i64 v2 (1 : Int)))) (by kernel_rfl)) ((slices_Concat.c1_ok k a0 n (iadd .i64 v1 (len (el ([] : (List V41)) a0 v2))) (iadd .i64 v2 (1 : Int))).ap hy))) (fun e3 =>
   Owp.some (loop_exit (slices_Concat.cok k) hmix [.dec false] [] [] (exne 0) (via (finP (And.intro trivial e3) (.exit 0) [] (slices_Concat.c1q a0 v1)) (by kernel_rfl)))))
noncomputable def slices_Concat.c2p (a0 : (List (List V41))) (v10 : Int) (v11 : (List V41)) : SL := ⟨[(6, (.val .own (0 : Nat))), (25, (.val (.slice (.slice T41)) a0)), (26, (.val T2 (len a0))), (27, (.val T2 v10))], [(0, .row T41 v11 42)]⟩
noncomputable def slices_Concat.c2q (o : (List V41)) : SL := (fun v => ⟨[(6, (.val .own (0 : Nat)))], [(0, .row T41 v 42)]⟩) o
noncomputable def slices_Concat.c2x (o : (List V41)) : Ex := (fun _ => (.exit 2)) o
noncomputable def slices_Concat.c2n (o : (List V41)) : Nat := (fun _ => 1) o
theorem slices_Concat.c2_ok (k : Nat) (a0 : (List (List V41))) : ∀ (n : Nat) (v10 : Int) (v11 : (List V41)), Owp (slices_Concat.c2 k a0 n v10 v11) fun o => LTriple PR (slices_Concat.cx k) (sub slices_Concat.code [1, 1, 1, 1, 0, 1, 0, 0]) 1 (slices_Concat.c2p a0 v10 v11) (slices_Concat.c2x o) (slices_Concat.c2n o) (slices_Concat.c2q o)
  | 0, _, _ => fun _ h => nomatch h
  | n + 1, v10, v11 => Owp.of (slices_Concat.c2.eq_2 ..) (
   Owp.bif (fun e12 =>
   Owp.req fun h13 =>
    Owp.req fun h14 =>
    fun y hy => loop_back (slices_Concat.cok k) hmix 1 (slices_Concat.c2p a0 (iadd .i64 v10 (1 : Int)) (v11 ++ (el ([] : (List V41)) a0 v10))) [.dec true] [] [(0, 7)] (via (finP (And.intro (And.intro (And.intro trivial e12) h13) h14) .normal [(0, 7)] (slices_Concat.c2p a0 (iadd .i64 v10 (1 : Int)) (v11 ++ (el ([] : (List V41)) a0 v10)))) (by kernel_rfl)) ((slices_Concat.c2_ok k a0 n (iadd .i64 v10 (1 : Int)) (v11 ++ (el ([] : (List V41)) a0 v10))).ap hy)) (fun e12 =>
   Owp.some (loop_exit (slices_Concat.cok k) hmix [.dec false] [] [(0, 0)] (exne 2) (via (finP (And.intro trivial e12) (.exit 2) [(0, 0)] (slices_Concat.c2q v11)) (by kernel_rfl)))))
theorem slices_Concat.way (k : Nat) (a0 : (List (List V41))) : Owp (slices_Concat k a0) fun y => ∃ answers cmds, exec PR (slices_Concat.cx k) slices_Concat.code 0 (entry (.pair (.slice (.slice T41)) .unit) (a0, ())).st answers (Ret (slices_Concat.cx k) Try.f110 cmds (.one (.ow T41 42)) y) := by
  unfold slices_Concat; exact
   Owp.bnd fun o6 e7 =>
   Owp.bnd fun y8 e9 =>
   Owp.bnd fun o15 e16 =>
   Owp.some (⟨[.cut ⟨[], [], (slices_Concat.c1p a0 (0 : Int) (0 : Int)), 0, (.exit 0), (slices_Concat.c1q a0 o6), 0⟩, .res (.one (.ow T41 42)) y8, .cut ⟨[], [(0, 1)], (slices_Concat.c2p a0 (0 : Int) y8), 1, (.exit 2), (slices_Concat.c2q o15), 1⟩], [], via (cutP trivial [] (slices_Concat.c1p a0 (0 : Int) (0 : Int)) (((slices_Concat.c1_ok k a0 k (0 : Int) (0 : Int)).ap e7).triple) (cutP (And.intro trivial e9) [(0, 1)] (slices_Concat.c2p a0 (0 : Int) y8) (((slices_Concat.c2_ok k a0 k (0 : Int) y8).ap e16).triple) (retP trivial (.one (.ow T41 42)) (o15 : (List V41))))) (by kernel_rfl)⟩)
theorem slices_Concat.ok (k : Nat) : FnOk PR 110 (slices_Concat.sp k) :=
  fn_ok (slices_Concat.cok k) hmix Try.func110 (code := slices_Concat.code) (by kernel_rfl) (by kernel_rfl) (by kernel_rfl) rfl rfl (by kernel_rfl) (by kernel_rfl) (by kernel_rfl) (fun x => Nat.le_of_ble_eq_true (by kernel_rfl)) fun x y hy => (slices_Concat.way k x.1).ap hy

end Go.Proofs.T1
