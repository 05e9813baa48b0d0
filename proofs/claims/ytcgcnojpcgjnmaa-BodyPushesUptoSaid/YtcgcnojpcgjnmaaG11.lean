import Derived.Test.YtcgcnojpcgjnmaaG0
import Derived.Test.YtcgcnojpcgjnmaaG3
import Derived.Test.YtcgcnojpcgjnmaaG4
import Derived.Test.YtcgcnojpcgjnmaaG5
import Derived.Test.YtcgcnojpcgjnmaaG10
namespace Go.Proofs.T1
open Go Go.Sx Go.Proofs
set_option maxRecDepth 100000
set_option linter.unusedVariables false
/-! tourney/body.Ease -/
noncomputable def body_Ease.code : Code := Func.cd Try.f20
def body_Ease.c1 (k : Nat) (a0 : V25) : Option (Bool) :=
  bnd (body_Check k a0) fun y1 =>
  bif' (ine y1 0)
  (some true)
  (bif' (ieq a0.2.2.2.2.1 0)
   (some true)
   (some a0.2.2.2.2.2.2.2.2.2.1))
def body_Ease (k : Nat) (a0 : V25) (a1 : V22) (a2 : V22) : Option Int :=
  bnd (body_Ease.c1 k a0) fun o5 =>
  bif' o5
  (some 0)
  (bnd (vec_Sub k a1 a0.1) fun y8 =>
   bnd (vec_Cross k y8 a2) fun y10 =>
   bnd (body_over k 65536 a0.2.2.2.2.1) fun y12 =>
   bnd (fix_Mul k y10 y10) fun y14 =>
   bnd (body_over k y14 a0.2.2.2.2.2.1) fun y16 =>
   bnd (fix_Add k y12 y16) fun y18 =>
   some y18)
noncomputable def body_Ease.sp (k : Nat) : Go.Sx.Spec := ⟨(.pair T25 (.pair T22 (.pair T22 .unit))), (.one (.dp T2)), fun x => body_Ease k x.1 x.2.1 x.2.2.1, false⟩
noncomputable def body_Ease.cx (k : Nat) : Go.Sx.Ctx := ⟨tys, [(41, body_Check.sp k), (83, vec_Sub.sp k), (82, vec_Cross.sp k), (81, body_over.sp k), (89, fix_Mul.sp k), (85, fix_Add.sp k)], eqs, 36, false⟩
theorem body_Ease.cok (k : Nat) : CtxOk PR (body_Ease.cx k) := ctx_ok tysOk eqsOk (FnsOk.cons (body_Check.ok k) (FnsOk.cons (vec_Sub.ok k) (FnsOk.cons (vec_Cross.ok k) (FnsOk.cons (body_over.ok k) (FnsOk.cons (fix_Mul.ok k) (FnsOk.cons (fix_Add.ok k) FnsOk.nil))))))
noncomputable def body_Ease.c1p (a0 : V25) (a1 : V22) (a2 : V22) : SL := ⟨[(3, (.val .ptr ⟨0, 0, (0 : Int), 0, 0⟩)), (4, (.val .ptr ⟨1, 0, (0 : Int), 0, 0⟩)), (5, (.val .ptr ⟨2, 0, (0 : Int), 0, 0⟩))], [(0, .cells T25 a0), (1, .cells T22 a1), (2, .cells T22 a2)]⟩
noncomputable def body_Ease.c1q (a0 : V25) (a1 : V22) (a2 : V22) (o : Bool) : SL := (fun v => ⟨[(3, (.val .ptr ⟨0, 0, (0 : Int), 0, 0⟩)), (4, (.val .ptr ⟨1, 0, (0 : Int), 0, 0⟩)), (5, (.val .ptr ⟨2, 0, (0 : Int), 0, 0⟩)), (19, (.val T4 v))], [(0, .cells T25 a0), (1, .cells T22 a1), (2, .cells T22 a2)]⟩) o
noncomputable def body_Ease.c1x (o : Bool) : Ex := (fun _ => .normal) o
noncomputable def body_Ease.c1n (o : Bool) : Nat := (fun _ => 3) o
theorem body_Ease.c1_ok (k : Nat) (a0 : V25) (a1 : V22) (a2 : V22) : Owp (body_Ease.c1 k a0) fun o => Triple PR (body_Ease.cx k) (sub body_Ease.code [1, 0, 0]) 3 (body_Ease.c1p a0 a1 a2) (body_Ease.c1x o) (body_Ease.c1n o) (body_Ease.c1q a0 a1 a2 o) := by
  unfold body_Ease.c1; exact
   Owp.bnd fun y1 e2 =>
   Owp.bif (fun e3 =>
   Owp.some (triple_way (body_Ease.cok k) hmix [.res (.one (.dp T2)) y1, .dec true, .dec true, .dec true, .dec true, .dec true, .dec true, .dec true] [] [(0, 0), (1, 1), (2, 2)] (via (finP (And.intro (And.intro (And.intro (And.intro (And.intro (And.intro (And.intro (And.intro trivial e2) e3) e3) e3) e3) tt) tt) tt) .normal [(0, 0), (1, 1), (2, 2)] (body_Ease.c1q a0 a1 a2 true)) (by kernel_rfl)))) (fun e3 =>
   Owp.bif (fun e4 =>
    Owp.some (triple_way (body_Ease.cok k) hmix [.res (.one (.dp T2)) y1, .dec false, .dec false, .dec false, .dec false, .dec true, .dec true, .dec true] [] [(0, 0), (1, 1), (2, 2)] (via (finP (And.intro (And.intro (And.intro (And.intro (And.intro (And.intro (And.intro (And.intro trivial e2) e3) e3) e3) e3) e4) e4) e4) .normal [(0, 0), (1, 1), (2, 2)] (body_Ease.c1q a0 a1 a2 true)) (by kernel_rfl)))) (fun e4 =>
    Owp.some (triple_way (body_Ease.cok k) hmix [.res (.one (.dp T2)) y1, .dec false, .dec false, .dec false, .dec false, .dec false, .dec false, .dec false] [] [(0, 0), (1, 1), (2, 2)] (via (finP (And.intro (And.intro (And.intro (And.intro (And.intro (And.intro (And.intro (And.intro trivial e2) e3) e3) e3) e3) e4) e4) e4) .normal [(0, 0), (1, 1), (2, 2)] (body_Ease.c1q a0 a1 a2 a0.2.2.2.2.2.2.2.2.2.1)) (by kernel_rfl)))))
theorem body_Ease.way (k : Nat) (a0 : V25) (a1 : V22) (a2 : V22) : Owp (body_Ease k a0 a1 a2) fun y => ∃ answers cmds, exec PR (body_Ease.cx k) body_Ease.code 0 (entry (.pair T25 (.pair T22 (.pair T22 .unit))) (a0, a1, a2, ())).st answers (Ret (body_Ease.cx k) Try.f20 cmds (.one (.dp T2)) y) := by
  unfold body_Ease; exact
   Owp.bnd fun o5 e6 =>
   Owp.bif (fun e7 =>
   Owp.some (⟨[.cutR 1 ⟨[], [(0, 0), (1, 1), (2, 2)], (body_Ease.c1p a0 a1 a2), 3, .normal, (body_Ease.c1q a0 a1 a2 o5), 3⟩, .dec true], [], via (cutP trivial [(0, 0), (1, 1), (2, 2)] (body_Ease.c1p a0 a1 a2) (((body_Ease.c1_ok k a0 a1 a2).ap e6)) (retP (And.intro trivial e7) (.one (.dp T2)) ((0 : Int) : Int))) (by kernel_rfl)⟩)) (fun e7 =>
   Owp.bnd fun y8 e9 =>
    Owp.bnd fun y10 e11 =>
    Owp.bnd fun y12 e13 =>
    Owp.bnd fun y14 e15 =>
    Owp.bnd fun y16 e17 =>
    Owp.bnd fun y18 e19 =>
    Owp.some (⟨[.cutR 1 ⟨[], [(0, 0), (1, 1), (2, 2)], (body_Ease.c1p a0 a1 a2), 3, .normal, (body_Ease.c1q a0 a1 a2 o5), 3⟩, .dec false, .res (.one (.dp T22)) y8, .res (.one (.dp T2)) y10, .res (.one (.dp T2)) y12, .res (.one (.dp T2)) y14, .res (.one (.dp T2)) y16, .res (.one (.dp T2)) y18], [], via (cutP trivial [(0, 0), (1, 1), (2, 2)] (body_Ease.c1p a0 a1 a2) (((body_Ease.c1_ok k a0 a1 a2).ap e6)) (retP (And.intro (And.intro (And.intro (And.intro (And.intro (And.intro (And.intro trivial e7) e9) e11) e13) e15) e17) e19) (.one (.dp T2)) (y18 : Int))) (by kernel_rfl)⟩))
theorem body_Ease.ok (k : Nat) : FnOk PR 20 (body_Ease.sp k) :=
  fn_ok (body_Ease.cok k) hmix Try.func20 (code := body_Ease.code) (by kernel_rfl) (by kernel_rfl) (by kernel_rfl) rfl (by kernel_rfl) (by kernel_rfl) (by kernel_rfl) (fun x => Nat.le_of_ble_eq_true (by kernel_rfl)) fun x y hy => (body_Ease.way k x.1 x.2.1 x.2.2.1).ap hy

/-! tourney/tourref2.Speed -/
noncomputable def tourref2_Speed.code : Code := Func.cd Try.f22
def tourref2_Speed (k : Nat) (a0 : V25) (a1 : V22) : Option V22 :=
  bnd (fix_Mul k a0.2.2.2.1 411775) fun y1 =>
  bnd (fix_Sub k a1.2.1 a0.1.2.1) fun y3 =>
  bnd (fix_Mul k y1 y3) fun y5 =>
  bnd (fix_Sub k a1.1 a0.1.1) fun y7 =>
  bnd (fix_Mul k y1 y7) fun y9 =>
  bnd (fix_Sub k a0.2.1.1 y5) fun y11 =>
  bnd (fix_Add k a0.2.1.2.1 y9) fun y13 =>
  some (y11, y13, ())
noncomputable def tourref2_Speed.sp (k : Nat) : Go.Sx.Spec := ⟨(.pair T25 (.pair T22 .unit)), (.one (.dp T22)), fun x => tourref2_Speed k x.1 x.2.1, false⟩
noncomputable def tourref2_Speed.cx (k : Nat) : Go.Sx.Ctx := ⟨tys, [(89, fix_Mul.sp k), (90, fix_Sub.sp k), (85, fix_Add.sp k)], eqs, 38, false⟩
theorem tourref2_Speed.cok (k : Nat) : CtxOk PR (tourref2_Speed.cx k) := ctx_ok tysOk eqsOk (FnsOk.cons (fix_Mul.ok k) (FnsOk.cons (fix_Sub.ok k) (FnsOk.cons (fix_Add.ok k) FnsOk.nil)))
theorem tourref2_Speed.way (k : Nat) (a0 : V25) (a1 : V22) : Owp (tourref2_Speed k a0 a1) fun y => ∃ answers cmds, exec PR (tourref2_Speed.cx k) tourref2_Speed.code 0 (entry (.pair T25 (.pair T22 .unit)) (a0, a1, ())).st answers (Ret (tourref2_Speed.cx k) Try.f22 cmds (.one (.dp T22)) y) := by
  unfold tourref2_Speed; exact
   Owp.bnd fun y1 e2 =>
   Owp.bnd fun y3 e4 =>
   Owp.bnd fun y5 e6 =>
   Owp.bnd fun y7 e8 =>
   Owp.bnd fun y9 e10 =>
   Owp.bnd fun y11 e12 =>
   Owp.bnd fun y13 e14 =>
   Owp.some (⟨[.res (.one (.dp T2)) y1, .res (.one (.dp T2)) y3, .res (.one (.dp T2)) y5, .res (.one (.dp T2)) y7, .res (.one (.dp T2)) y9, .res (.one (.dp T2)) y11, .res (.one (.dp T2)) y13], [], via (retP (And.intro (And.intro (And.intro (And.intro (And.intro (And.intro (And.intro trivial e2) e4) e6) e8) e10) e12) e14) (.one (.dp T22)) ((y11, y13, ()) : V22)) (by kernel_rfl)⟩)
theorem tourref2_Speed.ok (k : Nat) : FnOk PR 22 (tourref2_Speed.sp k) :=
  fn_ok (tourref2_Speed.cok k) hmix Try.func22 (code := tourref2_Speed.code) (by kernel_rfl) (by kernel_rfl) (by kernel_rfl) rfl (by kernel_rfl) (by kernel_rfl) (by kernel_rfl) (fun x => Nat.le_of_ble_eq_true (by kernel_rfl)) fun x y hy => (tourref2_Speed.way k x.1 x.2.1).ap hy

/-! tourney/tourref2.Ease -/
noncomputable def tourref2_Ease.code : Code := Func.cd Try.f23
def tourref2_Ease (k : Nat) (a0 : V25) (a1 : V22) (a2 : V22) : Option Int :=
  bnd (tourref2_Free k a0) fun y1 =>
  bif' y1
  (bnd (vec_Sub k a1 a0.1) fun y4 =>
   bnd (vec_Cross k y4 a2) fun y6 =>
   bnd (tourref2_quotient k 65536 a0.2.2.2.2.1) fun y8 =>
   bnd (fix_Mul k y6 y6) fun y10 =>
   bnd (tourref2_quotient k y10 a0.2.2.2.2.2.1) fun y12 =>
   bnd (fix_Add k y8 y12) fun y14 =>
   some y14)
  (some 0)
noncomputable def tourref2_Ease.sp (k : Nat) : Go.Sx.Spec := ⟨(.pair T25 (.pair T22 (.pair T22 .unit))), (.one (.dp T2)), fun x => tourref2_Ease k x.1 x.2.1 x.2.2.1, false⟩
noncomputable def tourref2_Ease.cx (k : Nat) : Go.Sx.Ctx := ⟨tys, [(91, tourref2_Free.sp k), (83, vec_Sub.sp k), (82, vec_Cross.sp k), (92, tourref2_quotient.sp k), (89, fix_Mul.sp k), (85, fix_Add.sp k)], eqs, 27, false⟩
theorem tourref2_Ease.cok (k : Nat) : CtxOk PR (tourref2_Ease.cx k) := ctx_ok tysOk eqsOk (FnsOk.cons (tourref2_Free.ok k) (FnsOk.cons (vec_Sub.ok k) (FnsOk.cons (vec_Cross.ok k) (FnsOk.cons (tourref2_quotient.ok k) (FnsOk.cons (fix_Mul.ok k) (FnsOk.cons (fix_Add.ok k) FnsOk.nil))))))
theorem tourref2_Ease.way (k : Nat) (a0 : V25) (a1 : V22) (a2 : V22) : Owp (tourref2_Ease k a0 a1 a2) fun y => ∃ answers cmds, exec PR (tourref2_Ease.cx k) tourref2_Ease.code 0 (entry (.pair T25 (.pair T22 (.pair T22 .unit))) (a0, a1, a2, ())).st answers (Ret (tourref2_Ease.cx k) Try.f23 cmds (.one (.dp T2)) y) := by
  unfold tourref2_Ease; exact
   Owp.bnd fun y1 e2 =>
   Owp.bif (fun e3 =>
   Owp.bnd fun y4 e5 =>
    Owp.bnd fun y6 e7 =>
    Owp.bnd fun y8 e9 =>
    Owp.bnd fun y10 e11 =>
    Owp.bnd fun y12 e13 =>
    Owp.bnd fun y14 e15 =>
    Owp.some (⟨[.res (.one (.dp T4)) y1, .dec false, .res (.one (.dp T22)) y4, .res (.one (.dp T2)) y6, .res (.one (.dp T2)) y8, .res (.one (.dp T2)) y10, .res (.one (.dp T2)) y12, .res (.one (.dp T2)) y14], [], via (retP (And.intro (And.intro (And.intro (And.intro (And.intro (And.intro (And.intro (And.intro trivial e2) (congrArg not e3)) e5) e7) e9) e11) e13) e15) (.one (.dp T2)) (y14 : Int)) (by kernel_rfl)⟩)) (fun e3 =>
   Owp.some (⟨[.res (.one (.dp T4)) y1, .dec true], [], via (retP (And.intro (And.intro trivial e2) (congrArg not e3)) (.one (.dp T2)) ((0 : Int) : Int)) (by kernel_rfl)⟩))
theorem tourref2_Ease.ok (k : Nat) : FnOk PR 23 (tourref2_Ease.sp k) :=
  fn_ok (tourref2_Ease.cok k) hmix Try.func23 (code := tourref2_Ease.code) (by kernel_rfl) (by kernel_rfl) (by kernel_rfl) rfl (by kernel_rfl) (by kernel_rfl) (by kernel_rfl) (fun x => Nat.le_of_ble_eq_true (by kernel_rfl)) fun x y hy => (tourref2_Ease.way k x.1 x.2.1 x.2.2.1).ap hy

/-! tourney/tourlaw2.BodyPushes -/
noncomputable def tourlaw2_BodyPushes.code : Code := Func.cd Try.f3
def tourlaw2_BodyPushes.c1 (k : Nat) (a0 : V25) (a2 : V22) (a3 : V22) (y4 : V25) : Option (Bool) :=
  bnd (tourref2_SameBody k y4 a0) fun y9 =>
  bif' y9
  (bnd (body_At k a0 a2) fun y12 =>
   bif' (Ty.eqb T22 y12 ((0 : Int), (0 : Int), ()))
   (bnd (body_Ease k a0 a2 a3) fun y15 =>
    some (ieq y15 0))
   (some false))
  (some false)
def tourlaw2_BodyPushes (k : Nat) (a0 : V25) (a1 : V22) (a2 : V22) (a3 : V22) : Option Bool :=
  bnd (tourlaw2_bodyBegun k) fun y1 =>
  bif' y1
  (bnd (body_Push k a0 a1 a2) fun y4 =>
   bnd (tourref2_Body k a0) fun y6 =>
   bif' (ine y6 0)
   (bnd (tourlaw2_BodyPushes.c1 k a0 a2 a3 y4) fun o17 =>
    some o17)
   (bnd (tourref2_Pushed k a0 a1 a2) fun y19 =>
    bnd (tourref2_SameBody k y4 y19) fun y21 =>
    bif' y21
    (bnd (body_At k a0 a2) fun y24 =>
     bnd (tourref2_Speed k a0 a2) fun y26 =>
     bif' (Ty.eqb T22 y24 y26)
     (bnd (body_Ease k a0 a2 a3) fun y29 =>
      bnd (tourref2_Ease k a0 a2 a3) fun y31 =>
      some (ieq y29 y31))
     (some false))
    (some false)))
  (some false)
noncomputable def tourlaw2_BodyPushes.sp (k : Nat) : Go.Sx.Spec := ⟨(.pair T25 (.pair T22 (.pair T22 (.pair T22 .unit)))), (.one (.dp T4)), fun x => tourlaw2_BodyPushes k x.1 x.2.1 x.2.2.1 x.2.2.2.1, false⟩
noncomputable def tourlaw2_BodyPushes.cx (k : Nat) : Go.Sx.Ctx := ⟨tys, [(15, tourlaw2_bodyBegun.sp k), (16, body_Push.sp k), (17, tourref2_Body.sp k), (18, tourref2_SameBody.sp k), (19, body_At.sp k), (20, body_Ease.sp k), (21, tourref2_Pushed.sp k), (22, tourref2_Speed.sp k), (23, tourref2_Ease.sp k)], eqs, 62, false⟩
theorem tourlaw2_BodyPushes.cok (k : Nat) : CtxOk PR (tourlaw2_BodyPushes.cx k) := ctx_ok tysOk eqsOk (FnsOk.cons (tourlaw2_bodyBegun.ok k) (FnsOk.cons (body_Push.ok k) (FnsOk.cons (tourref2_Body.ok k) (FnsOk.cons (tourref2_SameBody.ok k) (FnsOk.cons (body_At.ok k) (FnsOk.cons (body_Ease.ok k) (FnsOk.cons (tourref2_Pushed.ok k) (FnsOk.cons (tourref2_Speed.ok k) (FnsOk.cons (tourref2_Ease.ok k) FnsOk.nil)))))))))
noncomputable def tourlaw2_BodyPushes.c1p (a0 : V25) (a2 : V22) (a3 : V22) (y4 : V25) : SL := ⟨[(4, (.val .ptr ⟨0, 0, (0 : Int), 0, 0⟩)), (6, (.val .ptr ⟨1, 0, (0 : Int), 0, 0⟩)), (7, (.val .ptr ⟨2, 0, (0 : Int), 0, 0⟩)), (9, (.val .ptr ⟨3, 0, (0 : Int), 0, 0⟩))], [(0, .cells T25 a0), (1, .cells T22 a2), (2, .cells T22 a3), (3, .cells T25 y4)]⟩
noncomputable def tourlaw2_BodyPushes.c1q (o : Bool) : SL := (fun v => ⟨[(8, (.val T4 v))], []⟩) o
noncomputable def tourlaw2_BodyPushes.c1x (o : Bool) : Ex := (fun _ => .normal) o
noncomputable def tourlaw2_BodyPushes.c1n (o : Bool) : Nat := (fun _ => 0) o
theorem tourlaw2_BodyPushes.c1_ok (k : Nat) (a0 : V25) (a2 : V22) (a3 : V22) (y4 : V25) : Owp (tourlaw2_BodyPushes.c1 k a0 a2 a3 y4) fun o => Triple PR (tourlaw2_BodyPushes.cx k) (sub tourlaw2_BodyPushes.code [1, 1, 1, 0, 1, 0, 0]) 4 (tourlaw2_BodyPushes.c1p a0 a2 a3 y4) (tourlaw2_BodyPushes.c1x o) (tourlaw2_BodyPushes.c1n o) (tourlaw2_BodyPushes.c1q o) := by
  unfold tourlaw2_BodyPushes.c1; exact
   Owp.bnd fun y9 e10 =>
   Owp.bif (fun e11 =>
   Owp.bnd fun y12 e13 =>
    Owp.bif (fun e14 =>
    Owp.bnd fun y15 e16 =>
     Owp.some (triple_way (tourlaw2_BodyPushes.cok k) hmix [.res (.one (.dp T4)) y9, .dec true, .dec true, .dec true, .res (.one (.dp T22)) y12, .dec true, .dec true, .dec true, .dec true, .dec true, .dec true, .dec true, .res (.one (.dp T2)) y15, .dec true, .dec true] [] [] (via (finP (And.intro (And.intro (And.intro (And.intro (And.intro (And.intro (And.intro (And.intro (And.intro (And.intro (And.intro (And.intro (And.intro trivial e10) e11) e11) (And.intro e11 e13)) e11) e11) e11) e14) e14) e14) (And.intro e14 e16)) e14) e14) .normal [] (tourlaw2_BodyPushes.c1q (ieq y15 (0 : Int)))) (by kernel_rfl)))) (fun e14 =>
    Owp.some (triple_way (tourlaw2_BodyPushes.cok k) hmix [.res (.one (.dp T4)) y9, .dec true, .dec true, .dec true, .res (.one (.dp T22)) y12, .dec true, .dec true, .dec true, .dec false, .dec false, .dec false, .dec false, .dec true, .dec false, .dec false] [] [] (via (finP (And.intro (And.intro (And.intro (And.intro (And.intro (And.intro (And.intro (And.intro (And.intro (And.intro (And.intro (And.intro (And.intro trivial e10) e11) e11) (And.intro e11 e13)) e11) e11) e11) e14) e14) e14) e14) e14) e14) .normal [] (tourlaw2_BodyPushes.c1q false)) (by kernel_rfl))))) (fun e11 =>
   Owp.some (triple_way (tourlaw2_BodyPushes.cok k) hmix [.res (.one (.dp T4)) y9, .dec false, .dec false, .dec false, .dec true, .dec false, .dec false, .dec false, .dec false, .dec false, .dec false, .dec false, .dec true, .dec false, .dec false] [] [] (via (finP (And.intro (And.intro (And.intro (And.intro (And.intro (And.intro (And.intro (And.intro (And.intro (And.intro (And.intro (And.intro (And.intro trivial e10) e11) e11) e11) e11) e11) e11) ff) ff) ff) ff) ff) ff) .normal [] (tourlaw2_BodyPushes.c1q false)) (by kernel_rfl))))
theorem tourlaw2_BodyPushes.way (k : Nat) (a0 : V25) (a1 : V22) (a2 : V22) (a3 : V22) : Owp (tourlaw2_BodyPushes k a0 a1 a2 a3) fun y => ∃ answers cmds, exec PR (tourlaw2_BodyPushes.cx k) tourlaw2_BodyPushes.code 0 (entry (.pair T25 (.pair T22 (.pair T22 (.pair T22 .unit)))) (a0, a1, a2, a3, ())).st answers (Ret (tourlaw2_BodyPushes.cx k) Try.f3 cmds (.one (.dp T4)) y) := by
  unfold tourlaw2_BodyPushes; exact
   Owp.bnd fun y1 e2 =>
   Owp.bif (fun e3 =>
   Owp.bnd fun y4 e5 =>
    Owp.bnd fun y6 e7 =>
    Owp.bif (fun e8 =>
    Owp.bnd fun o17 e18 =>
     Owp.some (⟨[.res (.one (.dp T4)) y1, .dec false, .res (.one (.dp T25)) y4, .res (.one (.dp T2)) y6, .dec true, .cutR 5 ⟨[], [(0, 0), (1, 2), (2, 3), (3, 11)], (tourlaw2_BodyPushes.c1p a0 a2 a3 y4), 4, .normal, (tourlaw2_BodyPushes.c1q o17), 0⟩], [], via (cutP (And.intro (And.intro (And.intro (And.intro (And.intro trivial e2) (congrArg not e3)) e5) e7) e8) [(0, 0), (1, 2), (2, 3), (3, 11)] (tourlaw2_BodyPushes.c1p a0 a2 a3 y4) (((tourlaw2_BodyPushes.c1_ok k a0 a2 a3 y4).ap e18)) (retP trivial (.one (.dp T4)) (o17 : Bool))) (by kernel_rfl)⟩)) (fun e8 =>
    Owp.bnd fun y19 e20 =>
     Owp.bnd fun y21 e22 =>
     Owp.bif (fun e23 =>
     Owp.bnd fun y24 e25 =>
      Owp.bnd fun y26 e27 =>
      Owp.bif (fun e28 =>
      Owp.bnd fun y29 e30 =>
       Owp.bnd fun y31 e32 =>
       Owp.some (⟨[.res (.one (.dp T4)) y1, .dec false, .res (.one (.dp T25)) y4, .res (.one (.dp T2)) y6, .dec false, .res (.one (.dp T25)) y19, .res (.one (.dp T4)) y21, .dec true, .dec true, .dec true, .res (.one (.dp T22)) y24, .dec true, .dec true, .dec true, .res (.one (.dp T22)) y26, .dec true, .dec true, .dec true, .dec true, .dec true, .dec true, .res (.one (.dp T2)) y29, .dec true, .dec true, .dec true, .dec true, .res (.one (.dp T2)) y31, .dec true, .dec true], [], via (retP (And.intro (And.intro (And.intro (And.intro (And.intro (And.intro (And.intro (And.intro (And.intro (And.intro (And.intro (And.intro (And.intro (And.intro (And.intro (And.intro (And.intro (And.intro (And.intro (And.intro (And.intro (And.intro (And.intro (And.intro (And.intro trivial e2) (congrArg not e3)) e5) e7) e8) e20) e22) e23) e23) (And.intro e23 e25)) e23) e23) (And.intro e23 e27)) e23) e23) e28) e28) e28) (And.intro e28 e30)) e28) e28) e28) (And.intro e28 e32)) e28) e28) (.one (.dp T4)) ((ieq y29 y31) : Bool)) (by kernel_rfl)⟩)) (fun e28 =>
      Owp.some (⟨[.res (.one (.dp T4)) y1, .dec false, .res (.one (.dp T25)) y4, .res (.one (.dp T2)) y6, .dec false, .res (.one (.dp T25)) y19, .res (.one (.dp T4)) y21, .dec true, .dec true, .dec true, .res (.one (.dp T22)) y24, .dec true, .dec true, .dec true, .res (.one (.dp T22)) y26, .dec true, .dec true, .dec false, .dec false, .dec false, .dec false, .dec true, .dec false, .dec false, .dec false, .dec false, .dec true, .dec false, .dec false], [], via (retP (And.intro (And.intro (And.intro (And.intro (And.intro (And.intro (And.intro (And.intro (And.intro (And.intro (And.intro (And.intro (And.intro (And.intro (And.intro (And.intro (And.intro (And.intro (And.intro (And.intro (And.intro (And.intro (And.intro (And.intro (And.intro trivial e2) (congrArg not e3)) e5) e7) e8) e20) e22) e23) e23) (And.intro e23 e25)) e23) e23) (And.intro e23 e27)) e23) e23) e28) e28) e28) e28) e28) e28) e28) e28) e28) e28) (.one (.dp T4)) (false : Bool)) (by kernel_rfl)⟩))) (fun e23 =>
     Owp.some (⟨[.res (.one (.dp T4)) y1, .dec false, .res (.one (.dp T25)) y4, .res (.one (.dp T2)) y6, .dec false, .res (.one (.dp T25)) y19, .res (.one (.dp T4)) y21, .dec false, .dec false, .dec false, .dec true, .dec false, .dec false, .dec false, .dec true, .dec false, .dec false, .dec false, .dec false, .dec false, .dec false, .dec true, .dec false, .dec false, .dec false, .dec false, .dec true, .dec false, .dec false], [], via (retP (And.intro (And.intro (And.intro (And.intro (And.intro (And.intro (And.intro (And.intro (And.intro (And.intro (And.intro (And.intro (And.intro (And.intro (And.intro (And.intro (And.intro (And.intro (And.intro (And.intro (And.intro (And.intro (And.intro (And.intro (And.intro trivial e2) (congrArg not e3)) e5) e7) e8) e20) e22) e23) e23) e23) e23) e23) e23) e23) e23) ff) ff) ff) ff) ff) ff) ff) ff) ff) ff) (.one (.dp T4)) (false : Bool)) (by kernel_rfl)⟩)))) (fun e3 =>
   Owp.some (⟨[.res (.one (.dp T4)) y1, .dec true], [], via (retP (And.intro (And.intro trivial e2) (congrArg not e3)) (.one (.dp T4)) (false : Bool)) (by kernel_rfl)⟩))
theorem tourlaw2_BodyPushes.ok (k : Nat) : FnOk PR 3 (tourlaw2_BodyPushes.sp k) :=
  fn_ok (tourlaw2_BodyPushes.cok k) hmix Try.func3 (code := tourlaw2_BodyPushes.code) (by kernel_rfl) (by kernel_rfl) (by kernel_rfl) rfl (by kernel_rfl) (by kernel_rfl) (by kernel_rfl) (fun x => Nat.le_of_ble_eq_true (by kernel_rfl)) fun x y hy => (tourlaw2_BodyPushes.way k x.1 x.2.1 x.2.2.1 x.2.2.2.1).ap hy

/-! tourney/body.Place -/
noncomputable def body_Place.code : Code := Func.cd Try.f36
def body_Place.c1 (k : Nat) (a0 : V25) : Nat → Int → (List V22) → Option ((List V22))
  | 0, _, _ => none
  | n + 1, v4, v5 =>
   bif' (ilt v4 (len a0.2.2.2.2.2.2.2.2.1))
   (req (inL v4 a0.2.2.2.2.2.2.2.2.1) <|
    bnd (vec_Turn k (el Z22 a0.2.2.2.2.2.2.2.2.1 v4) a0.2.2.1) fun y8 =>
    bnd (vec_Add k y8 a0.1) fun y10 =>
    req (room 16 v5 [y10]) <|
    body_Place.c1 k a0 n (iadd .i64 v4 1) (v5 ++ [y10]))
   (some v5)
def body_Place (k : Nat) (a0 : V25) : Option (List V22) :=
  bnd (body_Check k a0) fun y1 =>
  bif' (ine y1 0)
  (some [])
  (bnd (body_Place.c1 k a0 k 0 []) fun o13 =>
   some o13)
noncomputable def body_Place.sp (k : Nat) : Go.Sx.Spec := ⟨(.pair T25 .unit), (.one (.ow T22 23)), fun x => body_Place k x.1, false⟩
noncomputable def body_Place.cx (k : Nat) : Go.Sx.Ctx := ⟨tys, [(41, body_Check.sp k), (106, vec_Turn.sp k), (105, vec_Add.sp k)], eqs, 28, false⟩
theorem body_Place.cok (k : Nat) : CtxOk PR (body_Place.cx k) := ctx_ok tysOk eqsOk (FnsOk.cons (body_Check.ok k) (FnsOk.cons (vec_Turn.ok k) (FnsOk.cons (vec_Add.ok k) FnsOk.nil)))
noncomputable def body_Place.c1p (a0 : V25) (v4 : Int) (v5 : (List V22)) : SL := ⟨[(1, (.val .ptr ⟨0, 0, (0 : Int), 0, 0⟩)), (3, (.val .own (1 : Nat))), (10, (.val T24 a0.2.2.2.2.2.2.2.2.1)), (11, (.val T2 (len a0.2.2.2.2.2.2.2.2.1))), (12, (.val T2 v4))], [(0, .cells T25 a0), (1, .row T22 v5 23)]⟩
noncomputable def body_Place.c1q (o : (List V22)) : SL := (fun v => ⟨[(3, (.val .own (0 : Nat)))], [(0, .row T22 v 23)]⟩) o
noncomputable def body_Place.c1x (o : (List V22)) : Ex := (fun _ => (.exit 0)) o
noncomputable def body_Place.c1n (o : (List V22)) : Nat := (fun _ => 1) o
theorem body_Place.c1_ok (k : Nat) (a0 : V25) : ∀ (n : Nat) (v4 : Int) (v5 : (List V22)), Owp (body_Place.c1 k a0 n v4 v5) fun o => LTriple PR (body_Place.cx k) (sub body_Place.code [1, 1, 1, 0, 1, 0, 0]) 2 (body_Place.c1p a0 v4 v5) (body_Place.c1x o) (body_Place.c1n o) (body_Place.c1q o)
  | 0, _, _ => fun _ h => nomatch h
  | n + 1, v4, v5 => Owp.of (body_Place.c1.eq_2 ..) (
   Owp.bif (fun e6 =>
   Owp.req fun h7 =>
    Owp.bnd fun y8 e9 =>
    Owp.bnd fun y10 e11 =>
    Owp.req fun h12 =>
    fun y hy => loop_back (body_Place.cok k) hmix 2 (body_Place.c1p a0 (iadd .i64 v4 (1 : Int)) (v5 ++ [y10])) [.dec true, .res (.one (.dp T22)) y8, .res (.one (.dp T22)) y10, .dec true] [] [(0, 0), (1, 16)] (via (finP (And.intro (And.intro (And.intro (And.intro (And.intro trivial e6) h7) e9) e11) h12) .normal [(0, 0), (1, 16)] (body_Place.c1p a0 (iadd .i64 v4 (1 : Int)) (v5 ++ [y10]))) (by kernel_rfl)) ((body_Place.c1_ok k a0 n (iadd .i64 v4 (1 : Int)) (v5 ++ [y10])).ap hy)) (fun e6 =>
   Owp.some (loop_exit (body_Place.cok k) hmix [.dec false] [] [(0, 1)] (exne 0) (via (finP (And.intro trivial e6) (.exit 0) [(0, 1)] (body_Place.c1q v5)) (by kernel_rfl)))))
theorem body_Place.way (k : Nat) (a0 : V25) : Owp (body_Place k a0) fun y => ∃ answers cmds, exec PR (body_Place.cx k) body_Place.code 0 (entry (.pair T25 .unit) (a0, ())).st answers (Ret (body_Place.cx k) Try.f36 cmds (.one (.ow T22 23)) y) := by
  unfold body_Place; exact
   Owp.bnd fun y1 e2 =>
   Owp.bif (fun e3 =>
   Owp.some (⟨[.res (.one (.dp T2)) y1, .dec true], [.own 2 T22 23], via (retP (And.intro (And.intro trivial e2) e3) (.one (.ow T22 23)) ([] : (List V22))) (by kernel_rfl)⟩)) (fun e3 =>
   Owp.bnd fun o13 e14 =>
    Owp.some (⟨[.res (.one (.dp T2)) y1, .dec false, .cut ⟨[.own 3 T22 23], [(0, 0), (1, 10)], (body_Place.c1p a0 (0 : Int) []), 2, (.exit 0), (body_Place.c1q o13), 1⟩], [], via (cutP (And.intro (And.intro trivial e2) e3) [(0, 0), (1, 10)] (body_Place.c1p a0 (0 : Int) []) (((body_Place.c1_ok k a0 k (0 : Int) []).ap e14).triple) (retP trivial (.one (.ow T22 23)) (o13 : (List V22)))) (by kernel_rfl)⟩))
theorem body_Place.ok (k : Nat) : FnOk PR 36 (body_Place.sp k) :=
  fn_ok (body_Place.cok k) hmix Try.func36 (code := body_Place.code) (by kernel_rfl) (by kernel_rfl) (by kernel_rfl) rfl (by kernel_rfl) (by kernel_rfl) (by kernel_rfl) (fun x => Nat.le_of_ble_eq_true (by kernel_rfl)) fun x y hy => (body_Place.way k x.1).ap hy

/-! tourney/body.Move -/
noncomputable def body_Move.code : Code := Func.cd Try.f42
def body_Move.c1 (k : Nat) (a1 : Int) (y1 : V25) : Option (Bool) :=
  bnd (body_Check k y1) fun y3 =>
  bif' (ine y3 0)
  (some true)
  (bif' (ieq y1.2.2.2.2.1 0)
   (some true)
   (bif' y1.2.2.2.2.2.2.2.2.2.1
    (some true)
    (bif' (ilt a1 0)
     (some true)
     (some (igt a1 65536)))))
def body_Move (k : Nat) (a0 : V25) (a1 : Int) : Option V25 :=
  bnd (body_own k a0) fun y1 =>
  bnd (body_Move.c1 k a1 y1) fun o9 =>
  bif' o9
  (some y1)
  (bnd (fix_Mul k y1.2.1.1 a1) fun y12 =>
   bnd (body_clamp k (iadd .i64 y1.1.1 y12) 58982400) fun y14 =>
   bnd (fix_Mul k y1.2.1.2.1 a1) fun y16 =>
   bnd (body_clamp k (iadd .i64 y1.1.2.1 y16) 58982400) fun y18 =>
   bnd (fix_Mul k y1.2.2.2.1 a1) fun y20 =>
   some ((y14, y18, ()), y1.2.1, (irem (iadd .i64 (irem (iadd .i64 y1.2.2.1 y20) 65536) 65536) 65536), y1.2.2.2))
noncomputable def body_Move.sp (k : Nat) : Go.Sx.Spec := ⟨(.pair T25 (.pair T2 .unit)), (.one (.dp T25)), fun x => body_Move k x.1 x.2.1, false⟩
noncomputable def body_Move.cx (k : Nat) : Go.Sx.Ctx := ⟨tys, [(80, body_own.sp k), (41, body_Check.sp k), (89, fix_Mul.sp k), (84, body_clamp.sp k)], eqs, 64, false⟩
theorem body_Move.cok (k : Nat) : CtxOk PR (body_Move.cx k) := ctx_ok tysOk eqsOk (FnsOk.cons (body_own.ok k) (FnsOk.cons (body_Check.ok k) (FnsOk.cons (fix_Mul.ok k) (FnsOk.cons (body_clamp.ok k) FnsOk.nil))))
noncomputable def body_Move.c1p (a1 : Int) (y1 : V25) : SL := ⟨[(1, (.val T2 a1)), (2, (.val .ptr ⟨0, 0, (0 : Int), 0, 0⟩)), (4, (.val .ptr ⟨1, 0, (0 : Int), 0, 0⟩))], [(0, .cells T25 y1), (1, .cells T25 (((0 : Int), (0 : Int), ()), ((0 : Int), (0 : Int), ()), (0 : Int), (0 : Int), (0 : Int), (0 : Int), (0 : Int), (0 : Int), [], false, (0 : Int), ()))]⟩
noncomputable def body_Move.c1q (a1 : Int) (y1 : V25) (o : Bool) : SL := (fun v => ⟨[(1, (.val T2 a1)), (2, (.val .ptr ⟨0, 0, (0 : Int), 0, 0⟩)), (4, (.val .ptr ⟨1, 0, (0 : Int), 0, 0⟩)), (26, (.val T4 v))], [(0, .cells T25 y1), (1, .cells T25 (((0 : Int), (0 : Int), ()), ((0 : Int), (0 : Int), ()), (0 : Int), (0 : Int), (0 : Int), (0 : Int), (0 : Int), (0 : Int), [], false, (0 : Int), ()))]⟩) o
noncomputable def body_Move.c1x (o : Bool) : Ex := (fun _ => .normal) o
noncomputable def body_Move.c1n (o : Bool) : Nat := (fun _ => 2) o
theorem body_Move.c1_ok (k : Nat) (a1 : Int) (y1 : V25) : Owp (body_Move.c1 k a1 y1) fun o => Triple PR (body_Move.cx k) (sub body_Move.code [1, 1, 0, 0]) 2 (body_Move.c1p a1 y1) (body_Move.c1x o) (body_Move.c1n o) (body_Move.c1q a1 y1 o) := by
  unfold body_Move.c1; exact
   Owp.bnd fun y3 e4 =>
   Owp.bif (fun e5 =>
   Owp.some (triple_way (body_Move.cok k) hmix [.res (.one (.dp T2)) y3, .dec true, .dec true, .dec true, .dec true, .dec true, .dec true, .dec true, .dec true, .dec true, .dec true, .dec true, .dec true, .dec true] [] [(0, 0), (1, 1)] (via (finP (And.intro (And.intro (And.intro (And.intro (And.intro (And.intro (And.intro (And.intro (And.intro (And.intro (And.intro (And.intro (And.intro (And.intro trivial e4) e5) e5) e5) e5) tt) tt) tt) tt) tt) tt) tt) tt) tt) .normal [(0, 0), (1, 1)] (body_Move.c1q a1 y1 true)) (by kernel_rfl)))) (fun e5 =>
   Owp.bif (fun e6 =>
    Owp.some (triple_way (body_Move.cok k) hmix [.res (.one (.dp T2)) y3, .dec false, .dec false, .dec false, .dec false, .dec true, .dec true, .dec true, .dec true, .dec true, .dec true, .dec true, .dec true, .dec true] [] [(0, 0), (1, 1)] (via (finP (And.intro (And.intro (And.intro (And.intro (And.intro (And.intro (And.intro (And.intro (And.intro (And.intro (And.intro (And.intro (And.intro (And.intro trivial e4) e5) e5) e5) e5) e6) e6) e6) tt) tt) tt) tt) tt) tt) .normal [(0, 0), (1, 1)] (body_Move.c1q a1 y1 true)) (by kernel_rfl)))) (fun e6 =>
    Owp.bif (fun e7 =>
     Owp.some (triple_way (body_Move.cok k) hmix [.res (.one (.dp T2)) y3, .dec false, .dec false, .dec false, .dec false, .dec false, .dec false, .dec false, .dec true, .dec true, .dec true, .dec true, .dec true, .dec true] [] [(0, 0), (1, 1)] (via (finP (And.intro (And.intro (And.intro (And.intro (And.intro (And.intro (And.intro (And.intro (And.intro (And.intro (And.intro (And.intro (And.intro (And.intro trivial e4) e5) e5) e5) e5) e6) e6) e6) e7) e7) e7) tt) tt) tt) .normal [(0, 0), (1, 1)] (body_Move.c1q a1 y1 true)) (by kernel_rfl)))) (fun e7 =>
     Owp.bif (fun e8 =>
      Owp.some (triple_way (body_Move.cok k) hmix [.res (.one (.dp T2)) y3, .dec false, .dec false, .dec false, .dec false, .dec false, .dec false, .dec false, .dec false, .dec false, .dec false, .dec true, .dec true, .dec true] [] [(0, 0), (1, 1)] (via (finP (And.intro (And.intro (And.intro (And.intro (And.intro (And.intro (And.intro (And.intro (And.intro (And.intro (And.intro (And.intro (And.intro (And.intro trivial e4) e5) e5) e5) e5) e6) e6) e6) e7) e7) e7) e8) e8) e8) .normal [(0, 0), (1, 1)] (body_Move.c1q a1 y1 true)) (by kernel_rfl)))) (fun e8 =>
      Owp.some (triple_way (body_Move.cok k) hmix [.res (.one (.dp T2)) y3, .dec false, .dec false, .dec false, .dec false, .dec false, .dec false, .dec false, .dec false, .dec false, .dec false, .dec false, .dec false, .dec false] [] [(0, 0), (1, 1)] (via (finP (And.intro (And.intro (And.intro (And.intro (And.intro (And.intro (And.intro (And.intro (And.intro (And.intro (And.intro (And.intro (And.intro (And.intro trivial e4) e5) e5) e5) e5) e6) e6) e6) e7) e7) e7) e8) e8) e8) .normal [(0, 0), (1, 1)] (body_Move.c1q a1 y1 (igt a1 (65536 : Int)))) (by kernel_rfl)))))))
theorem body_Move.way (k : Nat) (a0 : V25) (a1 : Int) : Owp (body_Move k a0 a1) fun y => ∃ answers cmds, exec PR (body_Move.cx k) body_Move.code 0 (entry (.pair T25 (.pair T2 .unit)) (a0, a1, ())).st answers (Ret (body_Move.cx k) Try.f42 cmds (.one (.dp T25)) y) := by
  unfold body_Move; exact
   Owp.bnd fun y1 e2 =>
   Owp.bnd fun o9 e10 =>
   Owp.bif (fun e11 =>
   Owp.some (⟨[.res (.one (.dp T25)) y1, .cutR 2 ⟨[], [(0, 0), (1, 1)], (body_Move.c1p a1 y1), 2, .normal, (body_Move.c1q a1 y1 o9), 2⟩, .dec true], [], via (cutP (And.intro trivial e2) [(0, 0), (1, 1)] (body_Move.c1p a1 y1) (((body_Move.c1_ok k a1 y1).ap e10)) (retP (And.intro trivial e11) (.one (.dp T25)) (y1 : V25))) (by kernel_rfl)⟩)) (fun e11 =>
   Owp.bnd fun y12 e13 =>
    Owp.bnd fun y14 e15 =>
    Owp.bnd fun y16 e17 =>
    Owp.bnd fun y18 e19 =>
    Owp.bnd fun y20 e21 =>
    Owp.some (⟨[.res (.one (.dp T25)) y1, .cutR 2 ⟨[], [(0, 0), (1, 1)], (body_Move.c1p a1 y1), 2, .normal, (body_Move.c1q a1 y1 o9), 2⟩, .dec false, .res (.one (.dp T2)) y12, .res (.one (.dp T2)) y14, .res (.one (.dp T2)) y16, .res (.one (.dp T2)) y18, .res (.one (.dp T2)) y20], [], via (cutP (And.intro trivial e2) [(0, 0), (1, 1)] (body_Move.c1p a1 y1) (((body_Move.c1_ok k a1 y1).ap e10)) (retP (And.intro (And.intro (And.intro (And.intro (And.intro (And.intro (And.intro (And.intro trivial e11) e13) e15) e17) e19) e21) (by decide : nz (65536 : Int))) (by decide : nz (65536 : Int))) (.one (.dp T25)) (((y14, y18, ()), y1.2.1, (irem (iadd .i64 (irem (iadd .i64 y1.2.2.1 y20) (65536 : Int)) (65536 : Int)) (65536 : Int)), y1.2.2.2) : V25))) (by kernel_rfl)⟩))
theorem body_Move.ok (k : Nat) : FnOk PR 42 (body_Move.sp k) :=
  fn_ok (body_Move.cok k) hmix Try.func42 (code := body_Move.code) (by kernel_rfl) (by kernel_rfl) (by kernel_rfl) rfl (by kernel_rfl) (by kernel_rfl) (by kernel_rfl) (fun x => Nat.le_of_ble_eq_true (by kernel_rfl)) fun x y hy => (body_Move.way k x.1 x.2.1).ap hy

/-! tourney/tourref2.World -/
noncomputable def tourref2_World.code : Code := Func.cd Try.f115
def tourref2_World (k : Nat) (a0 : V25) (a1 : V22) : Option V22 :=
  bnd (vec_Turn k a1 a0.2.2.1) fun y1 =>
  bnd (fix_Add k y1.1 a0.1.1) fun y3 =>
  bnd (fix_Add k y1.2.1 a0.1.2.1) fun y5 =>
  some (y3, y5, ())
noncomputable def tourref2_World.sp (k : Nat) : Go.Sx.Spec := ⟨(.pair T25 (.pair T22 .unit)), (.one (.dp T22)), fun x => tourref2_World k x.1 x.2.1, false⟩
noncomputable def tourref2_World.cx (k : Nat) : Go.Sx.Ctx := ⟨tys, [(106, vec_Turn.sp k), (85, fix_Add.sp k)], eqs, 23, false⟩
theorem tourref2_World.cok (k : Nat) : CtxOk PR (tourref2_World.cx k) := ctx_ok tysOk eqsOk (FnsOk.cons (vec_Turn.ok k) (FnsOk.cons (fix_Add.ok k) FnsOk.nil))
theorem tourref2_World.way (k : Nat) (a0 : V25) (a1 : V22) : Owp (tourref2_World k a0 a1) fun y => ∃ answers cmds, exec PR (tourref2_World.cx k) tourref2_World.code 0 (entry (.pair T25 (.pair T22 .unit)) (a0, a1, ())).st answers (Ret (tourref2_World.cx k) Try.f115 cmds (.one (.dp T22)) y) := by
  unfold tourref2_World; exact
   Owp.bnd fun y1 e2 =>
   Owp.bnd fun y3 e4 =>
   Owp.bnd fun y5 e6 =>
   Owp.some (⟨[.res (.one (.dp T22)) y1, .res (.one (.dp T2)) y3, .res (.one (.dp T2)) y5], [], via (retP (And.intro (And.intro (And.intro trivial e2) e4) e6) (.one (.dp T22)) ((y3, y5, ()) : V22)) (by kernel_rfl)⟩)
theorem tourref2_World.ok (k : Nat) : FnOk PR 115 (tourref2_World.sp k) :=
  fn_ok (tourref2_World.cok k) hmix Try.func115 (code := tourref2_World.code) (by kernel_rfl) (by kernel_rfl) (by kernel_rfl) rfl (by kernel_rfl) (by kernel_rfl) (by kernel_rfl) (fun x => Nat.le_of_ble_eq_true (by kernel_rfl)) fun x y hy => (tourref2_World.way k x.1 x.2.1).ap hy

/-! slices.Clone[[]tourney/api.Body,tourney/api.Body] -/
noncomputable def slices_Clone_153.code : Code := Func.cd Try.f153
def slices_Clone_153 (k : Nat) (a0 : (List V25)) : Option (List V25) :=
  req (room0 120 a0) <|
  some a0
noncomputable def slices_Clone_153.sp (k : Nat) : Go.Sx.Spec := ⟨(.pair (.slice T25) .unit), (.one (.dp (.slice T25))), fun x => slices_Clone_153 k x.1, false⟩
noncomputable def slices_Clone_153.cx (k : Nat) : Go.Sx.Ctx := ⟨tys, [], eqs, 8, false⟩
theorem slices_Clone_153.cok (k : Nat) : CtxOk PR (slices_Clone_153.cx k) := ctx_ok tysOk eqsOk FnsOk.nil
theorem slices_Clone_153.way (k : Nat) (a0 : (List V25)) : Owp (slices_Clone_153 k a0) fun y => ∃ answers cmds, exec PR (slices_Clone_153.cx k) slices_Clone_153.code 0 (entry (.pair (.slice T25) .unit) (a0, ())).st answers (Ret (slices_Clone_153.cx k) Try.f153 cmds (.one (.dp (.slice T25))) y) := by
  unfold slices_Clone_153; exact
   Owp.req fun h1 =>
   Owp.some (⟨[.fork [] [.dec true]], [.deep 2 T25], via (show (List.length a0 = 0 → (True ∧ (True ∧ AV.val (.slice T25) ([] : (List V25)) = AV.val (.slice T25) a0))) ∧ ((True ∧ room0 120 a0) ∧ (True ∧ AV.val (.slice T25) a0 = AV.val (.slice T25) a0)) from ⟨fun h0 => ⟨trivial, trivial, by rw [List.eq_nil_of_length_eq_zero h0]⟩, ⟨trivial, h1⟩, trivial, rfl⟩) (by kernel_rfl)⟩)
theorem slices_Clone_153.ok (k : Nat) : FnOk PR 153 (slices_Clone_153.sp k) :=
  fn_ok (slices_Clone_153.cok k) hmix Try.func153 (code := slices_Clone_153.code) (by kernel_rfl) (by kernel_rfl) (by kernel_rfl) rfl (by kernel_rfl) (by kernel_rfl) (by kernel_rfl) (fun x => Nat.le_of_ble_eq_true (by kernel_rfl)) fun x y hy => (slices_Clone_153.way k x.1).ap hy

/-! slices.EqualFunc[[]tourney/api.Body,[]tourney/api.Body,tourney/api.Body,tourney/api.Body] -/
noncomputable def slices_EqualFunc.code : Code := Func.cd Try.f156
def slices_EqualFunc.c1 (k : Nat) (a0 : (List V25)) (a1 : (List V25)) (a2 : ((V25 × (V25 × Unit)) → Option Bool)) : Nat → Int → Option (Unit ⊕ Unit)
  | 0, _ => none
  | n + 1, v2 =>
   bif' (ilt v2 (len a0))
   (req (inL v2 a0) <|
    req (inL v2 a1) <|
    bnd (a2 ((el Z25 a0 v2), (el Z25 a1 v2), ())) fun y6 =>
    bif' y6
    (slices_EqualFunc.c1 k a0 a1 a2 n (iadd .i64 v2 1))
    (some (.inl ())))
   (some (.inr ()))
def slices_EqualFunc (k : Nat) (a0 : (List V25)) (a1 : (List V25)) (a2 : ((V25 × (V25 × Unit)) → Option Bool)) : Option Bool :=
  bif' (ine (len a0) (len a1))
  (some false)
  (bnd (slices_EqualFunc.c1 k a0 a1 a2 k 0) fun o9 =>
   two o9 (fun y11 =>
   some false) (fun y13 =>
   some true))
noncomputable def slices_EqualFunc.sp (k : Nat) : Go.Sx.Spec := ⟨(.pair (.slice T25) (.pair (.slice T25) (.pair (.fn (.pair T25 (.pair T25 .unit)) T4) .unit))), (.one (.dp T4)), fun x => slices_EqualFunc k x.1 x.2.1 x.2.2.1, false⟩
noncomputable def slices_EqualFunc.cx (k : Nat) : Go.Sx.Ctx := ⟨tys, [], eqs, 32, false⟩
theorem slices_EqualFunc.cok (k : Nat) : CtxOk PR (slices_EqualFunc.cx k) := ctx_ok tysOk eqsOk FnsOk.nil
noncomputable def slices_EqualFunc.c1p (a0 : (List V25)) (a1 : (List V25)) (a2 : ((V25 × (V25 × Unit)) → Option Bool)) (v2 : Int) : SL := ⟨[(1, (.val (.slice T25) a1)), (2, (.val (.fn (.pair T25 (.pair T25 .unit)) T4) a2)), (15, (.val (.slice T25) a0)), (16, (.val T2 (len a0))), (17, (.val T2 v2))], []⟩
noncomputable def slices_EqualFunc.c1q (o : Unit ⊕ Unit) : SL := (fun o => two o (fun v => ⟨[(6, (.val T4 false))], []⟩) (fun v => ⟨[], []⟩)) o
noncomputable def slices_EqualFunc.c1x (o : Unit ⊕ Unit) : Ex := (fun o => two o (fun _ => .ret) (fun _ => (.exit 0))) o
noncomputable def slices_EqualFunc.c1n (o : Unit ⊕ Unit) : Nat := (fun o => two o (fun _ => 0) (fun _ => 0)) o
theorem slices_EqualFunc.c1_ok (k : Nat) (a0 : (List V25)) (a1 : (List V25)) (a2 : ((V25 × (V25 × Unit)) → Option Bool)) : ∀ (n : Nat) (v2 : Int), Owp (slices_EqualFunc.c1 k a0 a1 a2 n v2) fun o => LTriple PR (slices_EqualFunc.cx k) (sub slices_EqualFunc.code [1, 1, 0, 1, 0, 0]) 0 (slices_EqualFunc.c1p a0 a1 a2 v2) (slices_EqualFunc.c1x o) (slices_EqualFunc.c1n o) (slices_EqualFunc.c1q o)
  | 0, _ => fun _ h => nomatch h
  | n + 1, v2 => Owp.of (slices_EqualFunc.c1.eq_2 ..) (
   Owp.bif (fun e3 =>
   Owp.req fun h4 =>
    Owp.req fun h5 =>
    Owp.bnd fun y6 e7 =>
    Owp.bif (fun e8 =>
    fun y hy => loop_back (slices_EqualFunc.cok k) hmix 0 (slices_EqualFunc.c1p a0 a1 a2 (iadd .i64 v2 (1 : Int))) [.dec true, .res (.one (.dp T4)) y6, .dec false] [] [] (via (finP (And.intro (And.intro (And.intro (And.intro (And.intro trivial e3) h4) h5) e7) (congrArg not e8)) .normal [] (slices_EqualFunc.c1p a0 a1 a2 (iadd .i64 v2 (1 : Int)))) (by kernel_rfl)) ((slices_EqualFunc.c1_ok k a0 a1 a2 n (iadd .i64 v2 (1 : Int))).ap hy)) (fun e8 =>
    Owp.some (loop_exit (slices_EqualFunc.cok k) hmix [.dec true, .res (.one (.dp T4)) y6, .dec true] [] [] exne_ret (via (finP (And.intro (And.intro (And.intro (And.intro (And.intro trivial e3) h4) h5) e7) (congrArg not e8)) .ret [] (slices_EqualFunc.c1q (.inl ()))) (by kernel_rfl))))) (fun e3 =>
   Owp.some (loop_exit (slices_EqualFunc.cok k) hmix [.dec false] [] [] (exne 0) (via (finP (And.intro trivial e3) (.exit 0) [] (slices_EqualFunc.c1q (.inr ()))) (by kernel_rfl)))))
theorem slices_EqualFunc.way (k : Nat) (a0 : (List V25)) (a1 : (List V25)) (a2 : ((V25 × (V25 × Unit)) → Option Bool)) : Owp (slices_EqualFunc k a0 a1 a2) fun y => ∃ answers cmds, exec PR (slices_EqualFunc.cx k) slices_EqualFunc.code 0 (entry (.pair (.slice T25) (.pair (.slice T25) (.pair (.fn (.pair T25 (.pair T25 .unit)) T4) .unit))) (a0, a1, a2, ())).st answers (Ret (slices_EqualFunc.cx k) Try.f156 cmds (.one (.dp T4)) y) := by
  unfold slices_EqualFunc; exact
   Owp.bif (fun e1 =>
   Owp.some (⟨[.dec true], [], via (retP (And.intro trivial e1) (.one (.dp T4)) (false : Bool)) (by kernel_rfl)⟩)) (fun e1 =>
   Owp.bnd fun o9 e10 =>
    Owp.two (fun y11 e12 =>
    Owp.some (⟨[.dec false, .cut ⟨[], [], (slices_EqualFunc.c1p a0 a1 a2 (0 : Int)), 0, .ret, (slices_EqualFunc.c1q (.inl ())), 0⟩], [], via (cutP (And.intro trivial e1) [] (slices_EqualFunc.c1p a0 a1 a2 (0 : Int)) (((slices_EqualFunc.c1_ok k a0 a1 a2 k (0 : Int)).ap (e10.trans (congrArg some e12))).triple) (retP trivial (.one (.dp T4)) (false : Bool))) (by kernel_rfl)⟩)) (fun y13 e14 =>
    Owp.some (⟨[.dec false, .cut ⟨[], [], (slices_EqualFunc.c1p a0 a1 a2 (0 : Int)), 0, (.exit 0), (slices_EqualFunc.c1q (.inr ())), 0⟩], [], via (cutP (And.intro trivial e1) [] (slices_EqualFunc.c1p a0 a1 a2 (0 : Int)) (((slices_EqualFunc.c1_ok k a0 a1 a2 k (0 : Int)).ap (e10.trans (congrArg some e14))).triple) (retP trivial (.one (.dp T4)) (true : Bool))) (by kernel_rfl)⟩)))
theorem slices_EqualFunc.ok (k : Nat) : FnOk PR 156 (slices_EqualFunc.sp k) :=
  fn_ok (slices_EqualFunc.cok k) hmix Try.func156 (code := slices_EqualFunc.code) (by kernel_rfl) (by kernel_rfl) (by kernel_rfl) rfl (by kernel_rfl) (by kernel_rfl) (by kernel_rfl) (fun x => Nat.le_of_ble_eq_true (by kernel_rfl)) fun x y hy => (slices_EqualFunc.way k x.1 x.2.1 x.2.2.1).ap hy

end Go.Proofs.T1
