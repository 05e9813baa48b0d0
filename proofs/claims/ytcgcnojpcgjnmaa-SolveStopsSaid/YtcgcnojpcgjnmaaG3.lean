import Derived.Test.YtcgcnojpcgjnmaaG0
import Derived.Test.YtcgcnojpcgjnmaaG1
import Derived.Test.YtcgcnojpcgjnmaaG2
namespace Go.Proofs.T1
open Go Go.Sx Go.Proofs
set_option maxRecDepth 100000
set_option linter.unusedVariables false
/-! tourney/vec.mag -/
noncomputable def vec_mag.code : Code := Func.cd Try.f163
def vec_mag (k : Nat) (a0 : Int) : Option Int :=
  some (icv .u64 (imax a0 (ineg .i64 a0)))
noncomputable def vec_mag.sp (k : Nat) : Go.Sx.Spec := ⟨(.pair T2 .unit), (.one (.dp T12)), fun x => vec_mag k x.1, false⟩
noncomputable def vec_mag.cx (k : Nat) : Go.Sx.Ctx := ⟨tys, [], eqs, 8, 0, [], false⟩
theorem vec_mag.cok (k : Nat) : CtxOk PR (vec_mag.cx k) := ctx_ok tysOk eqsOk FnsOk.nil HsOk.nil
theorem vec_mag.way (k : Nat) (a0 : Int) : Owp (vec_mag k a0) fun y => ∃ answers cmds, exec PR (vec_mag.cx k) vec_mag.code 0 (entry (.pair T2 .unit) (a0, ())).st answers (Ret (vec_mag.cx k) Try.f163 cmds (.one (.dp T12)) y) := by
  unfold vec_mag; exact
   Owp.some (⟨[], [], via (retP trivial (.one (.dp T12)) ((icv .u64 (imax a0 (ineg .i64 a0))) : Int)) (by kernel_rfl)⟩)
theorem vec_mag.ok (k : Nat) : FnOk PR 163 (vec_mag.sp k) :=
  fn_ok (vec_mag.cok k) hmix Try.func163 (code := vec_mag.code) (by kernel_rfl) (by kernel_rfl) (by kernel_rfl) rfl rfl (by kernel_rfl) (by kernel_rfl) (by kernel_rfl) (fun x => Nat.le_of_ble_eq_true (by kernel_rfl)) fun x y hy => (vec_mag.way k x.1).ap hy

/-! tourney/vec.length -/
noncomputable def vec_length.code : Code := Func.cd Try.f136
def vec_length (k : Nat) (a0 : Int) (a1 : Int) : Option Int :=
  bnd (vec_mag k a0) fun y1 =>
  bnd (vec_mag k a0) fun y3 =>
  bnd (bits_Mul64 k y1 y3) fun y5 =>
  bnd (vec_mag k a1) fun y7 =>
  bnd (vec_mag k a1) fun y9 =>
  bnd (bits_Mul64 k y7 y9) fun y11 =>
  bnd (bits_Add64 k y5.2 y11.2 0) fun y13 =>
  bnd (bits_Add64 k y5.1 y11.1 y13.2) fun y15 =>
  bnd (fix_Root k y15.1 y13.1) fun y17 =>
  some (icv .i64 y17)
noncomputable def vec_length.sp (k : Nat) : Go.Sx.Spec := ⟨T22, (.one (.dp T2)), fun x => vec_length k x.1 x.2.1, false⟩
noncomputable def vec_length.cx (k : Nat) : Go.Sx.Ctx := ⟨tys, [(163, vec_mag.sp k), (161, bits_Mul64.sp k), (184, bits_Add64.sp k), (185, fix_Root.sp k)], eqs, 46, 0, [], false⟩
theorem vec_length.cok (k : Nat) : CtxOk PR (vec_length.cx k) := ctx_ok tysOk eqsOk (FnsOk.cons (vec_mag.ok k) (FnsOk.cons (bits_Mul64.ok k) (FnsOk.cons (bits_Add64.ok k) (FnsOk.cons (fix_Root.ok k) FnsOk.nil)))) HsOk.nil
theorem vec_length.way (k : Nat) (a0 : Int) (a1 : Int) : Owp (vec_length k a0 a1) fun y => ∃ answers cmds, exec PR (vec_length.cx k) vec_length.code 0 (entry T22 (a0, a1, ())).st answers (Ret (vec_length.cx k) Try.f136 cmds (.one (.dp T2)) y) := by
  unfold vec_length; exact
   Owp.bnd fun y1 e2 =>
   Owp.bnd fun y3 e4 =>
   Owp.bnd fun y5 e6 =>
   Owp.bnd fun y7 e8 =>
   Owp.bnd fun y9 e10 =>
   Owp.bnd fun y11 e12 =>
   Owp.bnd fun y13 e14 =>
   Owp.bnd fun y15 e16 =>
   Owp.bnd fun y17 e18 =>
   Owp.some (⟨[.res (.one (.dp T12)) y1, .res (.one (.dp T12)) y3, .res (.more (.dp T12) (.one (.dp T12))) y5, .res (.one (.dp T12)) y7, .res (.one (.dp T12)) y9, .res (.more (.dp T12) (.one (.dp T12))) y11, .res (.more (.dp T12) (.one (.dp T12))) y13, .res (.more (.dp T12) (.one (.dp T12))) y15, .res (.one (.dp T12)) y17], [], via (retP (And.intro (And.intro (And.intro (And.intro (And.intro (And.intro (And.intro (And.intro (And.intro trivial e2) e4) e6) e8) e10) e12) e14) e16) e18) (.one (.dp T2)) ((icv .i64 y17) : Int)) (by kernel_rfl)⟩)
theorem vec_length.ok (k : Nat) : FnOk PR 136 (vec_length.sp k) :=
  fn_ok (vec_length.cok k) hmix Try.func136 (code := vec_length.code) (by kernel_rfl) (by kernel_rfl) (by kernel_rfl) rfl rfl (by kernel_rfl) (by kernel_rfl) (by kernel_rfl) (fun x => Nat.le_of_ble_eq_true (by kernel_rfl)) fun x y hy => (vec_length.way k x.1 x.2.1).ap hy

/-! tourney/vec.Cross -/
noncomputable def vec_Cross.code : Code := Func.cd Try.f82
def vec_Cross (k : Nat) (a0 : V22) (a1 : V22) : Option Int :=
  bnd (fix_Mul k a0.1 a1.2.1) fun y1 =>
  bnd (fix_Mul k a0.2.1 a1.1) fun y3 =>
  bnd (fix_Sub k y1 y3) fun y5 =>
  some y5
noncomputable def vec_Cross.sp (k : Nat) : Go.Sx.Spec := ⟨T52, (.one (.dp T2)), fun x => vec_Cross k x.1 x.2.1, false⟩
noncomputable def vec_Cross.cx (k : Nat) : Go.Sx.Ctx := ⟨tys, [(89, fix_Mul.sp k), (90, fix_Sub.sp k)], eqs, 16, 0, [], false⟩
theorem vec_Cross.cok (k : Nat) : CtxOk PR (vec_Cross.cx k) := ctx_ok tysOk eqsOk (FnsOk.cons (fix_Mul.ok k) (FnsOk.cons (fix_Sub.ok k) FnsOk.nil)) HsOk.nil
theorem vec_Cross.way (k : Nat) (a0 : V22) (a1 : V22) : Owp (vec_Cross k a0 a1) fun y => ∃ answers cmds, exec PR (vec_Cross.cx k) vec_Cross.code 0 (entry T52 (a0, a1, ())).st answers (Ret (vec_Cross.cx k) Try.f82 cmds (.one (.dp T2)) y) := by
  unfold vec_Cross; exact
   Owp.bnd fun y1 e2 =>
   Owp.bnd fun y3 e4 =>
   Owp.bnd fun y5 e6 =>
   Owp.some (⟨[.res (.one (.dp T2)) y1, .res (.one (.dp T2)) y3, .res (.one (.dp T2)) y5], [], via (retP (And.intro (And.intro (And.intro trivial e2) e4) e6) (.one (.dp T2)) (y5 : Int)) (by kernel_rfl)⟩)
theorem vec_Cross.ok (k : Nat) : FnOk PR 82 (vec_Cross.sp k) :=
  fn_ok (vec_Cross.cok k) hmix Try.func82 (code := vec_Cross.code) (by kernel_rfl) (by kernel_rfl) (by kernel_rfl) rfl rfl (by kernel_rfl) (by kernel_rfl) (by kernel_rfl) (fun x => Nat.le_of_ble_eq_true (by kernel_rfl)) fun x y hy => (vec_Cross.way k x.1 x.2.1).ap hy

/-! tourney/vec.Sub -/
noncomputable def vec_Sub.code : Code := Func.cd Try.f83
def vec_Sub (k : Nat) (a0 : V22) (a1 : V22) : Option V22 :=
  bnd (fix_Sub k a0.1 a1.1) fun y1 =>
  bnd (fix_Sub k a0.2.1 a1.2.1) fun y3 =>
  some (y1, y3, ())
noncomputable def vec_Sub.sp (k : Nat) : Go.Sx.Spec := ⟨T52, (.one (.dp T22)), fun x => vec_Sub k x.1 x.2.1, false⟩
noncomputable def vec_Sub.cx (k : Nat) : Go.Sx.Ctx := ⟨tys, [(90, fix_Sub.sp k)], eqs, 16, 0, [], false⟩
theorem vec_Sub.cok (k : Nat) : CtxOk PR (vec_Sub.cx k) := ctx_ok tysOk eqsOk (FnsOk.cons (fix_Sub.ok k) FnsOk.nil) HsOk.nil
theorem vec_Sub.way (k : Nat) (a0 : V22) (a1 : V22) : Owp (vec_Sub k a0 a1) fun y => ∃ answers cmds, exec PR (vec_Sub.cx k) vec_Sub.code 0 (entry T52 (a0, a1, ())).st answers (Ret (vec_Sub.cx k) Try.f83 cmds (.one (.dp T22)) y) := by
  unfold vec_Sub; exact
   Owp.bnd fun y1 e2 =>
   Owp.bnd fun y3 e4 =>
   Owp.some (⟨[.res (.one (.dp T2)) y1, .res (.one (.dp T2)) y3], [], via (retP (And.intro (And.intro trivial e2) e4) (.one (.dp T22)) ((y1, y3, ()) : V22)) (by kernel_rfl)⟩)
theorem vec_Sub.ok (k : Nat) : FnOk PR 83 (vec_Sub.sp k) :=
  fn_ok (vec_Sub.cok k) hmix Try.func83 (code := vec_Sub.code) (by kernel_rfl) (by kernel_rfl) (by kernel_rfl) rfl rfl (by kernel_rfl) (by kernel_rfl) (by kernel_rfl) (fun x => Nat.le_of_ble_eq_true (by kernel_rfl)) fun x y hy => (vec_Sub.way k x.1 x.2.1).ap hy

/-! tourney/vec.through -/
noncomputable def vec_through.code : Code := Func.cd Try.f164
def vec_through.c1 (k : Nat) (a0 : Int) (a1 : Int) : Option (Bool) :=
  bif' (ilt (iadd .i64 (imul .i64 (imul .i64 2 a0) 65536) a1) 0)
  (req (nz (imul .i64 2 a1)) <|
   some (ine (irem (iadd .i64 (imul .i64 (imul .i64 2 a0) 65536) a1) (imul .i64 2 a1)) 0))
  (some false)
def vec_through (k : Nat) (a0 : Int) (a1 : Int) : Option Int :=
  req (nz (imul .i64 2 a1)) <|
  bnd (vec_through.c1 k a0 a1) fun o4 =>
  bif' o4
  (some (isub .i64 (iquo .i64 (iadd .i64 (imul .i64 (imul .i64 2 a0) 65536) a1) (imul .i64 2 a1)) 1))
  (some (iquo .i64 (iadd .i64 (imul .i64 (imul .i64 2 a0) 65536) a1) (imul .i64 2 a1)))
noncomputable def vec_through.sp (k : Nat) : Go.Sx.Spec := ⟨T22, (.one (.dp T2)), fun x => vec_through k x.1 x.2.1, false⟩
noncomputable def vec_through.cx (k : Nat) : Go.Sx.Ctx := ⟨tys, [], eqs, 28, 0, [], false⟩
theorem vec_through.cok (k : Nat) : CtxOk PR (vec_through.cx k) := ctx_ok tysOk eqsOk FnsOk.nil HsOk.nil
noncomputable def vec_through.c1p (a0 : Int) (a1 : Int) : SL := ⟨[(1, (.val T2 a1)), (5, (.val T2 (iadd .i64 (imul .i64 (imul .i64 (2 : Int) a0) (65536 : Int)) a1))), (6, (.val T2 (iquo .i64 (iadd .i64 (imul .i64 (imul .i64 (2 : Int) a0) (65536 : Int)) a1) (imul .i64 (2 : Int) a1))))], []⟩
noncomputable def vec_through.c1q (a0 : Int) (a1 : Int) (o : Bool) : SL := (fun v => ⟨[(6, (.val T2 (iquo .i64 (iadd .i64 (imul .i64 (imul .i64 (2 : Int) a0) (65536 : Int)) a1) (imul .i64 (2 : Int) a1)))), (24, (.val T4 v))], []⟩) o
noncomputable def vec_through.c1x (o : Bool) : Ex := (fun _ => .normal) o
noncomputable def vec_through.c1n (o : Bool) : Nat := (fun _ => 0) o
theorem vec_through.c1_ok (k : Nat) (a0 : Int) (a1 : Int) : Owp (vec_through.c1 k a0 a1) fun o => Triple PR (vec_through.cx k) (sub vec_through.code [1, 1, 1, 0, 0]) 0 (vec_through.c1p a0 a1) (vec_through.c1x o) (vec_through.c1n o) (vec_through.c1q a0 a1 o) := by
  unfold vec_through.c1; exact
   Owp.bif (fun e2 =>
   Owp.req fun h3 =>
    Owp.some (triple_way (vec_through.cok k) hmix [.dec true, .dec true, .dec true, .dec true, .dec true, .dec true] [] [] (via (finP (And.intro (And.intro (And.intro (And.intro (And.intro (And.intro trivial e2) e2) e2) (And.intro e2 h3)) e2) e2) .normal [] (vec_through.c1q a0 a1 (ine (irem (iadd .i64 (imul .i64 (imul .i64 (2 : Int) a0) (65536 : Int)) a1) (imul .i64 (2 : Int) a1)) (0 : Int)))) (by kernel_rfl)))) (fun e2 =>
   Owp.some (triple_way (vec_through.cok k) hmix [.dec false, .dec false, .dec false, .dec false, .dec false, .dec false] [] [] (via (finP (And.intro (And.intro (And.intro (And.intro (And.intro (And.intro trivial e2) e2) e2) e2) e2) e2) .normal [] (vec_through.c1q a0 a1 false)) (by kernel_rfl))))
theorem vec_through.way (k : Nat) (a0 : Int) (a1 : Int) : Owp (vec_through k a0 a1) fun y => ∃ answers cmds, exec PR (vec_through.cx k) vec_through.code 0 (entry T22 (a0, a1, ())).st answers (Ret (vec_through.cx k) Try.f164 cmds (.one (.dp T2)) y) := by
  unfold vec_through; exact
   Owp.req fun h1 =>
   Owp.bnd fun o4 e5 =>
   Owp.bif (fun e6 =>
   Owp.some (⟨[.cutR 3 ⟨[], [], (vec_through.c1p a0 a1), 0, .normal, (vec_through.c1q a0 a1 o4), 0⟩, .dec true], [], via (cutP (And.intro trivial h1) [] (vec_through.c1p a0 a1) (((vec_through.c1_ok k a0 a1).ap e5)) (retP (And.intro trivial e6) (.one (.dp T2)) ((isub .i64 (iquo .i64 (iadd .i64 (imul .i64 (imul .i64 (2 : Int) a0) (65536 : Int)) a1) (imul .i64 (2 : Int) a1)) (1 : Int)) : Int))) (by kernel_rfl)⟩)) (fun e6 =>
   Owp.some (⟨[.cutR 3 ⟨[], [], (vec_through.c1p a0 a1), 0, .normal, (vec_through.c1q a0 a1 o4), 0⟩, .dec false], [], via (cutP (And.intro trivial h1) [] (vec_through.c1p a0 a1) (((vec_through.c1_ok k a0 a1).ap e5)) (retP (And.intro trivial e6) (.one (.dp T2)) ((iquo .i64 (iadd .i64 (imul .i64 (imul .i64 (2 : Int) a0) (65536 : Int)) a1) (imul .i64 (2 : Int) a1)) : Int))) (by kernel_rfl)⟩))
theorem vec_through.ok (k : Nat) : FnOk PR 164 (vec_through.sp k) :=
  fn_ok (vec_through.cok k) hmix Try.func164 (code := vec_through.code) (by kernel_rfl) (by kernel_rfl) (by kernel_rfl) rfl rfl (by kernel_rfl) (by kernel_rfl) (by kernel_rfl) (fun x => Nat.le_of_ble_eq_true (by kernel_rfl)) fun x y hy => (vec_through.way k x.1 x.2.1).ap hy

/-! tourney/vec.Unit -/
noncomputable def vec_Unit.code : Code := Func.cd Try.f98
def vec_Unit.c1 (k : Nat) (y1 : Int) (y3 : Int) : Option (Bool) :=
  bif' (ieq y1 0)
  (some (ieq y3 0))
  (some false)
def vec_Unit.c2 (k : Nat) : Nat → Int → Int → Option ((Int × Int))
  | 0, _, _ => none
  | n + 1, v9, v10 =>
   bnd (vec_mag k v9) fun y11 =>
   bnd (vec_mag k v10) fun y13 =>
   bif' (ilt (imax y11 y13) 1073741824)
   (vec_Unit.c2 k n (imul .i64 2 v9) (imul .i64 2 v10))
   (some (v9, v10))
def vec_Unit (k : Nat) (a0 : V22) : Option V22 :=
  bnd (fix_Clamp k a0.1) fun y1 =>
  bnd (fix_Clamp k a0.2.1) fun y3 =>
  bnd (vec_Unit.c1 k y1 y3) fun o6 =>
  bif' o6
  (some (0, 0, ()))
  (bnd (vec_Unit.c2 k k y1 y3) fun o16 =>
   bnd (vec_length k o16.1 o16.2) fun y18 =>
   bnd (vec_through k o16.1 y18) fun y20 =>
   bnd (vec_through k o16.2 y18) fun y22 =>
   some (y20, y22, ()))
noncomputable def vec_Unit.sp (k : Nat) : Go.Sx.Spec := ⟨(.pair T22 .unit), (.one (.dp T22)), fun x => vec_Unit k x.1, false⟩
noncomputable def vec_Unit.cx (k : Nat) : Go.Sx.Ctx := ⟨tys, [(135, fix_Clamp.sp k), (163, vec_mag.sp k), (136, vec_length.sp k), (164, vec_through.sp k)], eqs, 39, 0, [], false⟩
theorem vec_Unit.cok (k : Nat) : CtxOk PR (vec_Unit.cx k) := ctx_ok tysOk eqsOk (FnsOk.cons (fix_Clamp.ok k) (FnsOk.cons (vec_mag.ok k) (FnsOk.cons (vec_length.ok k) (FnsOk.cons (vec_through.ok k) FnsOk.nil)))) HsOk.nil
noncomputable def vec_Unit.c1p (y1 : Int) (y3 : Int) : SL := ⟨[(2, (.val .ptr ⟨0, 0, (0 : Int), 0, 0⟩)), (3, (.val T2 y1)), (4, (.val T2 y3))], [(0, .cells T22 ((0 : Int), (0 : Int), ()))]⟩
noncomputable def vec_Unit.c1q (y1 : Int) (y3 : Int) (o : Bool) : SL := (fun v => ⟨[(2, (.val .ptr ⟨0, 0, (0 : Int), 0, 0⟩)), (3, (.val T2 y1)), (4, (.val T2 y3)), (17, (.val T4 v))], [(0, .cells T22 ((0 : Int), (0 : Int), ()))]⟩) o
noncomputable def vec_Unit.c1x (o : Bool) : Ex := (fun _ => .normal) o
noncomputable def vec_Unit.c1n (o : Bool) : Nat := (fun _ => 1) o
theorem vec_Unit.c1_ok (k : Nat) (y1 : Int) (y3 : Int) : Owp (vec_Unit.c1 k y1 y3) fun o => Triple PR (vec_Unit.cx k) (sub vec_Unit.code [1, 1, 0, 0]) 1 (vec_Unit.c1p y1 y3) (vec_Unit.c1x o) (vec_Unit.c1n o) (vec_Unit.c1q y1 y3 o) := by
  unfold vec_Unit.c1; exact
   Owp.bif (fun e5 =>
   Owp.some (triple_way (vec_Unit.cok k) hmix [.dec true, .dec true, .dec true] [] [(0, 0)] (via (finP (And.intro (And.intro (And.intro trivial e5) e5) e5) .normal [(0, 0)] (vec_Unit.c1q y1 y3 (ieq y3 (0 : Int)))) (by kernel_rfl)))) (fun e5 =>
   Owp.some (triple_way (vec_Unit.cok k) hmix [.dec false, .dec false, .dec false] [] [(0, 0)] (via (finP (And.intro (And.intro (And.intro trivial e5) e5) e5) .normal [(0, 0)] (vec_Unit.c1q y1 y3 false)) (by kernel_rfl))))
noncomputable def vec_Unit.c2p (v9 : Int) (v10 : Int) : SL := ⟨[(2, (.val .ptr ⟨0, 0, (0 : Int), 0, 0⟩)), (3, (.val T2 v9)), (4, (.val T2 v10))], [(0, .cells T22 ((0 : Int), (0 : Int), ()))]⟩
noncomputable def vec_Unit.c2q (o : (Int × Int)) : SL := (fun v => ⟨[(2, (.val .ptr ⟨0, 0, (0 : Int), 0, 0⟩)), (3, (.val T2 v.1)), (4, (.val T2 v.2))], [(0, .cells T22 ((0 : Int), (0 : Int), ()))]⟩) o
noncomputable def vec_Unit.c2x (o : (Int × Int)) : Ex := (fun _ => (.exit 0)) o
noncomputable def vec_Unit.c2n (o : (Int × Int)) : Nat := (fun _ => 1) o
theorem vec_Unit.c2_ok (k : Nat) : ∀ (n : Nat) (v9 : Int) (v10 : Int), Owp (vec_Unit.c2 k n v9 v10) fun o => LTriple PR (vec_Unit.cx k) (sub vec_Unit.code [1, 1, 1, 0, 0, 0]) 1 (vec_Unit.c2p v9 v10) (vec_Unit.c2x o) (vec_Unit.c2n o) (vec_Unit.c2q o)
  | 0, _, _ => fun _ h => nomatch h
  | n + 1, v9, v10 => Owp.of (vec_Unit.c2.eq_2 ..) (
   Owp.bnd fun y11 e12 =>
   Owp.bnd fun y13 e14 =>
   Owp.bif (fun e15 =>
   fun y hy => loop_back (vec_Unit.cok k) hmix 1 (vec_Unit.c2p (imul .i64 (2 : Int) v9) (imul .i64 (2 : Int) v10)) [.res (.one (.dp T12)) y11, .res (.one (.dp T12)) y13, .dec true] [] [(0, 0)] (via (finP (And.intro (And.intro (And.intro trivial e12) e14) e15) .normal [(0, 0)] (vec_Unit.c2p (imul .i64 (2 : Int) v9) (imul .i64 (2 : Int) v10))) (by kernel_rfl)) ((vec_Unit.c2_ok k n (imul .i64 (2 : Int) v9) (imul .i64 (2 : Int) v10)).ap hy)) (fun e15 =>
   Owp.some (loop_exit (vec_Unit.cok k) hmix [.res (.one (.dp T12)) y11, .res (.one (.dp T12)) y13, .dec false] [] [(0, 0)] (exne 0) (via (finP (And.intro (And.intro (And.intro trivial e12) e14) e15) (.exit 0) [(0, 0)] (vec_Unit.c2q (v9, v10))) (by kernel_rfl)))))
theorem vec_Unit.way (k : Nat) (a0 : V22) : Owp (vec_Unit k a0) fun y => ∃ answers cmds, exec PR (vec_Unit.cx k) vec_Unit.code 0 (entry (.pair T22 .unit) (a0, ())).st answers (Ret (vec_Unit.cx k) Try.f98 cmds (.one (.dp T22)) y) := by
  unfold vec_Unit; exact
   Owp.bnd fun y1 e2 =>
   Owp.bnd fun y3 e4 =>
   Owp.bnd fun o6 e7 =>
   Owp.bif (fun e8 =>
   Owp.some (⟨[.res (.one (.dp T2)) y1, .res (.one (.dp T2)) y3, .cutR 2 ⟨[], [(0, 1)], (vec_Unit.c1p y1 y3), 1, .normal, (vec_Unit.c1q y1 y3 o6), 1⟩, .dec true], [], via (cutP (And.intro (And.intro trivial e2) e4) [(0, 1)] (vec_Unit.c1p y1 y3) (((vec_Unit.c1_ok k y1 y3).ap e7)) (retP (And.intro trivial e8) (.one (.dp T22)) (((0 : Int), (0 : Int), ()) : V22))) (by kernel_rfl)⟩)) (fun e8 =>
   Owp.bnd fun o16 e17 =>
    Owp.bnd fun y18 e19 =>
    Owp.bnd fun y20 e21 =>
    Owp.bnd fun y22 e23 =>
    Owp.some (⟨[.res (.one (.dp T2)) y1, .res (.one (.dp T2)) y3, .cutR 2 ⟨[], [(0, 1)], (vec_Unit.c1p y1 y3), 1, .normal, (vec_Unit.c1q y1 y3 o6), 1⟩, .dec false, .cut ⟨[], [(0, 0)], (vec_Unit.c2p y1 y3), 1, (.exit 0), (vec_Unit.c2q o16), 1⟩, .res (.one (.dp T2)) y18, .res (.one (.dp T2)) y20, .res (.one (.dp T2)) y22], [], via (cutP (And.intro (And.intro trivial e2) e4) [(0, 1)] (vec_Unit.c1p y1 y3) (((vec_Unit.c1_ok k y1 y3).ap e7)) (cutP (And.intro trivial e8) [(0, 0)] (vec_Unit.c2p y1 y3) (((vec_Unit.c2_ok k k y1 y3).ap e17).triple) (retP (And.intro (And.intro (And.intro trivial e19) e21) e23) (.one (.dp T22)) ((y20, y22, ()) : V22)))) (by kernel_rfl)⟩))
theorem vec_Unit.ok (k : Nat) : FnOk PR 98 (vec_Unit.sp k) :=
  fn_ok (vec_Unit.cok k) hmix Try.func98 (code := vec_Unit.code) (by kernel_rfl) (by kernel_rfl) (by kernel_rfl) rfl rfl (by kernel_rfl) (by kernel_rfl) (by kernel_rfl) (fun x => Nat.le_of_ble_eq_true (by kernel_rfl)) fun x y hy => (vec_Unit.way k x.1).ap hy

/-! tourney/vec.Add -/
noncomputable def vec_Add.code : Code := Func.cd Try.f105
def vec_Add (k : Nat) (a0 : V22) (a1 : V22) : Option V22 :=
  bnd (fix_Add k a0.1 a1.1) fun y1 =>
  bnd (fix_Add k a0.2.1 a1.2.1) fun y3 =>
  some (y1, y3, ())
noncomputable def vec_Add.sp (k : Nat) : Go.Sx.Spec := ⟨T52, (.one (.dp T22)), fun x => vec_Add k x.1 x.2.1, false⟩
noncomputable def vec_Add.cx (k : Nat) : Go.Sx.Ctx := ⟨tys, [(85, fix_Add.sp k)], eqs, 16, 0, [], false⟩
theorem vec_Add.cok (k : Nat) : CtxOk PR (vec_Add.cx k) := ctx_ok tysOk eqsOk (FnsOk.cons (fix_Add.ok k) FnsOk.nil) HsOk.nil
theorem vec_Add.way (k : Nat) (a0 : V22) (a1 : V22) : Owp (vec_Add k a0 a1) fun y => ∃ answers cmds, exec PR (vec_Add.cx k) vec_Add.code 0 (entry T52 (a0, a1, ())).st answers (Ret (vec_Add.cx k) Try.f105 cmds (.one (.dp T22)) y) := by
  unfold vec_Add; exact
   Owp.bnd fun y1 e2 =>
   Owp.bnd fun y3 e4 =>
   Owp.some (⟨[.res (.one (.dp T2)) y1, .res (.one (.dp T2)) y3], [], via (retP (And.intro (And.intro trivial e2) e4) (.one (.dp T22)) ((y1, y3, ()) : V22)) (by kernel_rfl)⟩)
theorem vec_Add.ok (k : Nat) : FnOk PR 105 (vec_Add.sp k) :=
  fn_ok (vec_Add.cok k) hmix Try.func105 (code := vec_Add.code) (by kernel_rfl) (by kernel_rfl) (by kernel_rfl) rfl rfl (by kernel_rfl) (by kernel_rfl) (by kernel_rfl) (fun x => Nat.le_of_ble_eq_true (by kernel_rfl)) fun x y hy => (vec_Add.way k x.1 x.2.1).ap hy

/-! tourney/trig.table -/
noncomputable def trig_table.code : Code := Func.cd Try.f203
def trig_table (k : Nat) : Option (List Int) :=
  some [0, 1608, 3216, 4821, 6424, 8022, 9616, 11204, 12785, 14359, 15924, 17479, 19024, 20557, 22078, 23586, 25080, 26558, 28020, 29466, 30893, 32303, 33692, 35062, 36410, 37736, 39040, 40320, 41576, 42806, 44011, 45190, 46341, 47464, 48559, 49624, 50660, 51665, 52639, 53581, 54491, 55368, 56212, 57022, 57798, 58538, 59244, 59914, 60547, 61145, 61705, 62228, 62714, 63162, 63572, 63944, 64277, 64571, 64827, 65043, 65220, 65358, 65457, 65516, 65536]
noncomputable def trig_table.sp (k : Nat) : Go.Sx.Spec := ⟨.unit, (.one (.dp (.arr 65 T2))), fun x => trig_table k, false⟩
noncomputable def trig_table.cx (k : Nat) : Go.Sx.Ctx := ⟨tys, [], eqs, 2, 0, [], false⟩
theorem trig_table.cok (k : Nat) : CtxOk PR (trig_table.cx k) := ctx_ok tysOk eqsOk FnsOk.nil HsOk.nil
theorem trig_table.way (k : Nat) : Owp (trig_table k) fun y => ∃ answers cmds, exec PR (trig_table.cx k) trig_table.code 0 (entry .unit ()).st answers (Ret (trig_table.cx k) Try.f203 cmds (.one (.dp (.arr 65 T2))) y) := by
  unfold trig_table; exact
   Owp.some (⟨[], [], via (retP trivial (.one (.dp (.arr 65 T2))) ([(0 : Int), (1608 : Int), (3216 : Int), (4821 : Int), (6424 : Int), (8022 : Int), (9616 : Int), (11204 : Int), (12785 : Int), (14359 : Int), (15924 : Int), (17479 : Int), (19024 : Int), (20557 : Int), (22078 : Int), (23586 : Int), (25080 : Int), (26558 : Int), (28020 : Int), (29466 : Int), (30893 : Int), (32303 : Int), (33692 : Int), (35062 : Int), (36410 : Int), (37736 : Int), (39040 : Int), (40320 : Int), (41576 : Int), (42806 : Int), (44011 : Int), (45190 : Int), (46341 : Int), (47464 : Int), (48559 : Int), (49624 : Int), (50660 : Int), (51665 : Int), (52639 : Int), (53581 : Int), (54491 : Int), (55368 : Int), (56212 : Int), (57022 : Int), (57798 : Int), (58538 : Int), (59244 : Int), (59914 : Int), (60547 : Int), (61145 : Int), (61705 : Int), (62228 : Int), (62714 : Int), (63162 : Int), (63572 : Int), (63944 : Int), (64277 : Int), (64571 : Int), (64827 : Int), (65043 : Int), (65220 : Int), (65358 : Int), (65457 : Int), (65516 : Int), (65536 : Int)] : (List Int))) (by kernel_rfl)⟩)
theorem trig_table.ok (k : Nat) : FnOk PR 203 (trig_table.sp k) :=
  fn_ok (trig_table.cok k) hmix Try.func203 (code := trig_table.code) (by kernel_rfl) (by kernel_rfl) (by kernel_rfl) rfl rfl (by kernel_rfl) (by kernel_rfl) (by kernel_rfl) (fun x => Nat.le_of_ble_eq_true (by kernel_rfl)) fun x y hy => (trig_table.way k).ap hy

/-! tourney/trig.first -/
noncomputable def trig_first.code : Code := Func.cd Try.f199
def trig_first (k : Nat) (a0 : Int) : Option Int :=
  bnd (trig_table k) fun y1 =>
  bif' (ieq (irem a0 256) 0)
  (req (inR (iquo .i64 a0 256) 65) <|
   some (el 0 y1 (iquo .i64 a0 256)))
  (req (inR (iquo .i64 a0 256) 65) <|
   req (inR (iadd .i64 (iquo .i64 a0 256) 1) 65) <|
   some (iadd .i64 (el 0 y1 (iquo .i64 a0 256)) (iquo .i64 (iadd .i64 (imul .i64 (isub .i64 (el 0 y1 (iadd .i64 (iquo .i64 a0 256) 1)) (el 0 y1 (iquo .i64 a0 256))) (irem a0 256)) 128) 256)))
noncomputable def trig_first.sp (k : Nat) : Go.Sx.Spec := ⟨(.pair T2 .unit), (.one (.dp T2)), fun x => trig_first k x.1, false⟩
noncomputable def trig_first.cx (k : Nat) : Go.Sx.Ctx := ⟨tys, [(203, trig_table.sp k)], eqs, 32, 0, [], false⟩
theorem trig_first.cok (k : Nat) : CtxOk PR (trig_first.cx k) := ctx_ok tysOk eqsOk (FnsOk.cons (trig_table.ok k) FnsOk.nil) HsOk.nil
theorem trig_first.way (k : Nat) (a0 : Int) : Owp (trig_first k a0) fun y => ∃ answers cmds, exec PR (trig_first.cx k) trig_first.code 0 (entry (.pair T2 .unit) (a0, ())).st answers (Ret (trig_first.cx k) Try.f199 cmds (.one (.dp T2)) y) := by
  unfold trig_first; exact
   Owp.bnd fun y1 e2 =>
   Owp.bif (fun e3 =>
   Owp.req fun h4 =>
    Owp.some (⟨[.res (.one (.dp (.arr 65 T2))) y1, .dec true], [], via (retP (And.intro (And.intro (And.intro (And.intro (And.intro (And.intro trivial e2) (by decide : nz (256 : Int))) (by decide : nz (256 : Int))) e3) h4) h4) (.one (.dp T2)) ((el (0 : Int) y1 (iquo .i64 a0 (256 : Int))) : Int)) (by kernel_rfl)⟩)) (fun e3 =>
   Owp.req fun h5 =>
    Owp.req fun h6 =>
    Owp.some (⟨[.res (.one (.dp (.arr 65 T2))) y1, .dec false], [], via (retP (And.intro (And.intro (And.intro (And.intro (And.intro (And.intro (And.intro (And.intro (And.intro (And.intro (And.intro trivial e2) (by decide : nz (256 : Int))) (by decide : nz (256 : Int))) e3) h5) h5) h6) h6) h5) h5) (by decide : nz (256 : Int))) (.one (.dp T2)) ((iadd .i64 (el (0 : Int) y1 (iquo .i64 a0 (256 : Int))) (iquo .i64 (iadd .i64 (imul .i64 (isub .i64 (el (0 : Int) y1 (iadd .i64 (iquo .i64 a0 (256 : Int)) (1 : Int))) (el (0 : Int) y1 (iquo .i64 a0 (256 : Int)))) (irem a0 (256 : Int))) (128 : Int)) (256 : Int))) : Int)) (by kernel_rfl)⟩))
theorem trig_first.ok (k : Nat) : FnOk PR 199 (trig_first.sp k) :=
  fn_ok (trig_first.cok k) hmix Try.func199 (code := trig_first.code) (by kernel_rfl) (by kernel_rfl) (by kernel_rfl) rfl rfl (by kernel_rfl) (by kernel_rfl) (by kernel_rfl) (fun x => Nat.le_of_ble_eq_true (by kernel_rfl)) fun x y hy => (trig_first.way k x.1).ap hy

/-! tourney/trig.Sin -/
noncomputable def trig_Sin.code : Code := Func.cd Try.f170
def trig_Sin (k : Nat) (a0 : Int) : Option Int :=
  bif' (ieq (iquo .i64 (ibits .and .i64 a0 65535) 16384) 0)
  (bnd (trig_first k (irem (ibits .and .i64 a0 65535) 16384)) fun y2 =>
   some y2)
  (bif' (ieq (iquo .i64 (ibits .and .i64 a0 65535) 16384) 1)
   (bnd (trig_first k (isub .i64 16384 (irem (ibits .and .i64 a0 65535) 16384))) fun y5 =>
    some y5)
   (bif' (ieq (iquo .i64 (ibits .and .i64 a0 65535) 16384) 2)
    (bnd (trig_first k (irem (ibits .and .i64 a0 65535) 16384)) fun y8 =>
     some (ineg .i64 y8))
    (bnd (trig_first k (isub .i64 16384 (irem (ibits .and .i64 a0 65535) 16384))) fun y10 =>
     some (ineg .i64 y10))))
noncomputable def trig_Sin.sp (k : Nat) : Go.Sx.Spec := ⟨(.pair T2 .unit), (.one (.dp T2)), fun x => trig_Sin k x.1, false⟩
noncomputable def trig_Sin.cx (k : Nat) : Go.Sx.Ctx := ⟨tys, [(199, trig_first.sp k)], eqs, 28, 0, [], false⟩
theorem trig_Sin.cok (k : Nat) : CtxOk PR (trig_Sin.cx k) := ctx_ok tysOk eqsOk (FnsOk.cons (trig_first.ok k) FnsOk.nil) HsOk.nil
theorem trig_Sin.way (k : Nat) (a0 : Int) : Owp (trig_Sin k a0) fun y => ∃ answers cmds, exec PR (trig_Sin.cx k) trig_Sin.code 0 (entry (.pair T2 .unit) (a0, ())).st answers (Ret (trig_Sin.cx k) Try.f170 cmds (.one (.dp T2)) y) := by
  unfold trig_Sin; exact
   Owp.bif (fun e1 =>
   Owp.bnd fun y2 e3 =>
    Owp.some (⟨[.dec true, .res (.one (.dp T2)) y2], [], via (retP (And.intro (And.intro (And.intro (And.intro trivial (by decide : nz (16384 : Int))) (by decide : nz (16384 : Int))) e1) e3) (.one (.dp T2)) (y2 : Int)) (by kernel_rfl)⟩)) (fun e1 =>
   Owp.bif (fun e4 =>
    Owp.bnd fun y5 e6 =>
     Owp.some (⟨[.dec false, .dec true, .res (.one (.dp T2)) y5], [], via (retP (And.intro (And.intro (And.intro (And.intro (And.intro trivial (by decide : nz (16384 : Int))) (by decide : nz (16384 : Int))) e1) e4) e6) (.one (.dp T2)) (y5 : Int)) (by kernel_rfl)⟩)) (fun e4 =>
    Owp.bif (fun e7 =>
     Owp.bnd fun y8 e9 =>
      Owp.some (⟨[.dec false, .dec false, .dec true, .res (.one (.dp T2)) y8], [], via (retP (And.intro (And.intro (And.intro (And.intro (And.intro (And.intro trivial (by decide : nz (16384 : Int))) (by decide : nz (16384 : Int))) e1) e4) e7) e9) (.one (.dp T2)) ((ineg .i64 y8) : Int)) (by kernel_rfl)⟩)) (fun e7 =>
     Owp.bnd fun y10 e11 =>
      Owp.some (⟨[.dec false, .dec false, .dec false, .res (.one (.dp T2)) y10], [], via (retP (And.intro (And.intro (And.intro (And.intro (And.intro (And.intro trivial (by decide : nz (16384 : Int))) (by decide : nz (16384 : Int))) e1) e4) e7) e11) (.one (.dp T2)) ((ineg .i64 y10) : Int)) (by kernel_rfl)⟩))))
theorem trig_Sin.ok (k : Nat) : FnOk PR 170 (trig_Sin.sp k) :=
  fn_ok (trig_Sin.cok k) hmix Try.func170 (code := trig_Sin.code) (by kernel_rfl) (by kernel_rfl) (by kernel_rfl) rfl rfl (by kernel_rfl) (by kernel_rfl) (by kernel_rfl) (fun x => Nat.le_of_ble_eq_true (by kernel_rfl)) fun x y hy => (trig_Sin.way k x.1).ap hy

/-! tourney/trig.Cos -/
noncomputable def trig_Cos.code : Code := Func.cd Try.f169
def trig_Cos (k : Nat) (a0 : Int) : Option Int :=
  bnd (trig_Sin k (iadd .i64 (ibits .and .i64 a0 65535) 16384)) fun y1 =>
  some y1
noncomputable def trig_Cos.sp (k : Nat) : Go.Sx.Spec := ⟨(.pair T2 .unit), (.one (.dp T2)), fun x => trig_Cos k x.1, false⟩
noncomputable def trig_Cos.cx (k : Nat) : Go.Sx.Ctx := ⟨tys, [(170, trig_Sin.sp k)], eqs, 7, 0, [], false⟩
theorem trig_Cos.cok (k : Nat) : CtxOk PR (trig_Cos.cx k) := ctx_ok tysOk eqsOk (FnsOk.cons (trig_Sin.ok k) FnsOk.nil) HsOk.nil
theorem trig_Cos.way (k : Nat) (a0 : Int) : Owp (trig_Cos k a0) fun y => ∃ answers cmds, exec PR (trig_Cos.cx k) trig_Cos.code 0 (entry (.pair T2 .unit) (a0, ())).st answers (Ret (trig_Cos.cx k) Try.f169 cmds (.one (.dp T2)) y) := by
  unfold trig_Cos; exact
   Owp.bnd fun y1 e2 =>
   Owp.some (⟨[.res (.one (.dp T2)) y1], [], via (retP (And.intro trivial e2) (.one (.dp T2)) (y1 : Int)) (by kernel_rfl)⟩)
theorem trig_Cos.ok (k : Nat) : FnOk PR 169 (trig_Cos.sp k) :=
  fn_ok (trig_Cos.cok k) hmix Try.func169 (code := trig_Cos.code) (by kernel_rfl) (by kernel_rfl) (by kernel_rfl) rfl rfl (by kernel_rfl) (by kernel_rfl) (by kernel_rfl) (fun x => Nat.le_of_ble_eq_true (by kernel_rfl)) fun x y hy => (trig_Cos.way k x.1).ap hy

/-! tourney/vec.Turn -/
noncomputable def vec_Turn.code : Code := Func.cd Try.f106
def vec_Turn (k : Nat) (a0 : V22) (a1 : Int) : Option V22 :=
  bnd (trig_Cos k a1) fun y1 =>
  bnd (trig_Sin k a1) fun y3 =>
  bnd (fix_Mul k a0.1 y1) fun y5 =>
  bnd (fix_Mul k a0.2.1 y3) fun y7 =>
  bnd (fix_Sub k y5 y7) fun y9 =>
  bnd (fix_Mul k a0.1 y3) fun y11 =>
  bnd (fix_Mul k a0.2.1 y1) fun y13 =>
  bnd (fix_Add k y11 y13) fun y15 =>
  some (y9, y15, ())
noncomputable def vec_Turn.sp (k : Nat) : Go.Sx.Spec := ⟨(.pair T22 (.pair T2 .unit)), (.one (.dp T22)), fun x => vec_Turn k x.1 x.2.1, false⟩
noncomputable def vec_Turn.cx (k : Nat) : Go.Sx.Ctx := ⟨tys, [(169, trig_Cos.sp k), (170, trig_Sin.sp k), (89, fix_Mul.sp k), (90, fix_Sub.sp k), (85, fix_Add.sp k)], eqs, 30, 0, [], false⟩
theorem vec_Turn.cok (k : Nat) : CtxOk PR (vec_Turn.cx k) := ctx_ok tysOk eqsOk (FnsOk.cons (trig_Cos.ok k) (FnsOk.cons (trig_Sin.ok k) (FnsOk.cons (fix_Mul.ok k) (FnsOk.cons (fix_Sub.ok k) (FnsOk.cons (fix_Add.ok k) FnsOk.nil))))) HsOk.nil
theorem vec_Turn.way (k : Nat) (a0 : V22) (a1 : Int) : Owp (vec_Turn k a0 a1) fun y => ∃ answers cmds, exec PR (vec_Turn.cx k) vec_Turn.code 0 (entry (.pair T22 (.pair T2 .unit)) (a0, a1, ())).st answers (Ret (vec_Turn.cx k) Try.f106 cmds (.one (.dp T22)) y) := by
  unfold vec_Turn; exact
   Owp.bnd fun y1 e2 =>
   Owp.bnd fun y3 e4 =>
   Owp.bnd fun y5 e6 =>
   Owp.bnd fun y7 e8 =>
   Owp.bnd fun y9 e10 =>
   Owp.bnd fun y11 e12 =>
   Owp.bnd fun y13 e14 =>
   Owp.bnd fun y15 e16 =>
   Owp.some (⟨[.res (.one (.dp T2)) y1, .res (.one (.dp T2)) y3, .res (.one (.dp T2)) y5, .res (.one (.dp T2)) y7, .res (.one (.dp T2)) y9, .res (.one (.dp T2)) y11, .res (.one (.dp T2)) y13, .res (.one (.dp T2)) y15], [], via (retP (And.intro (And.intro (And.intro (And.intro (And.intro (And.intro (And.intro (And.intro trivial e2) e4) e6) e8) e10) e12) e14) e16) (.one (.dp T22)) ((y9, y15, ()) : V22)) (by kernel_rfl)⟩)
theorem vec_Turn.ok (k : Nat) : FnOk PR 106 (vec_Turn.sp k) :=
  fn_ok (vec_Turn.cok k) hmix Try.func106 (code := vec_Turn.code) (by kernel_rfl) (by kernel_rfl) (by kernel_rfl) rfl rfl (by kernel_rfl) (by kernel_rfl) (by kernel_rfl) (fun x => Nat.le_of_ble_eq_true (by kernel_rfl)) fun x y hy => (vec_Turn.way k x.1 x.2.1).ap hy

/-! tourney/vec.Scale -/
noncomputable def vec_Scale.code : Code := Func.cd Try.f132
def vec_Scale (k : Nat) (a0 : V22) (a1 : Int) : Option V22 :=
  bnd (fix_Mul k a0.1 a1) fun y1 =>
  bnd (fix_Mul k a0.2.1 a1) fun y3 =>
  some (y1, y3, ())
noncomputable def vec_Scale.sp (k : Nat) : Go.Sx.Spec := ⟨(.pair T22 (.pair T2 .unit)), (.one (.dp T22)), fun x => vec_Scale k x.1 x.2.1, false⟩
noncomputable def vec_Scale.cx (k : Nat) : Go.Sx.Ctx := ⟨tys, [(89, fix_Mul.sp k)], eqs, 14, 0, [], false⟩
theorem vec_Scale.cok (k : Nat) : CtxOk PR (vec_Scale.cx k) := ctx_ok tysOk eqsOk (FnsOk.cons (fix_Mul.ok k) FnsOk.nil) HsOk.nil
theorem vec_Scale.way (k : Nat) (a0 : V22) (a1 : Int) : Owp (vec_Scale k a0 a1) fun y => ∃ answers cmds, exec PR (vec_Scale.cx k) vec_Scale.code 0 (entry (.pair T22 (.pair T2 .unit)) (a0, a1, ())).st answers (Ret (vec_Scale.cx k) Try.f132 cmds (.one (.dp T22)) y) := by
  unfold vec_Scale; exact
   Owp.bnd fun y1 e2 =>
   Owp.bnd fun y3 e4 =>
   Owp.some (⟨[.res (.one (.dp T2)) y1, .res (.one (.dp T2)) y3], [], via (retP (And.intro (And.intro trivial e2) e4) (.one (.dp T22)) ((y1, y3, ()) : V22)) (by kernel_rfl)⟩)
theorem vec_Scale.ok (k : Nat) : FnOk PR 132 (vec_Scale.sp k) :=
  fn_ok (vec_Scale.cok k) hmix Try.func132 (code := vec_Scale.code) (by kernel_rfl) (by kernel_rfl) (by kernel_rfl) rfl rfl (by kernel_rfl) (by kernel_rfl) (by kernel_rfl) (fun x => Nat.le_of_ble_eq_true (by kernel_rfl)) fun x y hy => (vec_Scale.way k x.1 x.2.1).ap hy

/-! tourney/vec.Dot -/
noncomputable def vec_Dot.code : Code := Func.cd Try.f182
def vec_Dot (k : Nat) (a0 : V22) (a1 : V22) : Option Int :=
  bnd (fix_Mul k a0.1 a1.1) fun y1 =>
  bnd (fix_Mul k a0.2.1 a1.2.1) fun y3 =>
  bnd (fix_Add k y1 y3) fun y5 =>
  some y5
noncomputable def vec_Dot.sp (k : Nat) : Go.Sx.Spec := ⟨T52, (.one (.dp T2)), fun x => vec_Dot k x.1 x.2.1, false⟩
noncomputable def vec_Dot.cx (k : Nat) : Go.Sx.Ctx := ⟨tys, [(89, fix_Mul.sp k), (85, fix_Add.sp k)], eqs, 16, 0, [], false⟩
theorem vec_Dot.cok (k : Nat) : CtxOk PR (vec_Dot.cx k) := ctx_ok tysOk eqsOk (FnsOk.cons (fix_Mul.ok k) (FnsOk.cons (fix_Add.ok k) FnsOk.nil)) HsOk.nil
theorem vec_Dot.way (k : Nat) (a0 : V22) (a1 : V22) : Owp (vec_Dot k a0 a1) fun y => ∃ answers cmds, exec PR (vec_Dot.cx k) vec_Dot.code 0 (entry T52 (a0, a1, ())).st answers (Ret (vec_Dot.cx k) Try.f182 cmds (.one (.dp T2)) y) := by
  unfold vec_Dot; exact
   Owp.bnd fun y1 e2 =>
   Owp.bnd fun y3 e4 =>
   Owp.bnd fun y5 e6 =>
   Owp.some (⟨[.res (.one (.dp T2)) y1, .res (.one (.dp T2)) y3, .res (.one (.dp T2)) y5], [], via (retP (And.intro (And.intro (And.intro trivial e2) e4) e6) (.one (.dp T2)) (y5 : Int)) (by kernel_rfl)⟩)
theorem vec_Dot.ok (k : Nat) : FnOk PR 182 (vec_Dot.sp k) :=
  fn_ok (vec_Dot.cok k) hmix Try.func182 (code := vec_Dot.code) (by kernel_rfl) (by kernel_rfl) (by kernel_rfl) rfl rfl (by kernel_rfl) (by kernel_rfl) (by kernel_rfl) (fun x => Nat.le_of_ble_eq_true (by kernel_rfl)) fun x y hy => (vec_Dot.way k x.1 x.2.1).ap hy

/-! tourney/tourref2.coord -/
noncomputable def tourref2_coord.code : Code := Func.cd Try.f87
def tourref2_coord (k : Nat) (a0 : V22) (a1 : Int) : Option Bool :=
  bif' (ige a0.1 (ineg .i64 a1))
  (bif' (ile a0.1 a1)
   (bif' (ige a0.2.1 (ineg .i64 a1))
    (some (ile a0.2.1 a1))
    (some false))
   (some false))
  (some false)
noncomputable def tourref2_coord.sp (k : Nat) : Go.Sx.Spec := ⟨(.pair T22 (.pair T2 .unit)), (.one (.dp T4)), fun x => tourref2_coord k x.1 x.2.1, false⟩
noncomputable def tourref2_coord.cx (k : Nat) : Go.Sx.Ctx := ⟨tys, [], eqs, 29, 0, [], false⟩
theorem tourref2_coord.cok (k : Nat) : CtxOk PR (tourref2_coord.cx k) := ctx_ok tysOk eqsOk FnsOk.nil HsOk.nil
theorem tourref2_coord.way (k : Nat) (a0 : V22) (a1 : Int) : Owp (tourref2_coord k a0 a1) fun y => ∃ answers cmds, exec PR (tourref2_coord.cx k) tourref2_coord.code 0 (entry (.pair T22 (.pair T2 .unit)) (a0, a1, ())).st answers (Ret (tourref2_coord.cx k) Try.f87 cmds (.one (.dp T4)) y) := by
  unfold tourref2_coord; exact
   Owp.bif (fun e1 =>
   Owp.bif (fun e2 =>
    Owp.bif (fun e3 =>
     Owp.some (⟨[.dec true, .dec true, .dec true, .dec true, .dec true, .dec true, .dec true, .dec true, .dec true, .dec true, .dec true, .dec true, .dec true, .dec true, .dec true, .dec true], [], via (retP (And.intro (And.intro (And.intro (And.intro (And.intro (And.intro (And.intro (And.intro (And.intro (And.intro (And.intro (And.intro (And.intro (And.intro (And.intro (And.intro trivial e1) e1) e1) e1) e1) e2) e2) e2) e2) e2) e2) e3) e3) e3) e3) e3) (.one (.dp T4)) ((ile a0.2.1 a1) : Bool)) (by kernel_rfl)⟩)) (fun e3 =>
     Owp.some (⟨[.dec true, .dec true, .dec true, .dec true, .dec true, .dec true, .dec true, .dec true, .dec true, .dec true, .dec true, .dec false, .dec false, .dec false, .dec false, .dec false], [], via (retP (And.intro (And.intro (And.intro (And.intro (And.intro (And.intro (And.intro (And.intro (And.intro (And.intro (And.intro (And.intro (And.intro (And.intro (And.intro (And.intro trivial e1) e1) e1) e1) e1) e2) e2) e2) e2) e2) e2) e3) e3) e3) e3) e3) (.one (.dp T4)) (false : Bool)) (by kernel_rfl)⟩))) (fun e2 =>
    Owp.some (⟨[.dec true, .dec true, .dec true, .dec true, .dec true, .dec false, .dec false, .dec false, .dec false, .dec false, .dec false, .dec false, .dec false, .dec false, .dec false, .dec false], [], via (retP (And.intro (And.intro (And.intro (And.intro (And.intro (And.intro (And.intro (And.intro (And.intro (And.intro (And.intro (And.intro (And.intro (And.intro (And.intro (And.intro trivial e1) e1) e1) e1) e1) e2) e2) e2) e2) e2) e2) ff) ff) ff) ff) ff) (.one (.dp T4)) (false : Bool)) (by kernel_rfl)⟩))) (fun e1 =>
   Owp.some (⟨[.dec false, .dec false, .dec false, .dec false, .dec false, .dec false, .dec false, .dec false, .dec false, .dec false, .dec false, .dec false, .dec false, .dec false, .dec false, .dec false], [], via (retP (And.intro (And.intro (And.intro (And.intro (And.intro (And.intro (And.intro (And.intro (And.intro (And.intro (And.intro (And.intro (And.intro (And.intro (And.intro (And.intro trivial e1) e1) e1) e1) e1) ff) ff) ff) ff) ff) ff) ff) ff) ff) ff) ff) (.one (.dp T4)) (false : Bool)) (by kernel_rfl)⟩))
theorem tourref2_coord.ok (k : Nat) : FnOk PR 87 (tourref2_coord.sp k) :=
  fn_ok (tourref2_coord.cok k) hmix Try.func87 (code := tourref2_coord.code) (by kernel_rfl) (by kernel_rfl) (by kernel_rfl) rfl rfl (by kernel_rfl) (by kernel_rfl) (by kernel_rfl) (fun x => Nat.le_of_ble_eq_true (by kernel_rfl)) fun x y hy => (tourref2_coord.way k x.1 x.2.1).ap hy

/-! tourney/tourref2.sub -/
noncomputable def tourref2_sub.code : Code := Func.cd Try.f102
def tourref2_sub (k : Nat) (a0 : V22) (a1 : V22) : Option V22 :=
  some ((isub .i64 a0.1 a1.1), (isub .i64 a0.2.1 a1.2.1), ())
noncomputable def tourref2_sub.sp (k : Nat) : Go.Sx.Spec := ⟨T52, (.one (.dp T22)), fun x => tourref2_sub k x.1 x.2.1, false⟩
noncomputable def tourref2_sub.cx (k : Nat) : Go.Sx.Ctx := ⟨tys, [], eqs, 16, 0, [], false⟩
theorem tourref2_sub.cok (k : Nat) : CtxOk PR (tourref2_sub.cx k) := ctx_ok tysOk eqsOk FnsOk.nil HsOk.nil
theorem tourref2_sub.way (k : Nat) (a0 : V22) (a1 : V22) : Owp (tourref2_sub k a0 a1) fun y => ∃ answers cmds, exec PR (tourref2_sub.cx k) tourref2_sub.code 0 (entry T52 (a0, a1, ())).st answers (Ret (tourref2_sub.cx k) Try.f102 cmds (.one (.dp T22)) y) := by
  unfold tourref2_sub; exact
   Owp.some (⟨[], [], via (retP trivial (.one (.dp T22)) (((isub .i64 a0.1 a1.1), (isub .i64 a0.2.1 a1.2.1), ()) : V22)) (by kernel_rfl)⟩)
theorem tourref2_sub.ok (k : Nat) : FnOk PR 102 (tourref2_sub.sp k) :=
  fn_ok (tourref2_sub.cok k) hmix Try.func102 (code := tourref2_sub.code) (by kernel_rfl) (by kernel_rfl) (by kernel_rfl) rfl rfl (by kernel_rfl) (by kernel_rfl) (by kernel_rfl) (fun x => Nat.le_of_ble_eq_true (by kernel_rfl)) fun x y hy => (tourref2_sub.way k x.1 x.2.1).ap hy

/-! tourney/tourref2.Cross -/
noncomputable def tourref2_Cross.code : Code := Func.cd Try.f158
def tourref2_Cross (k : Nat) (a0 : V22) (a1 : V22) : Option (List Int) :=
  bnd (tourref2_Of k a0.1) fun y1 =>
  bnd (tourref2_Of k a1.2.1) fun y3 =>
  bnd (tourref2_Big_Mul k y1 y3) fun y5 =>
  bnd (tourref2_Of k a0.2.1) fun y7 =>
  bnd (tourref2_Of k a1.1) fun y9 =>
  bnd (tourref2_Big_Mul k y7 y9) fun y11 =>
  bnd (tourref2_Big_Sub k y5 y11) fun y13 =>
  some y13
noncomputable def tourref2_Cross.sp (k : Nat) : Go.Sx.Spec := ⟨T52, (.one (.dp T134)), fun x => tourref2_Cross k x.1 x.2.1, false⟩
noncomputable def tourref2_Cross.cx (k : Nat) : Go.Sx.Ctx := ⟨tys, [(159, tourref2_Of.sp k), (177, tourref2_Big_Mul.sp k), (189, tourref2_Big_Sub.sp k)], eqs, 20, 0, [], false⟩
theorem tourref2_Cross.cok (k : Nat) : CtxOk PR (tourref2_Cross.cx k) := ctx_ok tysOk eqsOk (FnsOk.cons (tourref2_Of.ok k) (FnsOk.cons (tourref2_Big_Mul.ok k) (FnsOk.cons (tourref2_Big_Sub.ok k) FnsOk.nil))) HsOk.nil
theorem tourref2_Cross.way (k : Nat) (a0 : V22) (a1 : V22) : Owp (tourref2_Cross k a0 a1) fun y => ∃ answers cmds, exec PR (tourref2_Cross.cx k) tourref2_Cross.code 0 (entry T52 (a0, a1, ())).st answers (Ret (tourref2_Cross.cx k) Try.f158 cmds (.one (.dp T134)) y) := by
  unfold tourref2_Cross; exact
   Owp.bnd fun y1 e2 =>
   Owp.bnd fun y3 e4 =>
   Owp.bnd fun y5 e6 =>
   Owp.bnd fun y7 e8 =>
   Owp.bnd fun y9 e10 =>
   Owp.bnd fun y11 e12 =>
   Owp.bnd fun y13 e14 =>
   Owp.some (⟨[.res (.one (.dp T134)) y1, .res (.one (.dp T134)) y3, .res (.one (.dp T134)) y5, .res (.one (.dp T134)) y7, .res (.one (.dp T134)) y9, .res (.one (.dp T134)) y11, .res (.one (.dp T134)) y13], [], via (retP (And.intro (And.intro (And.intro (And.intro (And.intro (And.intro (And.intro trivial e2) e4) e6) e8) e10) e12) e14) (.one (.dp T134)) (y13 : (List Int))) (by kernel_rfl)⟩)
theorem tourref2_Cross.ok (k : Nat) : FnOk PR 158 (tourref2_Cross.sp k) :=
  fn_ok (tourref2_Cross.cok k) hmix Try.func158 (code := tourref2_Cross.code) (by kernel_rfl) (by kernel_rfl) (by kernel_rfl) rfl rfl (by kernel_rfl) (by kernel_rfl) (by kernel_rfl) (fun x => Nat.le_of_ble_eq_true (by kernel_rfl)) fun x y hy => (tourref2_Cross.way k x.1 x.2.1).ap hy

/-! tourney/tourref2.left -/
noncomputable def tourref2_left.code : Code := Func.cd Try.f124
def tourref2_left (k : Nat) (a0 : V22) (a1 : V22) (a2 : V22) : Option Int :=
  bnd (tourref2_sub k a1 a0) fun y1 =>
  bnd (tourref2_sub k a2 a0) fun y3 =>
  bnd (tourref2_Cross k y1 y3) fun y5 =>
  bnd (tourref2_Big_Cmp k y5 (List.replicate 8 0)) fun y7 =>
  some y7
noncomputable def tourref2_left.sp (k : Nat) : Go.Sx.Spec := ⟨(.pair T22 T52), (.one (.dp T2)), fun x => tourref2_left k x.1 x.2.1 x.2.2.1, false⟩
noncomputable def tourref2_left.cx (k : Nat) : Go.Sx.Ctx := ⟨tys, [(102, tourref2_sub.sp k), (158, tourref2_Cross.sp k), (126, tourref2_Big_Cmp.sp k)], eqs, 16, 0, [], false⟩
theorem tourref2_left.cok (k : Nat) : CtxOk PR (tourref2_left.cx k) := ctx_ok tysOk eqsOk (FnsOk.cons (tourref2_sub.ok k) (FnsOk.cons (tourref2_Cross.ok k) (FnsOk.cons (tourref2_Big_Cmp.ok k) FnsOk.nil))) HsOk.nil
theorem tourref2_left.way (k : Nat) (a0 : V22) (a1 : V22) (a2 : V22) : Owp (tourref2_left k a0 a1 a2) fun y => ∃ answers cmds, exec PR (tourref2_left.cx k) tourref2_left.code 0 (entry (.pair T22 T52) (a0, a1, a2, ())).st answers (Ret (tourref2_left.cx k) Try.f124 cmds (.one (.dp T2)) y) := by
  unfold tourref2_left; exact
   Owp.bnd fun y1 e2 =>
   Owp.bnd fun y3 e4 =>
   Owp.bnd fun y5 e6 =>
   Owp.bnd fun y7 e8 =>
   Owp.some (⟨[.res (.one (.dp T22)) y1, .res (.one (.dp T22)) y3, .res (.one (.dp T134)) y5, .res (.one (.dp T2)) y7], [], via (retP (And.intro (And.intro (And.intro (And.intro trivial e2) e4) e6) e8) (.one (.dp T2)) (y7 : Int)) (by kernel_rfl)⟩)
theorem tourref2_left.ok (k : Nat) : FnOk PR 124 (tourref2_left.sp k) :=
  fn_ok (tourref2_left.cok k) hmix Try.func124 (code := tourref2_left.code) (by kernel_rfl) (by kernel_rfl) (by kernel_rfl) rfl rfl (by kernel_rfl) (by kernel_rfl) (by kernel_rfl) (fun x => Nat.le_of_ble_eq_true (by kernel_rfl)) fun x y hy => (tourref2_left.way k x.1 x.2.1 x.2.2.1).ap hy

/-! tourney/tourref2.Poly -/
noncomputable def tourref2_Poly.code : Code := Func.cd Try.f50
def tourref2_Poly.c1 (k : Nat) (a0 : (List V22)) : Nat → Int → Option (Unit ⊕ Unit)
  | 0, _ => none
  | n + 1, v3 =>
   bif' (ilt v3 (len a0))
   (req (inL v3 a0) <|
    bnd (tourref2_coord k (el Z22 a0 v3) 65536000) fun y6 =>
    bif' y6
    (tourref2_Poly.c1 k a0 n (iadd .i64 v3 1))
    (some (.inl ())))
   (some (.inr ()))
def tourref2_Poly.c4 (k : Nat) (a0 : (List V22)) (v15 : Int) (v17 : Int) : Nat → Int → Option (Unit ⊕ Unit)
  | 0, _ => none
  | n + 1, v19 =>
   bif' (ilt v19 (len a0))
   (req (inL v15 a0) <|
    req (inL v17 a0) <|
    req (inL v19 a0) <|
    bnd (tourref2_left k (el Z22 a0 v15) (el Z22 a0 v17) (el Z22 a0 v19)) fun y24 =>
    bif' (ile y24 0)
    (some (.inl ()))
    (tourref2_Poly.c4 k a0 v15 v17 n (iadd .i64 v19 1)))
   (some (.inr ()))
def tourref2_Poly.c3 (k : Nat) (a0 : (List V22)) (v15 : Int) : Nat → Int → Option (Unit ⊕ Unit)
  | 0, _ => none
  | n + 1, v17 =>
   bif' (ilt v17 (len a0))
   (bnd (tourref2_Poly.c4 k a0 v15 v17 k (iadd .i64 v17 1)) fun o27 =>
    two o27 (fun y29 =>
    some (.inl ())) (fun y31 =>
    tourref2_Poly.c3 k a0 v15 n (iadd .i64 v17 1)))
   (some (.inr ()))
def tourref2_Poly.c2 (k : Nat) (a0 : (List V22)) : Nat → Int → Option (Unit ⊕ Unit)
  | 0, _ => none
  | n + 1, v15 =>
   bif' (ilt v15 (len a0))
   (bnd (tourref2_Poly.c3 k a0 v15 k (iadd .i64 v15 1)) fun o33 =>
    two o33 (fun y35 =>
    some (.inl ())) (fun y37 =>
    tourref2_Poly.c2 k a0 n (iadd .i64 v15 1)))
   (some (.inr ()))
def tourref2_Poly (k : Nat) (a0 : (List V22)) : Option Int :=
  bif' (igt (len a0) 8)
  (some 2)
  (bif' (ilt (len a0) 3)
   (some 3)
   (bnd (tourref2_Poly.c1 k a0 k 0) fun o9 =>
    two o9 (fun y11 =>
    some 1) (fun y13 =>
    bnd (tourref2_Poly.c2 k a0 k 0) fun o39 =>
     two o39 (fun y41 =>
     some 3) (fun y43 =>
     some 0))))
noncomputable def tourref2_Poly.sp (k : Nat) : Go.Sx.Spec := ⟨(.pair T24 .unit), (.one (.dp T2)), fun x => tourref2_Poly k x.1, false⟩
noncomputable def tourref2_Poly.cx (k : Nat) : Go.Sx.Ctx := ⟨tys, [(87, tourref2_coord.sp k), (124, tourref2_left.sp k)], eqs, 60, 0, [], false⟩
theorem tourref2_Poly.cok (k : Nat) : CtxOk PR (tourref2_Poly.cx k) := ctx_ok tysOk eqsOk (FnsOk.cons (tourref2_coord.ok k) (FnsOk.cons (tourref2_left.ok k) FnsOk.nil)) HsOk.nil
noncomputable def tourref2_Poly.c1p (a0 : (List V22)) (v3 : Int) : SL := ⟨[(0, (.val T24 a0)), (3, (.val T2 (len a0))), (17, (.val T24 a0)), (18, (.val T2 (len a0))), (19, (.val T2 v3))], []⟩
noncomputable def tourref2_Poly.c1q (a0 : (List V22)) (o : Unit ⊕ Unit) : SL := (fun o => two o (fun v => ⟨[(2, (.val T2 (1 : Int)))], []⟩) (fun v => ⟨[(0, (.val T24 a0)), (3, (.val T2 (len a0)))], []⟩)) o
noncomputable def tourref2_Poly.c1x (o : Unit ⊕ Unit) : Ex := (fun o => two o (fun _ => .ret) (fun _ => (.exit 1))) o
noncomputable def tourref2_Poly.c1n (o : Unit ⊕ Unit) : Nat := (fun o => two o (fun _ => 0) (fun _ => 0)) o
theorem tourref2_Poly.c1_ok (k : Nat) (a0 : (List V22)) : ∀ (n : Nat) (v3 : Int), Owp (tourref2_Poly.c1 k a0 n v3) fun o => LTriple PR (tourref2_Poly.cx k) (sub tourref2_Poly.code [1, 1, 1, 0, 1, 0, 0]) 0 (tourref2_Poly.c1p a0 v3) (tourref2_Poly.c1x o) (tourref2_Poly.c1n o) (tourref2_Poly.c1q a0 o)
  | 0, _ => fun _ h => nomatch h
  | n + 1, v3 => Owp.of (tourref2_Poly.c1.eq_2 ..) (
   Owp.bif (fun e4 =>
   Owp.req fun h5 =>
    Owp.bnd fun y6 e7 =>
    Owp.bif (fun e8 =>
    fun y hy => loop_back (tourref2_Poly.cok k) hmix 0 (tourref2_Poly.c1p a0 (iadd .i64 v3 (1 : Int))) [.dec true, .res (.one (.dp T4)) y6, .dec false] [] [] (via (finP (And.intro (And.intro (And.intro (And.intro trivial e4) h5) e7) (congrArg not e8)) .normal [] (tourref2_Poly.c1p a0 (iadd .i64 v3 (1 : Int)))) (by kernel_rfl)) ((tourref2_Poly.c1_ok k a0 n (iadd .i64 v3 (1 : Int))).ap hy)) (fun e8 =>
    Owp.some (loop_exit (tourref2_Poly.cok k) hmix [.dec true, .res (.one (.dp T4)) y6, .dec true] [] [] exne_ret (via (finP (And.intro (And.intro (And.intro (And.intro trivial e4) h5) e7) (congrArg not e8)) .ret [] (tourref2_Poly.c1q a0 (.inl ()))) (by kernel_rfl))))) (fun e4 =>
   Owp.some (loop_exit (tourref2_Poly.cok k) hmix [.dec false] [] [] (exne 1) (via (finP (And.intro trivial e4) (.exit 1) [] (tourref2_Poly.c1q a0 (.inr ()))) (by kernel_rfl)))))
noncomputable def tourref2_Poly.c4p (a0 : (List V22)) (v15 : Int) (v17 : Int) (v19 : Int) : SL := ⟨[(0, (.val T24 a0)), (3, (.val T2 (len a0))), (6, (.val T2 v15)), (7, (.val T2 v17)), (8, (.val T2 v19)), (27, (.val T2 (len a0))), (28, (.val T2 v15))], []⟩
noncomputable def tourref2_Poly.c4q (a0 : (List V22)) (v15 : Int) (v17 : Int) (o : Unit ⊕ Unit) : SL := (fun o => two o (fun v => ⟨[(2, (.val T2 (3 : Int)))], []⟩) (fun v => ⟨[(0, (.val T24 a0)), (3, (.val T2 (len a0))), (6, (.val T2 v15)), (7, (.val T2 v17)), (27, (.val T2 (len a0))), (28, (.val T2 v15))], []⟩)) o
noncomputable def tourref2_Poly.c4x (o : Unit ⊕ Unit) : Ex := (fun o => two o (fun _ => .ret) (fun _ => (.exit 7))) o
noncomputable def tourref2_Poly.c4n (o : Unit ⊕ Unit) : Nat := (fun o => two o (fun _ => 0) (fun _ => 0)) o
theorem tourref2_Poly.c4_ok (k : Nat) (a0 : (List V22)) (v15 : Int) (v17 : Int) : ∀ (n : Nat) (v19 : Int), Owp (tourref2_Poly.c4 k a0 v15 v17 n v19) fun o => LTriple PR (tourref2_Poly.cx k) (sub tourref2_Poly.code [1, 1, 1, 1, 0, 1, 0, 0, 1, 1, 0, 0, 1, 1, 0, 0, 1, 0, 0, 1, 0, 0]) 0 (tourref2_Poly.c4p a0 v15 v17 v19) (tourref2_Poly.c4x o) (tourref2_Poly.c4n o) (tourref2_Poly.c4q a0 v15 v17 o)
  | 0, _ => fun _ h => nomatch h
  | n + 1, v19 => Owp.of (tourref2_Poly.c4.eq_2 ..) (
   Owp.bif (fun e20 =>
   Owp.req fun h21 =>
    Owp.req fun h22 =>
    Owp.req fun h23 =>
    Owp.bnd fun y24 e25 =>
    Owp.bif (fun e26 =>
    Owp.some (loop_exit (tourref2_Poly.cok k) hmix [.dec true, .res (.one (.dp T2)) y24, .dec true] [] [] exne_ret (via (finP (And.intro (And.intro (And.intro (And.intro (And.intro (And.intro trivial e20) h21) h22) h23) e25) e26) .ret [] (tourref2_Poly.c4q a0 v15 v17 (.inl ()))) (by kernel_rfl)))) (fun e26 =>
    fun y hy => loop_back (tourref2_Poly.cok k) hmix 0 (tourref2_Poly.c4p a0 v15 v17 (iadd .i64 v19 (1 : Int))) [.dec true, .res (.one (.dp T2)) y24, .dec false] [] [] (via (finP (And.intro (And.intro (And.intro (And.intro (And.intro (And.intro trivial e20) h21) h22) h23) e25) e26) .normal [] (tourref2_Poly.c4p a0 v15 v17 (iadd .i64 v19 (1 : Int)))) (by kernel_rfl)) ((tourref2_Poly.c4_ok k a0 v15 v17 n (iadd .i64 v19 (1 : Int))).ap hy))) (fun e20 =>
   Owp.some (loop_exit (tourref2_Poly.cok k) hmix [.dec false] [] [] (exne 7) (via (finP (And.intro trivial e20) (.exit 7) [] (tourref2_Poly.c4q a0 v15 v17 (.inr ()))) (by kernel_rfl)))))
noncomputable def tourref2_Poly.c3p (a0 : (List V22)) (v15 : Int) (v17 : Int) : SL := ⟨[(0, (.val T24 a0)), (3, (.val T2 (len a0))), (6, (.val T2 v15)), (7, (.val T2 v17)), (27, (.val T2 (len a0))), (28, (.val T2 v15))], []⟩
noncomputable def tourref2_Poly.c3q (a0 : (List V22)) (v15 : Int) (o : Unit ⊕ Unit) : SL := (fun o => two o (fun v => ⟨[(2, (.val T2 (3 : Int)))], []⟩) (fun v => ⟨[(0, (.val T24 a0)), (3, (.val T2 (len a0))), (27, (.val T2 (len a0))), (28, (.val T2 v15))], []⟩)) o
noncomputable def tourref2_Poly.c3x (o : Unit ⊕ Unit) : Ex := (fun o => two o (fun _ => .ret) (fun _ => (.exit 5))) o
noncomputable def tourref2_Poly.c3n (o : Unit ⊕ Unit) : Nat := (fun o => two o (fun _ => 0) (fun _ => 0)) o
theorem tourref2_Poly.c3_ok (k : Nat) (a0 : (List V22)) (v15 : Int) : ∀ (n : Nat) (v17 : Int), Owp (tourref2_Poly.c3 k a0 v15 n v17) fun o => LTriple PR (tourref2_Poly.cx k) (sub tourref2_Poly.code [1, 1, 1, 1, 0, 1, 0, 0, 1, 1, 0, 0, 1, 1, 0, 0]) 0 (tourref2_Poly.c3p a0 v15 v17) (tourref2_Poly.c3x o) (tourref2_Poly.c3n o) (tourref2_Poly.c3q a0 v15 o)
  | 0, _ => fun _ h => nomatch h
  | n + 1, v17 => Owp.of (tourref2_Poly.c3.eq_2 ..) (
   Owp.bif (fun e18 =>
   Owp.bnd fun o27 e28 =>
    Owp.two (fun y29 e30 =>
    Owp.some (loop_exit (tourref2_Poly.cok k) hmix [.dec true, .cut ⟨[], [], (tourref2_Poly.c4p a0 v15 v17 (iadd .i64 v17 (1 : Int))), 0, .ret, (tourref2_Poly.c4q a0 v15 v17 (.inl ())), 0⟩] [] [] exne_ret (via (cutP (And.intro trivial e18) [] (tourref2_Poly.c4p a0 v15 v17 (iadd .i64 v17 (1 : Int))) (((tourref2_Poly.c4_ok k a0 v15 v17 k (iadd .i64 v17 (1 : Int))).ap (e28.trans (congrArg some e30))).triple) (finP trivial .ret [] (tourref2_Poly.c3q a0 v15 (.inl ())))) (by kernel_rfl)))) (fun y31 e32 =>
    fun y hy => loop_back (tourref2_Poly.cok k) hmix 0 (tourref2_Poly.c3p a0 v15 (iadd .i64 v17 (1 : Int))) [.dec true, .cut ⟨[], [], (tourref2_Poly.c4p a0 v15 v17 (iadd .i64 v17 (1 : Int))), 0, (.exit 7), (tourref2_Poly.c4q a0 v15 v17 (.inr ())), 0⟩] [] [] (via (cutP (And.intro trivial e18) [] (tourref2_Poly.c4p a0 v15 v17 (iadd .i64 v17 (1 : Int))) (((tourref2_Poly.c4_ok k a0 v15 v17 k (iadd .i64 v17 (1 : Int))).ap (e28.trans (congrArg some e32))).triple) (finP trivial .normal [] (tourref2_Poly.c3p a0 v15 (iadd .i64 v17 (1 : Int))))) (by kernel_rfl)) ((tourref2_Poly.c3_ok k a0 v15 n (iadd .i64 v17 (1 : Int))).ap hy))) (fun e18 =>
   Owp.some (loop_exit (tourref2_Poly.cok k) hmix [.dec false] [] [] (exne 5) (via (finP (And.intro trivial e18) (.exit 5) [] (tourref2_Poly.c3q a0 v15 (.inr ()))) (by kernel_rfl)))))
noncomputable def tourref2_Poly.c2p (a0 : (List V22)) (v15 : Int) : SL := ⟨[(0, (.val T24 a0)), (3, (.val T2 (len a0))), (27, (.val T2 (len a0))), (28, (.val T2 v15))], []⟩
noncomputable def tourref2_Poly.c2q (o : Unit ⊕ Unit) : SL := (fun o => two o (fun v => ⟨[(2, (.val T2 (3 : Int)))], []⟩) (fun v => ⟨[], []⟩)) o
noncomputable def tourref2_Poly.c2x (o : Unit ⊕ Unit) : Ex := (fun o => two o (fun _ => .ret) (fun _ => (.exit 3))) o
noncomputable def tourref2_Poly.c2n (o : Unit ⊕ Unit) : Nat := (fun o => two o (fun _ => 0) (fun _ => 0)) o
theorem tourref2_Poly.c2_ok (k : Nat) (a0 : (List V22)) : ∀ (n : Nat) (v15 : Int), Owp (tourref2_Poly.c2 k a0 n v15) fun o => LTriple PR (tourref2_Poly.cx k) (sub tourref2_Poly.code [1, 1, 1, 1, 0, 1, 0, 0]) 0 (tourref2_Poly.c2p a0 v15) (tourref2_Poly.c2x o) (tourref2_Poly.c2n o) (tourref2_Poly.c2q o)
  | 0, _ => fun _ h => nomatch h
  | n + 1, v15 => Owp.of (tourref2_Poly.c2.eq_2 ..) (
   Owp.bif (fun e16 =>
   Owp.bnd fun o33 e34 =>
    Owp.two (fun y35 e36 =>
    Owp.some (loop_exit (tourref2_Poly.cok k) hmix [.dec true, .cut ⟨[], [], (tourref2_Poly.c3p a0 v15 (iadd .i64 v15 (1 : Int))), 0, .ret, (tourref2_Poly.c3q a0 v15 (.inl ())), 0⟩] [] [] exne_ret (via (cutP (And.intro trivial e16) [] (tourref2_Poly.c3p a0 v15 (iadd .i64 v15 (1 : Int))) (((tourref2_Poly.c3_ok k a0 v15 k (iadd .i64 v15 (1 : Int))).ap (e34.trans (congrArg some e36))).triple) (finP trivial .ret [] (tourref2_Poly.c2q (.inl ())))) (by kernel_rfl)))) (fun y37 e38 =>
    fun y hy => loop_back (tourref2_Poly.cok k) hmix 0 (tourref2_Poly.c2p a0 (iadd .i64 v15 (1 : Int))) [.dec true, .cut ⟨[], [], (tourref2_Poly.c3p a0 v15 (iadd .i64 v15 (1 : Int))), 0, (.exit 5), (tourref2_Poly.c3q a0 v15 (.inr ())), 0⟩] [] [] (via (cutP (And.intro trivial e16) [] (tourref2_Poly.c3p a0 v15 (iadd .i64 v15 (1 : Int))) (((tourref2_Poly.c3_ok k a0 v15 k (iadd .i64 v15 (1 : Int))).ap (e34.trans (congrArg some e38))).triple) (finP trivial .normal [] (tourref2_Poly.c2p a0 (iadd .i64 v15 (1 : Int))))) (by kernel_rfl)) ((tourref2_Poly.c2_ok k a0 n (iadd .i64 v15 (1 : Int))).ap hy))) (fun e16 =>
   Owp.some (loop_exit (tourref2_Poly.cok k) hmix [.dec false] [] [] (exne 3) (via (finP (And.intro trivial e16) (.exit 3) [] (tourref2_Poly.c2q (.inr ()))) (by kernel_rfl)))))
theorem tourref2_Poly.way (k : Nat) (a0 : (List V22)) : Owp (tourref2_Poly k a0) fun y => ∃ answers cmds, exec PR (tourref2_Poly.cx k) tourref2_Poly.code 0 (entry (.pair T24 .unit) (a0, ())).st answers (Ret (tourref2_Poly.cx k) Try.f50 cmds (.one (.dp T2)) y) := by
  unfold tourref2_Poly; exact
   Owp.bif (fun e1 =>
   Owp.some (⟨[.dec true], [], via (retP (And.intro trivial e1) (.one (.dp T2)) ((2 : Int) : Int)) (by kernel_rfl)⟩)) (fun e1 =>
   Owp.bif (fun e2 =>
    Owp.some (⟨[.dec false, .dec true], [], via (retP (And.intro (And.intro trivial e1) e2) (.one (.dp T2)) ((3 : Int) : Int)) (by kernel_rfl)⟩)) (fun e2 =>
    Owp.bnd fun o9 e10 =>
     Owp.two (fun y11 e12 =>
     Owp.some (⟨[.dec false, .dec false, .cut ⟨[], [], (tourref2_Poly.c1p a0 (0 : Int)), 0, .ret, (tourref2_Poly.c1q a0 (.inl ())), 0⟩], [], via (cutP (And.intro (And.intro trivial e1) e2) [] (tourref2_Poly.c1p a0 (0 : Int)) (((tourref2_Poly.c1_ok k a0 k (0 : Int)).ap (e10.trans (congrArg some e12))).triple) (retP trivial (.one (.dp T2)) ((1 : Int) : Int))) (by kernel_rfl)⟩)) (fun y13 e14 =>
     Owp.bnd fun o39 e40 =>
      Owp.two (fun y41 e42 =>
      Owp.some (⟨[.dec false, .dec false, .cut ⟨[], [], (tourref2_Poly.c1p a0 (0 : Int)), 0, (.exit 1), (tourref2_Poly.c1q a0 (.inr ())), 0⟩, .cut ⟨[], [], (tourref2_Poly.c2p a0 (0 : Int)), 0, .ret, (tourref2_Poly.c2q (.inl ())), 0⟩], [], via (cutP (And.intro (And.intro trivial e1) e2) [] (tourref2_Poly.c1p a0 (0 : Int)) (((tourref2_Poly.c1_ok k a0 k (0 : Int)).ap (e10.trans (congrArg some e14))).triple) (cutP trivial [] (tourref2_Poly.c2p a0 (0 : Int)) (((tourref2_Poly.c2_ok k a0 k (0 : Int)).ap (e40.trans (congrArg some e42))).triple) (retP trivial (.one (.dp T2)) ((3 : Int) : Int)))) (by kernel_rfl)⟩)) (fun y43 e44 =>
      Owp.some (⟨[.dec false, .dec false, .cut ⟨[], [], (tourref2_Poly.c1p a0 (0 : Int)), 0, (.exit 1), (tourref2_Poly.c1q a0 (.inr ())), 0⟩, .cut ⟨[], [], (tourref2_Poly.c2p a0 (0 : Int)), 0, (.exit 3), (tourref2_Poly.c2q (.inr ())), 0⟩], [], via (cutP (And.intro (And.intro trivial e1) e2) [] (tourref2_Poly.c1p a0 (0 : Int)) (((tourref2_Poly.c1_ok k a0 k (0 : Int)).ap (e10.trans (congrArg some e14))).triple) (cutP trivial [] (tourref2_Poly.c2p a0 (0 : Int)) (((tourref2_Poly.c2_ok k a0 k (0 : Int)).ap (e40.trans (congrArg some e44))).triple) (retP trivial (.one (.dp T2)) ((0 : Int) : Int)))) (by kernel_rfl)⟩)))))
theorem tourref2_Poly.ok (k : Nat) : FnOk PR 50 (tourref2_Poly.sp k) :=
  fn_ok (tourref2_Poly.cok k) hmix Try.func50 (code := tourref2_Poly.code) (by kernel_rfl) (by kernel_rfl) (by kernel_rfl) rfl rfl (by kernel_rfl) (by kernel_rfl) (by kernel_rfl) (fun x => Nat.le_of_ble_eq_true (by kernel_rfl)) fun x y hy => (tourref2_Poly.way k x.1).ap hy

/-! tourney/tourlaw2.square -/
noncomputable def tourlaw2_square.code : Code := Func.cd Try.f69
def tourlaw2_square (k : Nat) (a0 : Int) (a1 : Int) (a2 : Int) : Option (List V22) :=
  some [((imul .i64 a0 65536), (imul .i64 a1 65536), ()), ((iadd .i64 (imul .i64 a0 65536) (imul .i64 a2 65536)), (imul .i64 a1 65536), ()), ((iadd .i64 (imul .i64 a0 65536) (imul .i64 a2 65536)), (iadd .i64 (imul .i64 a1 65536) (imul .i64 a2 65536)), ()), ((imul .i64 a0 65536), (iadd .i64 (imul .i64 a1 65536) (imul .i64 a2 65536)), ())]
noncomputable def tourlaw2_square.sp (k : Nat) : Go.Sx.Spec := ⟨(.pair T2 T22), (.one (.ow T22 23)), fun x => tourlaw2_square k x.1 x.2.1 x.2.2.1, false⟩
noncomputable def tourlaw2_square.cx (k : Nat) : Go.Sx.Ctx := ⟨tys, [], eqs, 34, 0, [], false⟩
theorem tourlaw2_square.cok (k : Nat) : CtxOk PR (tourlaw2_square.cx k) := ctx_ok tysOk eqsOk FnsOk.nil HsOk.nil
theorem tourlaw2_square.way (k : Nat) (a0 : Int) (a1 : Int) (a2 : Int) : Owp (tourlaw2_square k a0 a1 a2) fun y => ∃ answers cmds, exec PR (tourlaw2_square.cx k) tourlaw2_square.code 0 (entry (.pair T2 T22) (a0, a1, a2, ())).st answers (Ret (tourlaw2_square.cx k) Try.f69 cmds (.one (.ow T22 23)) y) := by
  unfold tourlaw2_square; exact
   Owp.some (⟨[.dec true], [], via (retP trivial (.one (.ow T22 23)) ([((imul .i64 a0 (65536 : Int)), (imul .i64 a1 (65536 : Int)), ()), ((iadd .i64 (imul .i64 a0 (65536 : Int)) (imul .i64 a2 (65536 : Int))), (imul .i64 a1 (65536 : Int)), ()), ((iadd .i64 (imul .i64 a0 (65536 : Int)) (imul .i64 a2 (65536 : Int))), (iadd .i64 (imul .i64 a1 (65536 : Int)) (imul .i64 a2 (65536 : Int))), ()), ((imul .i64 a0 (65536 : Int)), (iadd .i64 (imul .i64 a1 (65536 : Int)) (imul .i64 a2 (65536 : Int))), ())] : (List V22))) (by kernel_rfl)⟩)
theorem tourlaw2_square.ok (k : Nat) : FnOk PR 69 (tourlaw2_square.sp k) :=
  fn_ok (tourlaw2_square.cok k) hmix Try.func69 (code := tourlaw2_square.code) (by kernel_rfl) (by kernel_rfl) (by kernel_rfl) rfl rfl (by kernel_rfl) (by kernel_rfl) (by kernel_rfl) (fun x => Nat.le_of_ble_eq_true (by kernel_rfl)) fun x y hy => (tourlaw2_square.way k x.1 x.2.1 x.2.2.1).ap hy

/-! tourney/tourref2.Inside -/
noncomputable def tourref2_Inside.code : Code := Func.cd Try.f100
def tourref2_Inside.c2 (k : Nat) (a0 : (List V22)) (a1 : V22) (v4 : Int) : Option (Bool) :=
  req (inL 0 a0) <|
  req (inL (isub .i64 v4 1) a0) <|
  bnd (tourref2_left k (el Z22 a0 0) (el Z22 a0 (isub .i64 v4 1)) a1) fun y8 =>
  bif' (ige y8 0)
  (req (inL v4 a0) <|
   bnd (tourref2_left k (el Z22 a0 (isub .i64 v4 1)) (el Z22 a0 v4) a1) fun y12 =>
   bif' (ige y12 0)
   (bnd (tourref2_left k (el Z22 a0 v4) (el Z22 a0 0) a1) fun y15 =>
    some (ige y15 0))
   (some false))
  (some false)
def tourref2_Inside.c1 (k : Nat) (a0 : (List V22)) (a1 : V22) : Nat → Int → Option (Unit ⊕ Unit)
  | 0, _ => none
  | n + 1, v4 =>
   bif' (ilt v4 (len a0))
   (bnd (tourref2_Inside.c2 k a0 a1 v4) fun o17 =>
    bif' o17
    (some (.inl ()))
    (tourref2_Inside.c1 k a0 a1 n (iadd .i64 v4 1)))
   (some (.inr ()))
def tourref2_Inside (k : Nat) (a0 : (List V22)) (a1 : V22) : Option Bool :=
  bnd (tourref2_coord k a1 65536000) fun y1 =>
  bif' y1
  (bnd (tourref2_Inside.c1 k a0 a1 k 2) fun o20 =>
   two o20 (fun y22 =>
   some true) (fun y24 =>
   some false))
  (some false)
noncomputable def tourref2_Inside.sp (k : Nat) : Go.Sx.Spec := ⟨(.pair T24 (.pair T22 .unit)), (.one (.dp T4)), fun x => tourref2_Inside k x.1 x.2.1, false⟩
noncomputable def tourref2_Inside.cx (k : Nat) : Go.Sx.Ctx := ⟨tys, [(87, tourref2_coord.sp k), (124, tourref2_left.sp k)], eqs, 52, 0, [], false⟩
theorem tourref2_Inside.cok (k : Nat) : CtxOk PR (tourref2_Inside.cx k) := ctx_ok tysOk eqsOk (FnsOk.cons (tourref2_coord.ok k) (FnsOk.cons (tourref2_left.ok k) FnsOk.nil)) HsOk.nil
noncomputable def tourref2_Inside.c2p (a0 : (List V22)) (a1 : V22) (v4 : Int) : SL := ⟨[(0, (.val T24 a0)), (3, (.val .ptr ⟨0, 0, (0 : Int), 0, 0⟩)), (5, (.val T2 v4))], [(0, .cells T22 a1)]⟩
noncomputable def tourref2_Inside.c2q (a0 : (List V22)) (a1 : V22) (v4 : Int) (o : Bool) : SL := (fun v => ⟨[(0, (.val T24 a0)), (3, (.val .ptr ⟨0, 0, (0 : Int), 0, 0⟩)), (5, (.val T2 v4)), (51, (.val T4 v))], [(0, .cells T22 a1)]⟩) o
noncomputable def tourref2_Inside.c2x (o : Bool) : Ex := (fun _ => .normal) o
noncomputable def tourref2_Inside.c2n (o : Bool) : Nat := (fun _ => 1) o
theorem tourref2_Inside.c2_ok (k : Nat) (a0 : (List V22)) (a1 : V22) (v4 : Int) : Owp (tourref2_Inside.c2 k a0 a1 v4) fun o => Triple PR (tourref2_Inside.cx k) (sub tourref2_Inside.code [1, 1, 0, 1, 0, 0, 1, 0, 0, 0]) 1 (tourref2_Inside.c2p a0 a1 v4) (tourref2_Inside.c2x o) (tourref2_Inside.c2n o) (tourref2_Inside.c2q a0 a1 v4 o) := by
  unfold tourref2_Inside.c2; exact
   Owp.req fun h6 =>
   Owp.req fun h7 =>
   Owp.bnd fun y8 e9 =>
   Owp.bif (fun e10 =>
   Owp.req fun h11 =>
    Owp.bnd fun y12 e13 =>
    Owp.bif (fun e14 =>
    Owp.bnd fun y15 e16 =>
     Owp.some (triple_way (tourref2_Inside.cok k) hmix [.res (.one (.dp T2)) y8, .dec true, .dec true, .dec true, .dec true, .dec true, .dec true, .dec true, .dec true, .dec true, .dec true, .dec true, .res (.one (.dp T2)) y12, .dec true, .dec true, .dec true, .dec true, .dec true, .dec true, .dec true, .dec true, .dec true, .dec true, .dec true, .res (.one (.dp T2)) y15, .dec true, .dec true] [] [(0, 0)] (via (finP (And.intro (And.intro (And.intro (And.intro (And.intro (And.intro (And.intro (And.intro (And.intro (And.intro (And.intro (And.intro (And.intro (And.intro (And.intro (And.intro (And.intro (And.intro (And.intro (And.intro (And.intro (And.intro (And.intro (And.intro (And.intro (And.intro (And.intro trivial h6) h7) e9) e10) e10) e10) (And.intro e10 h7)) e10) e10) e10) (And.intro e10 h11)) e10) e10) (And.intro e10 e13)) e10) e10) e14) e14) (And.intro e14 h11)) e14) e14) (And.intro e14 h6)) e14) e14) (And.intro e14 e16)) e14) e14) .normal [(0, 0)] (tourref2_Inside.c2q a0 a1 v4 (ige y15 (0 : Int)))) (by kernel_rfl)))) (fun e14 =>
    Owp.some (triple_way (tourref2_Inside.cok k) hmix [.res (.one (.dp T2)) y8, .dec true, .dec true, .dec true, .dec true, .dec true, .dec true, .dec true, .dec true, .dec true, .dec true, .dec true, .res (.one (.dp T2)) y12, .dec true, .dec true, .dec false, .dec false, .dec false, .dec false, .dec false, .dec false, .dec false, .dec false, .dec false, .dec true, .dec false, .dec false] [] [(0, 0)] (via (finP (And.intro (And.intro (And.intro (And.intro (And.intro (And.intro (And.intro (And.intro (And.intro (And.intro (And.intro (And.intro (And.intro (And.intro (And.intro (And.intro (And.intro (And.intro (And.intro (And.intro (And.intro (And.intro (And.intro (And.intro (And.intro (And.intro (And.intro trivial h6) h7) e9) e10) e10) e10) (And.intro e10 h7)) e10) e10) e10) (And.intro e10 h11)) e10) e10) (And.intro e10 e13)) e10) e10) e14) e14) e14) e14) e14) e14) e14) e14) e14) e14) e14) .normal [(0, 0)] (tourref2_Inside.c2q a0 a1 v4 false)) (by kernel_rfl))))) (fun e10 =>
   Owp.some (triple_way (tourref2_Inside.cok k) hmix [.res (.one (.dp T2)) y8, .dec false, .dec false, .dec false, .dec false, .dec false, .dec false, .dec false, .dec false, .dec false, .dec false, .dec false, .dec true, .dec false, .dec false, .dec false, .dec false, .dec false, .dec false, .dec false, .dec false, .dec false, .dec false, .dec false, .dec true, .dec false, .dec false] [] [(0, 0)] (via (finP (And.intro (And.intro (And.intro (And.intro (And.intro (And.intro (And.intro (And.intro (And.intro (And.intro (And.intro (And.intro (And.intro (And.intro (And.intro (And.intro (And.intro (And.intro (And.intro (And.intro (And.intro (And.intro (And.intro (And.intro (And.intro (And.intro (And.intro trivial h6) h7) e9) e10) e10) e10) e10) e10) e10) e10) e10) e10) e10) e10) e10) e10) ff) ff) ff) ff) ff) ff) ff) ff) ff) ff) ff) .normal [(0, 0)] (tourref2_Inside.c2q a0 a1 v4 false)) (by kernel_rfl))))
noncomputable def tourref2_Inside.c1p (a0 : (List V22)) (a1 : V22) (v4 : Int) : SL := ⟨[(0, (.val T24 a0)), (3, (.val .ptr ⟨0, 0, (0 : Int), 0, 0⟩)), (5, (.val T2 v4))], [(0, .cells T22 a1)]⟩
noncomputable def tourref2_Inside.c1q (o : Unit ⊕ Unit) : SL := (fun o => two o (fun v => ⟨[(4, (.val T4 true))], []⟩) (fun v => ⟨[], []⟩)) o
noncomputable def tourref2_Inside.c1x (o : Unit ⊕ Unit) : Ex := (fun o => two o (fun _ => .ret) (fun _ => (.exit 0))) o
noncomputable def tourref2_Inside.c1n (o : Unit ⊕ Unit) : Nat := (fun o => two o (fun _ => 0) (fun _ => 0)) o
theorem tourref2_Inside.c1_ok (k : Nat) (a0 : (List V22)) (a1 : V22) : ∀ (n : Nat) (v4 : Int), Owp (tourref2_Inside.c1 k a0 a1 n v4) fun o => LTriple PR (tourref2_Inside.cx k) (sub tourref2_Inside.code [1, 1, 0, 1, 0, 0]) 1 (tourref2_Inside.c1p a0 a1 v4) (tourref2_Inside.c1x o) (tourref2_Inside.c1n o) (tourref2_Inside.c1q o)
  | 0, _ => fun _ h => nomatch h
  | n + 1, v4 => Owp.of (tourref2_Inside.c1.eq_2 ..) (
   Owp.bif (fun e5 =>
   Owp.bnd fun o17 e18 =>
    Owp.bif (fun e19 =>
    Owp.some (loop_exit (tourref2_Inside.cok k) hmix [.dec true, .cutR 6 ⟨[], [(0, 0)], (tourref2_Inside.c2p a0 a1 v4), 1, .normal, (tourref2_Inside.c2q a0 a1 v4 o17), 1⟩, .dec true] [] [] exne_ret (via (cutP (And.intro trivial e5) [(0, 0)] (tourref2_Inside.c2p a0 a1 v4) (((tourref2_Inside.c2_ok k a0 a1 v4).ap e18)) (finP (And.intro trivial e19) .ret [] (tourref2_Inside.c1q (.inl ())))) (by kernel_rfl)))) (fun e19 =>
    fun y hy => loop_back (tourref2_Inside.cok k) hmix 1 (tourref2_Inside.c1p a0 a1 (iadd .i64 v4 (1 : Int))) [.dec true, .cutR 6 ⟨[], [(0, 0)], (tourref2_Inside.c2p a0 a1 v4), 1, .normal, (tourref2_Inside.c2q a0 a1 v4 o17), 1⟩, .dec false] [] [(0, 0)] (via (cutP (And.intro trivial e5) [(0, 0)] (tourref2_Inside.c2p a0 a1 v4) (((tourref2_Inside.c2_ok k a0 a1 v4).ap e18)) (finP (And.intro trivial e19) .normal [(0, 0)] (tourref2_Inside.c1p a0 a1 (iadd .i64 v4 (1 : Int))))) (by kernel_rfl)) ((tourref2_Inside.c1_ok k a0 a1 n (iadd .i64 v4 (1 : Int))).ap hy))) (fun e5 =>
   Owp.some (loop_exit (tourref2_Inside.cok k) hmix [.dec false] [] [] (exne 0) (via (finP (And.intro trivial e5) (.exit 0) [] (tourref2_Inside.c1q (.inr ()))) (by kernel_rfl)))))
theorem tourref2_Inside.way (k : Nat) (a0 : (List V22)) (a1 : V22) : Owp (tourref2_Inside k a0 a1) fun y => ∃ answers cmds, exec PR (tourref2_Inside.cx k) tourref2_Inside.code 0 (entry (.pair T24 (.pair T22 .unit)) (a0, a1, ())).st answers (Ret (tourref2_Inside.cx k) Try.f100 cmds (.one (.dp T4)) y) := by
  unfold tourref2_Inside; exact
   Owp.bnd fun y1 e2 =>
   Owp.bif (fun e3 =>
   Owp.bnd fun o20 e21 =>
    Owp.two (fun y22 e23 =>
    Owp.some (⟨[.res (.one (.dp T4)) y1, .dec false, .cut ⟨[], [(0, 0)], (tourref2_Inside.c1p a0 a1 (2 : Int)), 1, .ret, (tourref2_Inside.c1q (.inl ())), 0⟩], [], via (cutP (And.intro (And.intro trivial e2) (congrArg not e3)) [(0, 0)] (tourref2_Inside.c1p a0 a1 (2 : Int)) (((tourref2_Inside.c1_ok k a0 a1 k (2 : Int)).ap (e21.trans (congrArg some e23))).triple) (retP trivial (.one (.dp T4)) (true : Bool))) (by kernel_rfl)⟩)) (fun y24 e25 =>
    Owp.some (⟨[.res (.one (.dp T4)) y1, .dec false, .cut ⟨[], [(0, 0)], (tourref2_Inside.c1p a0 a1 (2 : Int)), 1, (.exit 0), (tourref2_Inside.c1q (.inr ())), 0⟩], [], via (cutP (And.intro (And.intro trivial e2) (congrArg not e3)) [(0, 0)] (tourref2_Inside.c1p a0 a1 (2 : Int)) (((tourref2_Inside.c1_ok k a0 a1 k (2 : Int)).ap (e21.trans (congrArg some e25))).triple) (retP trivial (.one (.dp T4)) (false : Bool))) (by kernel_rfl)⟩))) (fun e3 =>
   Owp.some (⟨[.res (.one (.dp T4)) y1, .dec true], [], via (retP (And.intro (And.intro trivial e2) (congrArg not e3)) (.one (.dp T4)) (false : Bool)) (by kernel_rfl)⟩))
theorem tourref2_Inside.ok (k : Nat) : FnOk PR 100 (tourref2_Inside.sp k) :=
  fn_ok (tourref2_Inside.cok k) hmix Try.func100 (code := tourref2_Inside.code) (by kernel_rfl) (by kernel_rfl) (by kernel_rfl) rfl rfl (by kernel_rfl) (by kernel_rfl) (by kernel_rfl) (fun x => Nat.le_of_ble_eq_true (by kernel_rfl)) fun x y hy => (tourref2_Inside.way k x.1 x.2.1).ap hy

/-! tourney/tourref2.Dot -/
noncomputable def tourref2_Dot.code : Code := Func.cd Try.f125
def tourref2_Dot (k : Nat) (a0 : V22) (a1 : V22) : Option (List Int) :=
  bnd (tourref2_Of k a0.1) fun y1 =>
  bnd (tourref2_Of k a1.1) fun y3 =>
  bnd (tourref2_Big_Mul k y1 y3) fun y5 =>
  bnd (tourref2_Of k a0.2.1) fun y7 =>
  bnd (tourref2_Of k a1.2.1) fun y9 =>
  bnd (tourref2_Big_Mul k y7 y9) fun y11 =>
  bnd (tourref2_Big_Add k y5 y11) fun y13 =>
  some y13
noncomputable def tourref2_Dot.sp (k : Nat) : Go.Sx.Spec := ⟨T52, (.one (.dp T134)), fun x => tourref2_Dot k x.1 x.2.1, false⟩
noncomputable def tourref2_Dot.cx (k : Nat) : Go.Sx.Ctx := ⟨tys, [(159, tourref2_Of.sp k), (177, tourref2_Big_Mul.sp k), (178, tourref2_Big_Add.sp k)], eqs, 20, 0, [], false⟩
theorem tourref2_Dot.cok (k : Nat) : CtxOk PR (tourref2_Dot.cx k) := ctx_ok tysOk eqsOk (FnsOk.cons (tourref2_Of.ok k) (FnsOk.cons (tourref2_Big_Mul.ok k) (FnsOk.cons (tourref2_Big_Add.ok k) FnsOk.nil))) HsOk.nil
theorem tourref2_Dot.way (k : Nat) (a0 : V22) (a1 : V22) : Owp (tourref2_Dot k a0 a1) fun y => ∃ answers cmds, exec PR (tourref2_Dot.cx k) tourref2_Dot.code 0 (entry T52 (a0, a1, ())).st answers (Ret (tourref2_Dot.cx k) Try.f125 cmds (.one (.dp T134)) y) := by
  unfold tourref2_Dot; exact
   Owp.bnd fun y1 e2 =>
   Owp.bnd fun y3 e4 =>
   Owp.bnd fun y5 e6 =>
   Owp.bnd fun y7 e8 =>
   Owp.bnd fun y9 e10 =>
   Owp.bnd fun y11 e12 =>
   Owp.bnd fun y13 e14 =>
   Owp.some (⟨[.res (.one (.dp T134)) y1, .res (.one (.dp T134)) y3, .res (.one (.dp T134)) y5, .res (.one (.dp T134)) y7, .res (.one (.dp T134)) y9, .res (.one (.dp T134)) y11, .res (.one (.dp T134)) y13], [], via (retP (And.intro (And.intro (And.intro (And.intro (And.intro (And.intro (And.intro trivial e2) e4) e6) e8) e10) e12) e14) (.one (.dp T134)) (y13 : (List Int))) (by kernel_rfl)⟩)
theorem tourref2_Dot.ok (k : Nat) : FnOk PR 125 (tourref2_Dot.sp k) :=
  fn_ok (tourref2_Dot.cok k) hmix Try.func125 (code := tourref2_Dot.code) (by kernel_rfl) (by kernel_rfl) (by kernel_rfl) rfl rfl (by kernel_rfl) (by kernel_rfl) (by kernel_rfl) (fun x => Nat.le_of_ble_eq_true (by kernel_rfl)) fun x y hy => (tourref2_Dot.way k x.1 x.2.1).ap hy

/-! slices.Clone[[]tourney/api.Contact,tourney/api.Contact] -/
noncomputable def slices_Clone.code : Code := Func.cd Try.f128
def slices_Clone (k : Nat) (a0 : (List V78)) : Option (List V78) :=
  req (room0 80 a0) <|
  some a0
noncomputable def slices_Clone.sp (k : Nat) : Go.Sx.Spec := ⟨(.pair (.slice T78) .unit), (.one (.ow T78 79)), fun x => slices_Clone k x.1, false⟩
noncomputable def slices_Clone.cx (k : Nat) : Go.Sx.Ctx := ⟨tys, [], eqs, 8, 0, [], false⟩
theorem slices_Clone.cok (k : Nat) : CtxOk PR (slices_Clone.cx k) := ctx_ok tysOk eqsOk FnsOk.nil HsOk.nil
theorem slices_Clone.way (k : Nat) (a0 : (List V78)) : Owp (slices_Clone k a0) fun y => ∃ answers cmds, exec PR (slices_Clone.cx k) slices_Clone.code 0 (entry (.pair (.slice T78) .unit) (a0, ())).st answers (Ret (slices_Clone.cx k) Try.f128 cmds (.one (.ow T78 79)) y) := by
  unfold slices_Clone; exact
   Owp.req fun h1 => match a0, h1 with
   | [], h1 => Owp.some (⟨[.fork [] [.dec true]], [.own 2 T78 79], via (show (True → (True ∧ (True ∧ some (Blk.row T78 ([] : (List V78)) 79) = some (Blk.row T78 ([] : (List V78)) 79)))) ∧ ((True ∧ room0 80 ([] : (List V78))) ∧ (True ∧ some (Blk.row T78 ([] : (List V78)) 79) = some (Blk.row T78 ([] : (List V78)) 79))) from ⟨fun _ => ⟨trivial, trivial, rfl⟩, ⟨trivial, h1⟩, trivial, rfl⟩) (by kernel_rfl)⟩)
   | a :: l, h1 => Owp.some (⟨[.dec false, .dec true], [.own 2 T78 79], via (show ((True ∧ false = false) ∧ room0 80 (a :: l)) ∧ (True ∧ some (Blk.row T78 (a :: l : (List V78)) 79) = some (Blk.row T78 (a :: l : (List V78)) 79)) from ⟨⟨⟨trivial, rfl⟩, h1⟩, trivial, rfl⟩) (by kernel_rfl)⟩)
theorem slices_Clone.ok (k : Nat) : FnOk PR 128 (slices_Clone.sp k) :=
  fn_ok (slices_Clone.cok k) hmix Try.func128 (code := slices_Clone.code) (by kernel_rfl) (by kernel_rfl) (by kernel_rfl) rfl rfl (by kernel_rfl) (by kernel_rfl) (by kernel_rfl) (fun x => Nat.le_of_ble_eq_true (by kernel_rfl)) fun x y hy => (slices_Clone.way k x.1).ap hy

/-! slices.Clone[[]tourney/api.Vec,tourney/api.Vec] -/
noncomputable def slices_Clone_129.code : Code := Func.cd Try.f129
def slices_Clone_129 (k : Nat) (a0 : (List V22)) : Option (List V22) :=
  req (room0 16 a0) <|
  some a0
noncomputable def slices_Clone_129.sp (k : Nat) : Go.Sx.Spec := ⟨(.pair T24 .unit), (.one (.ow T22 23)), fun x => slices_Clone_129 k x.1, false⟩
noncomputable def slices_Clone_129.cx (k : Nat) : Go.Sx.Ctx := ⟨tys, [], eqs, 8, 0, [], false⟩
theorem slices_Clone_129.cok (k : Nat) : CtxOk PR (slices_Clone_129.cx k) := ctx_ok tysOk eqsOk FnsOk.nil HsOk.nil
theorem slices_Clone_129.way (k : Nat) (a0 : (List V22)) : Owp (slices_Clone_129 k a0) fun y => ∃ answers cmds, exec PR (slices_Clone_129.cx k) slices_Clone_129.code 0 (entry (.pair T24 .unit) (a0, ())).st answers (Ret (slices_Clone_129.cx k) Try.f129 cmds (.one (.ow T22 23)) y) := by
  unfold slices_Clone_129; exact
   Owp.req fun h1 => match a0, h1 with
   | [], h1 => Owp.some (⟨[.fork [] [.dec true]], [.own 2 T22 23], via (show (True → (True ∧ (True ∧ some (Blk.row T22 ([] : (List V22)) 23) = some (Blk.row T22 ([] : (List V22)) 23)))) ∧ ((True ∧ room0 16 ([] : (List V22))) ∧ (True ∧ some (Blk.row T22 ([] : (List V22)) 23) = some (Blk.row T22 ([] : (List V22)) 23))) from ⟨fun _ => ⟨trivial, trivial, rfl⟩, ⟨trivial, h1⟩, trivial, rfl⟩) (by kernel_rfl)⟩)
   | a :: l, h1 => Owp.some (⟨[.dec false, .dec true], [.own 2 T22 23], via (show ((True ∧ false = false) ∧ room0 16 (a :: l)) ∧ (True ∧ some (Blk.row T22 (a :: l : (List V22)) 23) = some (Blk.row T22 (a :: l : (List V22)) 23)) from ⟨⟨⟨trivial, rfl⟩, h1⟩, trivial, rfl⟩) (by kernel_rfl)⟩)
theorem slices_Clone_129.ok (k : Nat) : FnOk PR 129 (slices_Clone_129.sp k) :=
  fn_ok (slices_Clone_129.cok k) hmix Try.func129 (code := slices_Clone_129.code) (by kernel_rfl) (by kernel_rfl) (by kernel_rfl) rfl rfl (by kernel_rfl) (by kernel_rfl) (by kernel_rfl) (fun x => Nat.le_of_ble_eq_true (by kernel_rfl)) fun x y hy => (slices_Clone_129.way k x.1).ap hy

/-! tourney/tourmake.Below -/
noncomputable def tourmake_Below.code : Code := Func.cd Try.f57
def tourmake_Below (k : Nat) (a0 : Int) (a1 : Int) : Option Int :=
  req (nz a1) <|
  bif' (ilt (irem a0 a1) 0)
  (some (iadd .i64 (irem a0 a1) a1))
  (some (irem a0 a1))
noncomputable def tourmake_Below.sp (k : Nat) : Go.Sx.Spec := ⟨T22, (.one (.dp T2)), fun x => tourmake_Below k x.1 x.2.1, false⟩
noncomputable def tourmake_Below.cx (k : Nat) : Go.Sx.Ctx := ⟨tys, [], eqs, 14, 0, [], false⟩
theorem tourmake_Below.cok (k : Nat) : CtxOk PR (tourmake_Below.cx k) := ctx_ok tysOk eqsOk FnsOk.nil HsOk.nil
theorem tourmake_Below.way (k : Nat) (a0 : Int) (a1 : Int) : Owp (tourmake_Below k a0 a1) fun y => ∃ answers cmds, exec PR (tourmake_Below.cx k) tourmake_Below.code 0 (entry T22 (a0, a1, ())).st answers (Ret (tourmake_Below.cx k) Try.f57 cmds (.one (.dp T2)) y) := by
  unfold tourmake_Below; exact
   Owp.req fun h1 =>
   Owp.bif (fun e2 =>
   Owp.some (⟨[.dec true], [], via (retP (And.intro (And.intro trivial h1) e2) (.one (.dp T2)) ((iadd .i64 (irem a0 a1) a1) : Int)) (by kernel_rfl)⟩)) (fun e2 =>
   Owp.some (⟨[.dec false], [], via (retP (And.intro (And.intro trivial h1) e2) (.one (.dp T2)) ((irem a0 a1) : Int)) (by kernel_rfl)⟩))
theorem tourmake_Below.ok (k : Nat) : FnOk PR 57 (tourmake_Below.sp k) :=
  fn_ok (tourmake_Below.cok k) hmix Try.func57 (code := tourmake_Below.code) (by kernel_rfl) (by kernel_rfl) (by kernel_rfl) rfl rfl (by kernel_rfl) (by kernel_rfl) (by kernel_rfl) (fun x => Nat.le_of_ble_eq_true (by kernel_rfl)) fun x y hy => (tourmake_Below.way k x.1 x.2.1).ap hy

/-! (*tourney/tourmake.Stream).Next -/
noncomputable def tourmake_Stream_Next.code : Code := Func.cd Try.f168
def tourmake_Stream_Next.c1 (k : Nat) (a0 : ((List Int) × Unit)) (a1 : Int) : Option (Bool) :=
  bif' (ieq (len a0.1) 0)
  (some true)
  (some (ilt a1 1))
def tourmake_Stream_Next (k : Nat) (a0 : ((List Int) × Unit)) (a1 : Int) : Option (((List Int) × Unit) × Int) :=
  bnd (tourmake_Stream_Next.c1 k a0 a1) fun o2 =>
  bif' o2
  (some (a0, 0))
  (req (inL 0 a0.1) <|
   req (cutOk a0.1 1 (List.length a0.1 : Int)) <|
   bnd (tourmake_Below k (el 0 a0.1 0) a1) fun y7 =>
   some (((cut a0.1 1 (List.length a0.1 : Int)), ()), y7))
noncomputable def tourmake_Stream_Next.sp (k : Nat) : Go.Sx.Spec := ⟨(.pair (.ref (.pair T49 .unit)) (.pair T2 .unit)), (.more (.dp (.pair T49 .unit)) (.one (.dp T2))), fun x => tourmake_Stream_Next k x.1 x.2.1, true⟩
noncomputable def tourmake_Stream_Next.cx (k : Nat) : Go.Sx.Ctx := ⟨tys, [(57, tourmake_Below.sp k)], eqs, 33, 1, [], false⟩
theorem tourmake_Stream_Next.cok (k : Nat) : CtxOk PR (tourmake_Stream_Next.cx k) := ctx_ok tysOk eqsOk (FnsOk.cons (tourmake_Below.ok k) FnsOk.nil) HsOk.nil
noncomputable def tourmake_Stream_Next.c1p (a0 : ((List Int) × Unit)) (a1 : Int) : SL := ⟨[(0, (.val .ptr ⟨0, 0, (0 : Int), 0, 0⟩)), (1, (.val T2 a1))], [(0, .cells (.pair T49 .unit) a0)]⟩
noncomputable def tourmake_Stream_Next.c1q (a0 : ((List Int) × Unit)) (a1 : Int) (o : Bool) : SL := (fun v => ⟨[(0, (.val .ptr ⟨0, 0, (0 : Int), 0, 0⟩)), (1, (.val T2 a1)), (15, (.val T4 v))], [(0, .cells (.pair T49 .unit) a0)]⟩) o
noncomputable def tourmake_Stream_Next.c1x (o : Bool) : Ex := (fun _ => .normal) o
noncomputable def tourmake_Stream_Next.c1n (o : Bool) : Nat := (fun _ => 1) o
theorem tourmake_Stream_Next.c1_ok (k : Nat) (a0 : ((List Int) × Unit)) (a1 : Int) : Owp (tourmake_Stream_Next.c1 k a0 a1) fun o => Triple PR (tourmake_Stream_Next.cx k) (sub tourmake_Stream_Next.code [1, 0, 0]) 1 (tourmake_Stream_Next.c1p a0 a1) (tourmake_Stream_Next.c1x o) (tourmake_Stream_Next.c1n o) (tourmake_Stream_Next.c1q a0 a1 o) := by
  unfold tourmake_Stream_Next.c1; exact
   Owp.bif (fun e1 =>
   Owp.some (triple_way (tourmake_Stream_Next.cok k) hmix [.dec true, .dec true, .dec true] [] [(0, 0)] (via (finP (And.intro (And.intro (And.intro trivial e1) e1) e1) .normal [(0, 0)] (tourmake_Stream_Next.c1q a0 a1 true)) (by kernel_rfl)))) (fun e1 =>
   Owp.some (triple_way (tourmake_Stream_Next.cok k) hmix [.dec false, .dec false, .dec false] [] [(0, 0)] (via (finP (And.intro (And.intro (And.intro trivial e1) e1) e1) .normal [(0, 0)] (tourmake_Stream_Next.c1q a0 a1 (ilt a1 (1 : Int)))) (by kernel_rfl))))
@[irreducible] noncomputable def tourmake_Stream_Next.P (k : Nat) (a0 : ((List Int) × Unit)) (a1 : Int) (y : (((List Int) × Unit) × Int)) (answers : List Ans) (cmds : List Cmd) : Prop := exec PR (tourmake_Stream_Next.cx k) tourmake_Stream_Next.code 1 (entryW (.pair T49 .unit) (.pair T2 .unit) (a0, (a1, ()))).st answers (RetW (tourmake_Stream_Next.cx k) Try.f168 cmds (.pair T49 .unit) (.one (.dp T2)) y)
theorem tourmake_Stream_Next.way (k : Nat) (a0 : ((List Int) × Unit)) (a1 : Int) : Owp (tourmake_Stream_Next k a0 a1) fun y => ∃ answers cmds, tourmake_Stream_Next.P k a0 a1 y answers cmds := by
  unfold tourmake_Stream_Next; exact
   Owp.bnd fun o2 e3 =>
   Owp.bif (fun e4 =>
   Owp.some (⟨[.cutR 1 ⟨[], [(0, 0)], (tourmake_Stream_Next.c1p a0 a1), 1, .normal, (tourmake_Stream_Next.c1q a0 a1 o2), 1⟩, .dec true], [], via (cutP trivial [(0, 0)] (tourmake_Stream_Next.c1p a0 a1) (((tourmake_Stream_Next.c1_ok k a0 a1).ap e3)) (retwP (And.intro trivial e4) (.pair T49 .unit) (a0 : ((List Int) × Unit)) (.one (.dp T2)) ((0 : Int) : Int))) (by kernel_rfl)⟩)) (fun e4 =>
   Owp.req fun h5 =>
    Owp.req fun h6 =>
    Owp.bnd fun y7 e8 =>
    Owp.some (⟨[.cutR 1 ⟨[], [(0, 0)], (tourmake_Stream_Next.c1p a0 a1), 1, .normal, (tourmake_Stream_Next.c1q a0 a1 o2), 1⟩, .dec false, .res (.one (.dp T2)) y7], [], via (cutP trivial [(0, 0)] (tourmake_Stream_Next.c1p a0 a1) (((tourmake_Stream_Next.c1_ok k a0 a1).ap e3)) (retwP (And.intro (And.intro (And.intro (And.intro trivial e4) h5) h6) e8) (.pair T49 .unit) (((cut a0.1 (1 : Int) (List.length a0.1 : Int)), ()) : ((List Int) × Unit)) (.one (.dp T2)) (y7 : Int))) (by kernel_rfl)⟩))
theorem tourmake_Stream_Next.ok (k : Nat) : FnOk PR 168 (tourmake_Stream_Next.sp k) :=
  fnW_ok (t := (.pair T49 .unit)) (ps := (.pair T2 .unit)) (t' := (.pair T49 .unit)) (rs := (.one (.dp T2))) (g := fun x => tourmake_Stream_Next k x.1 x.2.1) (tourmake_Stream_Next.cok k) hmix Try.func168 (code := tourmake_Stream_Next.code) (by kernel_rfl) (by kernel_rfl) (by kernel_rfl) (by kernel_rfl) (by kernel_rfl) (by kernel_rfl) (by kernel_rfl) (by kernel_rfl) (by kernel_rfl) (fun x => Nat.le_of_ble_eq_true (by kernel_rfl)) fun x y hy => match (tourmake_Stream_Next.way k x.1 x.2.1).ap hy with | ⟨ans, cmds, h⟩ => ⟨ans, cmds, via h (by kernel_rfl)⟩

/-! tourney/tourmake.poly -/
noncomputable def tourmake_poly.code : Code := Func.cd Try.f167
def tourmake_poly (k : Nat) (a0 : ((List Int) × Unit)) : Option (((List Int) × Unit) × (List V22)) :=
  bnd (tourmake_Stream_Next k a0 4) fun y1 =>
  bnd (tourmake_Stream_Next k y1.1 4) fun y3 =>
  bnd (tourmake_Stream_Next k y3.1 4) fun y5 =>
  bif' (ieq y5.2 0)
  (some (y5.1, [((ineg .i64 (imul .i64 (iadd .i64 1 y1.2) 65536)), (ineg .i64 (imul .i64 (iadd .i64 1 y3.2) 65536)), ()), ((imul .i64 (iadd .i64 1 y1.2) 65536), (ineg .i64 (imul .i64 (iadd .i64 1 y3.2) 65536)), ()), ((imul .i64 (iadd .i64 1 y1.2) 65536), (imul .i64 (iadd .i64 1 y3.2) 65536), ()), ((ineg .i64 (imul .i64 (iadd .i64 1 y1.2) 65536)), (imul .i64 (iadd .i64 1 y3.2) 65536), ())]))
  (bif' (ieq y5.2 1)
   (bnd (tourmake_Stream_Next k y5.1 (imul .i64 2 (imul .i64 (iadd .i64 1 y1.2) 65536))) fun y9 =>
    some (y9.1, [((ineg .i64 (imul .i64 (iadd .i64 1 y1.2) 65536)), (ineg .i64 (imul .i64 (iadd .i64 1 y3.2) 65536)), ()), ((imul .i64 (iadd .i64 1 y1.2) 65536), (ineg .i64 (imul .i64 (iadd .i64 1 y3.2) 65536)), ()), ((isub .i64 y9.2 (imul .i64 (iadd .i64 1 y1.2) 65536)), (imul .i64 (iadd .i64 1 y3.2) 65536), ())]))
   (bif' (ieq y5.2 2)
    (some (y5.1, [((ineg .i64 (imul .i64 (iadd .i64 1 y1.2) 65536)), (ineg .i64 (imul .i64 (iadd .i64 1 y3.2) 65536)), ()), ((isub .i64 (imul .i64 (iadd .i64 1 y1.2) 65536) (iquo .i64 (imin (imul .i64 (iadd .i64 1 y1.2) 65536) (imul .i64 (iadd .i64 1 y3.2) 65536)) 2)), (ineg .i64 (imul .i64 (iadd .i64 1 y3.2) 65536)), ()), ((imul .i64 (iadd .i64 1 y1.2) 65536), (isub .i64 (iquo .i64 (imin (imul .i64 (iadd .i64 1 y1.2) 65536) (imul .i64 (iadd .i64 1 y3.2) 65536)) 2) (imul .i64 (iadd .i64 1 y3.2) 65536)), ()), ((imul .i64 (iadd .i64 1 y1.2) 65536), (imul .i64 (iadd .i64 1 y3.2) 65536), ()), ((ineg .i64 (imul .i64 (iadd .i64 1 y1.2) 65536)), (imul .i64 (iadd .i64 1 y3.2) 65536), ())]))
    (some (y5.1, [((ineg .i64 (imul .i64 (iadd .i64 1 y1.2) 65536)), 0, ()), (0, (ineg .i64 (imul .i64 (iadd .i64 1 y3.2) 65536)), ()), ((imul .i64 (iadd .i64 1 y1.2) 65536), 0, ()), (0, (imul .i64 (iadd .i64 1 y3.2) 65536), ())]))))
noncomputable def tourmake_poly.sp (k : Nat) : Go.Sx.Spec := ⟨(.pair (.ref (.pair T49 .unit)) .unit), (.more (.dp (.pair T49 .unit)) (.one (.dp T24))), fun x => tourmake_poly k x.1, true⟩
noncomputable def tourmake_poly.cx (k : Nat) : Go.Sx.Ctx := ⟨tys, [(168, tourmake_Stream_Next.sp k)], eqs, 96, 1, [], false⟩
theorem tourmake_poly.cok (k : Nat) : CtxOk PR (tourmake_poly.cx k) := ctx_ok tysOk eqsOk (FnsOk.cons (tourmake_Stream_Next.ok k) FnsOk.nil) HsOk.nil
@[irreducible] noncomputable def tourmake_poly.P (k : Nat) (a0 : ((List Int) × Unit)) (y : (((List Int) × Unit) × (List V22))) (answers : List Ans) (cmds : List Cmd) : Prop := exec PR (tourmake_poly.cx k) tourmake_poly.code 1 (entryW (.pair T49 .unit) .unit (a0, ())).st answers (RetW (tourmake_poly.cx k) Try.f167 cmds (.pair T49 .unit) (.one (.dp T24)) y)
theorem tourmake_poly.way (k : Nat) (a0 : ((List Int) × Unit)) : Owp (tourmake_poly k a0) fun y => ∃ answers cmds, tourmake_poly.P k a0 y answers cmds := by
  unfold tourmake_poly; exact
   Owp.bnd fun y1 e2 =>
   Owp.bnd fun y3 e4 =>
   Owp.bnd fun y5 e6 =>
   Owp.bif (fun e7 =>
   Owp.some (⟨[.res (.more (.dp (.pair T49 .unit)) (.one (.dp T2))) y1, .res (.more (.dp (.pair T49 .unit)) (.one (.dp T2))) y3, .res (.more (.dp (.pair T49 .unit)) (.one (.dp T2))) y5, .dec true, .dec true], [.freeze 2], via (retwP (And.intro (And.intro (And.intro (And.intro trivial e2) e4) e6) e7) (.pair T49 .unit) (y5.1 : ((List Int) × Unit)) (.one (.dp T24)) ([((ineg .i64 (imul .i64 (iadd .i64 (1 : Int) y1.2) (65536 : Int))), (ineg .i64 (imul .i64 (iadd .i64 (1 : Int) y3.2) (65536 : Int))), ()), ((imul .i64 (iadd .i64 (1 : Int) y1.2) (65536 : Int)), (ineg .i64 (imul .i64 (iadd .i64 (1 : Int) y3.2) (65536 : Int))), ()), ((imul .i64 (iadd .i64 (1 : Int) y1.2) (65536 : Int)), (imul .i64 (iadd .i64 (1 : Int) y3.2) (65536 : Int)), ()), ((ineg .i64 (imul .i64 (iadd .i64 (1 : Int) y1.2) (65536 : Int))), (imul .i64 (iadd .i64 (1 : Int) y3.2) (65536 : Int)), ())] : (List V22))) (by kernel_rfl)⟩)) (fun e7 =>
   Owp.bif (fun e8 =>
    Owp.bnd fun y9 e10 =>
     Owp.some (⟨[.res (.more (.dp (.pair T49 .unit)) (.one (.dp T2))) y1, .res (.more (.dp (.pair T49 .unit)) (.one (.dp T2))) y3, .res (.more (.dp (.pair T49 .unit)) (.one (.dp T2))) y5, .dec false, .dec true, .res (.more (.dp (.pair T49 .unit)) (.one (.dp T2))) y9, .dec true], [.freeze 2], via (retwP (And.intro (And.intro (And.intro (And.intro (And.intro (And.intro trivial e2) e4) e6) e7) e8) e10) (.pair T49 .unit) (y9.1 : ((List Int) × Unit)) (.one (.dp T24)) ([((ineg .i64 (imul .i64 (iadd .i64 (1 : Int) y1.2) (65536 : Int))), (ineg .i64 (imul .i64 (iadd .i64 (1 : Int) y3.2) (65536 : Int))), ()), ((imul .i64 (iadd .i64 (1 : Int) y1.2) (65536 : Int)), (ineg .i64 (imul .i64 (iadd .i64 (1 : Int) y3.2) (65536 : Int))), ()), ((isub .i64 y9.2 (imul .i64 (iadd .i64 (1 : Int) y1.2) (65536 : Int))), (imul .i64 (iadd .i64 (1 : Int) y3.2) (65536 : Int)), ())] : (List V22))) (by kernel_rfl)⟩)) (fun e8 =>
    Owp.bif (fun e11 =>
     Owp.some (⟨[.res (.more (.dp (.pair T49 .unit)) (.one (.dp T2))) y1, .res (.more (.dp (.pair T49 .unit)) (.one (.dp T2))) y3, .res (.more (.dp (.pair T49 .unit)) (.one (.dp T2))) y5, .dec false, .dec false, .dec true, .dec true], [.freeze 2], via (retwP (And.intro (And.intro (And.intro (And.intro (And.intro (And.intro (And.intro trivial e2) e4) e6) e7) e8) e11) (by decide : nz (2 : Int))) (.pair T49 .unit) (y5.1 : ((List Int) × Unit)) (.one (.dp T24)) ([((ineg .i64 (imul .i64 (iadd .i64 (1 : Int) y1.2) (65536 : Int))), (ineg .i64 (imul .i64 (iadd .i64 (1 : Int) y3.2) (65536 : Int))), ()), ((isub .i64 (imul .i64 (iadd .i64 (1 : Int) y1.2) (65536 : Int)) (iquo .i64 (imin (imul .i64 (iadd .i64 (1 : Int) y1.2) (65536 : Int)) (imul .i64 (iadd .i64 (1 : Int) y3.2) (65536 : Int))) (2 : Int))), (ineg .i64 (imul .i64 (iadd .i64 (1 : Int) y3.2) (65536 : Int))), ()), ((imul .i64 (iadd .i64 (1 : Int) y1.2) (65536 : Int)), (isub .i64 (iquo .i64 (imin (imul .i64 (iadd .i64 (1 : Int) y1.2) (65536 : Int)) (imul .i64 (iadd .i64 (1 : Int) y3.2) (65536 : Int))) (2 : Int)) (imul .i64 (iadd .i64 (1 : Int) y3.2) (65536 : Int))), ()), ((imul .i64 (iadd .i64 (1 : Int) y1.2) (65536 : Int)), (imul .i64 (iadd .i64 (1 : Int) y3.2) (65536 : Int)), ()), ((ineg .i64 (imul .i64 (iadd .i64 (1 : Int) y1.2) (65536 : Int))), (imul .i64 (iadd .i64 (1 : Int) y3.2) (65536 : Int)), ())] : (List V22))) (by kernel_rfl)⟩)) (fun e11 =>
     Owp.some (⟨[.res (.more (.dp (.pair T49 .unit)) (.one (.dp T2))) y1, .res (.more (.dp (.pair T49 .unit)) (.one (.dp T2))) y3, .res (.more (.dp (.pair T49 .unit)) (.one (.dp T2))) y5, .dec false, .dec false, .dec false, .dec true], [.freeze 2], via (retwP (And.intro (And.intro (And.intro (And.intro (And.intro (And.intro trivial e2) e4) e6) e7) e8) e11) (.pair T49 .unit) (y5.1 : ((List Int) × Unit)) (.one (.dp T24)) ([((ineg .i64 (imul .i64 (iadd .i64 (1 : Int) y1.2) (65536 : Int))), (0 : Int), ()), ((0 : Int), (ineg .i64 (imul .i64 (iadd .i64 (1 : Int) y3.2) (65536 : Int))), ()), ((imul .i64 (iadd .i64 (1 : Int) y1.2) (65536 : Int)), (0 : Int), ()), ((0 : Int), (imul .i64 (iadd .i64 (1 : Int) y3.2) (65536 : Int)), ())] : (List V22))) (by kernel_rfl)⟩))))
theorem tourmake_poly.ok (k : Nat) : FnOk PR 167 (tourmake_poly.sp k) :=
  fnW_ok (t := (.pair T49 .unit)) (ps := .unit) (t' := (.pair T49 .unit)) (rs := (.one (.dp T24))) (g := fun x => tourmake_poly k x.1) (tourmake_poly.cok k) hmix Try.func167 (code := tourmake_poly.code) (by kernel_rfl) (by kernel_rfl) (by kernel_rfl) (by kernel_rfl) (by kernel_rfl) (by kernel_rfl) (by kernel_rfl) (by kernel_rfl) (by kernel_rfl) (fun x => Nat.le_of_ble_eq_true (by kernel_rfl)) fun x y hy => match (tourmake_poly.way k x.1).ap hy with | ⟨ans, cmds, h⟩ => ⟨ans, cmds, via h (by kernel_rfl)⟩

end Go.Proofs.T1
