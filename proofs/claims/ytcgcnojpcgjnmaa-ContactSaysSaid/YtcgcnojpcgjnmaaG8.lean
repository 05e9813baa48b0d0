import Derived.Test.YtcgcnojpcgjnmaaG0
import Derived.Test.YtcgcnojpcgjnmaaG2
import Derived.Test.YtcgcnojpcgjnmaaG3
import Derived.Test.YtcgcnojpcgjnmaaG4
import Derived.Test.YtcgcnojpcgjnmaaG5
namespace Go.Proofs.T1
open Go Go.Sx Go.Proofs
set_option maxRecDepth 100000
set_option linter.unusedVariables false
/-! tourney/tourlaw2.satBegun -/
noncomputable def tourlaw2_satBegun.code : Code := Func.cd Try.f26
def tourlaw2_satBegun (k : Nat) : Option Bool :=
  bnd (tourlaw2_square k 0 0 4) fun y1 =>
  bnd (tourlaw2_square k 3 1 4) fun y3 =>
  bnd (sat_Test k y1 y3) fun y5 =>
  bif' y5.1
  (bif' (ieq y5.2.1 65536)
   (some (Ty.eqb T22 y5.2.2 ((65536 : Int), (0 : Int), ())))
   (some false))
  (some false)
noncomputable def tourlaw2_satBegun.sp (k : Nat) : Go.Sx.Spec := ⟨.unit, (.one (.dp T4)), fun x => tourlaw2_satBegun k, false⟩
noncomputable def tourlaw2_satBegun.cx (k : Nat) : Go.Sx.Ctx := ⟨tys, [(69, tourlaw2_square.sp k), (25, sat_Test.sp k)], eqs, 21, false⟩
theorem tourlaw2_satBegun.cok (k : Nat) : CtxOk PR (tourlaw2_satBegun.cx k) := ctx_ok tysOk eqsOk (FnsOk.cons (tourlaw2_square.ok k) (FnsOk.cons (sat_Test.ok k) FnsOk.nil))
theorem tourlaw2_satBegun.way (k : Nat) : Owp (tourlaw2_satBegun k) fun y => ∃ answers cmds, exec PR (tourlaw2_satBegun.cx k) tourlaw2_satBegun.code 0 (entry .unit ()).st answers (Ret (tourlaw2_satBegun.cx k) Try.f26 cmds (.one (.dp T4)) y) := by
  unfold tourlaw2_satBegun; exact
   Owp.bnd fun y1 e2 =>
   Owp.bnd fun y3 e4 =>
   Owp.bnd fun y5 e6 =>
   Owp.bif (fun e7 =>
   Owp.bif (fun e8 =>
    Owp.some (⟨[.res (.one (.ow T22 23)) y1, .res (.one (.ow T22 23)) y3, .res (.more (.dp T4) (.more (.dp T2) (.one (.dp T22)))) y5, .dec true, .dec true, .dec true, .dec true, .dec true, .dec true, .dec true], [], via (retP (And.intro (And.intro (And.intro (And.intro (And.intro (And.intro (And.intro (And.intro (And.intro (And.intro trivial e2) e4) e6) e7) e7) e7) e8) e8) e8) e8) (.one (.dp T4)) ((Ty.eqb T22 y5.2.2 ((65536 : Int), (0 : Int), ())) : Bool)) (by kernel_rfl)⟩)) (fun e8 =>
    Owp.some (⟨[.res (.one (.ow T22 23)) y1, .res (.one (.ow T22 23)) y3, .res (.more (.dp T4) (.more (.dp T2) (.one (.dp T22)))) y5, .dec true, .dec true, .dec true, .dec false, .dec false, .dec false, .dec false], [], via (retP (And.intro (And.intro (And.intro (And.intro (And.intro (And.intro (And.intro (And.intro (And.intro (And.intro trivial e2) e4) e6) e7) e7) e7) e8) e8) e8) e8) (.one (.dp T4)) (false : Bool)) (by kernel_rfl)⟩))) (fun e7 =>
   Owp.some (⟨[.res (.one (.ow T22 23)) y1, .res (.one (.ow T22 23)) y3, .res (.more (.dp T4) (.more (.dp T2) (.one (.dp T22)))) y5, .dec false, .dec false, .dec false, .dec false, .dec false, .dec false, .dec false], [], via (retP (And.intro (And.intro (And.intro (And.intro (And.intro (And.intro (And.intro (And.intro (And.intro (And.intro trivial e2) e4) e6) e7) e7) e7) ff) ff) ff) ff) (.one (.dp T4)) (false : Bool)) (by kernel_rfl)⟩))
theorem tourlaw2_satBegun.ok (k : Nat) : FnOk PR 26 (tourlaw2_satBegun.sp k) :=
  fn_ok (tourlaw2_satBegun.cok k) hmix Try.func26 (code := tourlaw2_satBegun.code) (by kernel_rfl) (by kernel_rfl) (by kernel_rfl) rfl (by kernel_rfl) (by kernel_rfl) (by kernel_rfl) (fun x => Nat.le_of_ble_eq_true (by kernel_rfl)) fun x y hy => (tourlaw2_satBegun.way k).ap hy

/-! tourney/tourref2.Root -/
noncomputable def tourref2_Root.code : Code := Func.cd Try.f28
def tourref2_Root.c2 (k : Nat) (a0 : Int) (v1 : Int) (v2 : Int) : Option (Int) :=
  bif' (ile (imul .i64 (iadd .i64 v1 v2) (iadd .i64 v1 v2)) a0)
  (some (iadd .i64 v1 v2))
  (some v1)
def tourref2_Root.c1 (k : Nat) (a0 : Int) : Nat → Int → Int → Option (Int)
  | 0, _, _ => none
  | n + 1, v1, v2 =>
   bif' (igt v2 0)
   (bnd (tourref2_Root.c2 k a0 v1 v2) fun o5 =>
    tourref2_Root.c1 k a0 n o5 (iquo .i64 v2 2))
   (some v1)
def tourref2_Root (k : Nat) (a0 : Int) : Option Int :=
  bnd (tourref2_Root.c1 k a0 k 0 1073741824) fun o7 =>
  some o7
noncomputable def tourref2_Root.sp (k : Nat) : Go.Sx.Spec := ⟨(.pair T2 .unit), (.one (.dp T2)), fun x => tourref2_Root k x.1, false⟩
noncomputable def tourref2_Root.cx (k : Nat) : Go.Sx.Ctx := ⟨tys, [], eqs, 22, false⟩
theorem tourref2_Root.cok (k : Nat) : CtxOk PR (tourref2_Root.cx k) := ctx_ok tysOk eqsOk FnsOk.nil
noncomputable def tourref2_Root.c2p (a0 : Int) (v1 : Int) (v2 : Int) : SL := ⟨[(0, (.val T2 a0)), (3, (.val T2 v1)), (4, (.val T2 v2)), (17, (.val T4 (ile (imul .i64 (iadd .i64 v1 v2) (iadd .i64 v1 v2)) a0)))], []⟩
noncomputable def tourref2_Root.c2q (a0 : Int) (v2 : Int) (o : Int) : SL := (fun v => ⟨[(0, (.val T2 a0)), (3, (.val T2 v)), (4, (.val T2 v2))], []⟩) o
noncomputable def tourref2_Root.c2x (o : Int) : Ex := (fun _ => .normal) o
noncomputable def tourref2_Root.c2n (o : Int) : Nat := (fun _ => 0) o
theorem tourref2_Root.c2_ok (k : Nat) (a0 : Int) (v1 : Int) (v2 : Int) : Owp (tourref2_Root.c2 k a0 v1 v2) fun o => Triple PR (tourref2_Root.cx k) (sub tourref2_Root.code [1, 1, 0, 1, 0, 0, 1, 0, 0, 1]) 0 (tourref2_Root.c2p a0 v1 v2) (tourref2_Root.c2x o) (tourref2_Root.c2n o) (tourref2_Root.c2q a0 v2 o) := by
  unfold tourref2_Root.c2; exact
   Owp.bif (fun e4 =>
   Owp.some (triple_way (tourref2_Root.cok k) hmix [.dec true] [] [] (via (finP (And.intro trivial e4) .normal [] (tourref2_Root.c2q a0 v2 (iadd .i64 v1 v2))) (by kernel_rfl)))) (fun e4 =>
   Owp.some (triple_way (tourref2_Root.cok k) hmix [.dec false] [] [] (via (finP (And.intro trivial e4) .normal [] (tourref2_Root.c2q a0 v2 v1)) (by kernel_rfl))))
noncomputable def tourref2_Root.c1p (a0 : Int) (v1 : Int) (v2 : Int) : SL := ⟨[(0, (.val T2 a0)), (3, (.val T2 v1)), (4, (.val T2 v2))], []⟩
noncomputable def tourref2_Root.c1q (o : Int) : SL := (fun v => ⟨[(3, (.val T2 v))], []⟩) o
noncomputable def tourref2_Root.c1x (o : Int) : Ex := (fun _ => (.exit 0)) o
noncomputable def tourref2_Root.c1n (o : Int) : Nat := (fun _ => 0) o
theorem tourref2_Root.c1_ok (k : Nat) (a0 : Int) : ∀ (n : Nat) (v1 : Int) (v2 : Int), Owp (tourref2_Root.c1 k a0 n v1 v2) fun o => LTriple PR (tourref2_Root.cx k) (sub tourref2_Root.code [1, 1, 0, 1, 0, 0]) 0 (tourref2_Root.c1p a0 v1 v2) (tourref2_Root.c1x o) (tourref2_Root.c1n o) (tourref2_Root.c1q o)
  | 0, _, _ => fun _ h => nomatch h
  | n + 1, v1, v2 => Owp.of (tourref2_Root.c1.eq_2 ..) (
   Owp.bif (fun e3 =>
   Owp.bnd fun o5 e6 =>
    fun y hy => loop_back (tourref2_Root.cok k) hmix 0 (tourref2_Root.c1p a0 o5 (iquo .i64 v2 (2 : Int))) [.dec true, .cut ⟨[], [], (tourref2_Root.c2p a0 v1 v2), 0, .normal, (tourref2_Root.c2q a0 v2 o5), 0⟩] [] [] (via (cutP (And.intro trivial e3) [] (tourref2_Root.c2p a0 v1 v2) (((tourref2_Root.c2_ok k a0 v1 v2).ap e6)) (finP (And.intro trivial (by decide : nz (2 : Int))) .normal [] (tourref2_Root.c1p a0 o5 (iquo .i64 v2 (2 : Int))))) (by kernel_rfl)) ((tourref2_Root.c1_ok k a0 n o5 (iquo .i64 v2 (2 : Int))).ap hy)) (fun e3 =>
   Owp.some (loop_exit (tourref2_Root.cok k) hmix [.dec false] [] [] (exne 0) (via (finP (And.intro trivial e3) (.exit 0) [] (tourref2_Root.c1q v1)) (by kernel_rfl)))))
theorem tourref2_Root.way (k : Nat) (a0 : Int) : Owp (tourref2_Root k a0) fun y => ∃ answers cmds, exec PR (tourref2_Root.cx k) tourref2_Root.code 0 (entry (.pair T2 .unit) (a0, ())).st answers (Ret (tourref2_Root.cx k) Try.f28 cmds (.one (.dp T2)) y) := by
  unfold tourref2_Root; exact
   Owp.bnd fun o7 e8 =>
   Owp.some (⟨[.cut ⟨[], [], (tourref2_Root.c1p a0 (0 : Int) (1073741824 : Int)), 0, (.exit 0), (tourref2_Root.c1q o7), 0⟩], [], via (cutP trivial [] (tourref2_Root.c1p a0 (0 : Int) (1073741824 : Int)) (((tourref2_Root.c1_ok k a0 k (0 : Int) (1073741824 : Int)).ap e8).triple) (retP trivial (.one (.dp T2)) (o7 : Int))) (by kernel_rfl)⟩)
theorem tourref2_Root.ok (k : Nat) : FnOk PR 28 (tourref2_Root.sp k) :=
  fn_ok (tourref2_Root.cok k) hmix Try.func28 (code := tourref2_Root.code) (by kernel_rfl) (by kernel_rfl) (by kernel_rfl) rfl (by kernel_rfl) (by kernel_rfl) (by kernel_rfl) (fun x => Nat.le_of_ble_eq_true (by kernel_rfl)) fun x y hy => (tourref2_Root.way k x.1).ap hy

/-! tourney/tourref2.Two -/
noncomputable def tourref2_Two.code : Code := Func.cd Try.f29
def tourref2_Two (k : Nat) (a0 : (List V22)) (a1 : (List V22)) : Option Int :=
  bnd (tourref2_Poly k a0) fun y1 =>
  bif' (ine y1 0)
  (some y1)
  (bnd (tourref2_Poly k a1) fun y4 =>
   some y4)
noncomputable def tourref2_Two.sp (k : Nat) : Go.Sx.Spec := ⟨(.pair T24 (.pair T24 .unit)), (.one (.dp T2)), fun x => tourref2_Two k x.1 x.2.1, false⟩
noncomputable def tourref2_Two.cx (k : Nat) : Go.Sx.Ctx := ⟨tys, [(50, tourref2_Poly.sp k)], eqs, 13, false⟩
theorem tourref2_Two.cok (k : Nat) : CtxOk PR (tourref2_Two.cx k) := ctx_ok tysOk eqsOk (FnsOk.cons (tourref2_Poly.ok k) FnsOk.nil)
theorem tourref2_Two.way (k : Nat) (a0 : (List V22)) (a1 : (List V22)) : Owp (tourref2_Two k a0 a1) fun y => ∃ answers cmds, exec PR (tourref2_Two.cx k) tourref2_Two.code 0 (entry (.pair T24 (.pair T24 .unit)) (a0, a1, ())).st answers (Ret (tourref2_Two.cx k) Try.f29 cmds (.one (.dp T2)) y) := by
  unfold tourref2_Two; exact
   Owp.bnd fun y1 e2 =>
   Owp.bif (fun e3 =>
   Owp.some (⟨[.res (.one (.dp T2)) y1, .dec true], [], via (retP (And.intro (And.intro trivial e2) e3) (.one (.dp T2)) (y1 : Int)) (by kernel_rfl)⟩)) (fun e3 =>
   Owp.bnd fun y4 e5 =>
    Owp.some (⟨[.res (.one (.dp T2)) y1, .dec false, .res (.one (.dp T2)) y4], [], via (retP (And.intro (And.intro (And.intro trivial e2) e3) e5) (.one (.dp T2)) (y4 : Int)) (by kernel_rfl)⟩))
theorem tourref2_Two.ok (k : Nat) : FnOk PR 29 (tourref2_Two.sp k) :=
  fn_ok (tourref2_Two.cok k) hmix Try.func29 (code := tourref2_Two.code) (by kernel_rfl) (by kernel_rfl) (by kernel_rfl) rfl (by kernel_rfl) (by kernel_rfl) (by kernel_rfl) (fun x => Nat.le_of_ble_eq_true (by kernel_rfl)) fun x y hy => (tourref2_Two.way k x.1 x.2.1).ap hy

/-! tourney/tourref2.cross$1 -/
noncomputable def tourref2_cross_1.code : Code := Func.cd Try.f165
def tourref2_cross_1 (k : Nat) (a0 : V22) (a1 : V22) (a2 : V22) (a3 : Int) : Option Bool :=
  bif' (ieq a3 0)
  (bif' (ile (imin a0.1 a1.1) a2.1)
   (bif' (ile a2.1 (imax a0.1 a1.1))
    (bif' (ile (imin a0.2.1 a1.2.1) a2.2.1)
     (some (ile a2.2.1 (imax a0.2.1 a1.2.1)))
     (some false))
    (some false))
   (some false))
  (some false)
noncomputable def tourref2_cross_1.sp (k : Nat) : Go.Sx.Spec := ⟨(.pair T22 (.pair T22 (.pair T22 (.pair T2 .unit)))), (.one (.dp T4)), fun x => tourref2_cross_1 k x.1 x.2.1 x.2.2.1 x.2.2.2.1, false⟩
noncomputable def tourref2_cross_1.cx (k : Nat) : Go.Sx.Ctx := ⟨tys, [], eqs, 51, false⟩
theorem tourref2_cross_1.cok (k : Nat) : CtxOk PR (tourref2_cross_1.cx k) := ctx_ok tysOk eqsOk FnsOk.nil
theorem tourref2_cross_1.way (k : Nat) (a0 : V22) (a1 : V22) (a2 : V22) (a3 : Int) : Owp (tourref2_cross_1 k a0 a1 a2 a3) fun y => ∃ answers cmds, exec PR (tourref2_cross_1.cx k) tourref2_cross_1.code 0 (entry (.pair T22 (.pair T22 (.pair T22 (.pair T2 .unit)))) (a0, a1, a2, a3, ())).st answers (Ret (tourref2_cross_1.cx k) Try.f165 cmds (.one (.dp T4)) y) := by
  unfold tourref2_cross_1; exact
   Owp.bif (fun e1 =>
   Owp.bif (fun e2 =>
    Owp.bif (fun e3 =>
     Owp.bif (fun e4 =>
      Owp.some (⟨[.dec true, .dec true, .dec true, .dec true, .dec true, .dec true, .dec true, .dec true, .dec true, .dec true, .dec true, .dec true, .dec true, .dec true, .dec true, .dec true, .dec true, .dec true, .dec true, .dec true, .dec true, .dec true, .dec true, .dec true, .dec true, .dec true, .dec true, .dec true, .dec true, .dec true, .dec true, .dec true, .dec true, .dec true, .dec true, .dec true], [], via (retP (And.intro (And.intro (And.intro (And.intro (And.intro (And.intro (And.intro (And.intro (And.intro (And.intro (And.intro (And.intro (And.intro (And.intro (And.intro (And.intro (And.intro (And.intro (And.intro (And.intro (And.intro (And.intro (And.intro (And.intro (And.intro (And.intro (And.intro (And.intro (And.intro (And.intro (And.intro (And.intro (And.intro (And.intro (And.intro (And.intro trivial e1) e1) e1) e1) e1) e1) e1) e1) e1) e2) e2) e2) e2) e2) e2) e2) e2) e2) e3) e3) e3) e3) e3) e3) e3) e3) e3) e4) e4) e4) e4) e4) e4) e4) e4) e4) (.one (.dp T4)) ((ile a2.2.1 (imax a0.2.1 a1.2.1)) : Bool)) (by kernel_rfl)⟩)) (fun e4 =>
      Owp.some (⟨[.dec true, .dec true, .dec true, .dec true, .dec true, .dec true, .dec true, .dec true, .dec true, .dec true, .dec true, .dec true, .dec true, .dec true, .dec true, .dec true, .dec true, .dec true, .dec true, .dec true, .dec true, .dec true, .dec true, .dec true, .dec true, .dec true, .dec true, .dec false, .dec false, .dec false, .dec false, .dec false, .dec false, .dec false, .dec false, .dec false], [], via (retP (And.intro (And.intro (And.intro (And.intro (And.intro (And.intro (And.intro (And.intro (And.intro (And.intro (And.intro (And.intro (And.intro (And.intro (And.intro (And.intro (And.intro (And.intro (And.intro (And.intro (And.intro (And.intro (And.intro (And.intro (And.intro (And.intro (And.intro (And.intro (And.intro (And.intro (And.intro (And.intro (And.intro (And.intro (And.intro (And.intro trivial e1) e1) e1) e1) e1) e1) e1) e1) e1) e2) e2) e2) e2) e2) e2) e2) e2) e2) e3) e3) e3) e3) e3) e3) e3) e3) e3) e4) e4) e4) e4) e4) e4) e4) e4) e4) (.one (.dp T4)) (false : Bool)) (by kernel_rfl)⟩))) (fun e3 =>
     Owp.some (⟨[.dec true, .dec true, .dec true, .dec true, .dec true, .dec true, .dec true, .dec true, .dec true, .dec true, .dec true, .dec true, .dec true, .dec true, .dec true, .dec true, .dec true, .dec true, .dec false, .dec false, .dec false, .dec false, .dec false, .dec false, .dec false, .dec false, .dec false, .dec false, .dec false, .dec false, .dec false, .dec false, .dec false, .dec false, .dec false, .dec false], [], via (retP (And.intro (And.intro (And.intro (And.intro (And.intro (And.intro (And.intro (And.intro (And.intro (And.intro (And.intro (And.intro (And.intro (And.intro (And.intro (And.intro (And.intro (And.intro (And.intro (And.intro (And.intro (And.intro (And.intro (And.intro (And.intro (And.intro (And.intro (And.intro (And.intro (And.intro (And.intro (And.intro (And.intro (And.intro (And.intro (And.intro trivial e1) e1) e1) e1) e1) e1) e1) e1) e1) e2) e2) e2) e2) e2) e2) e2) e2) e2) e3) e3) e3) e3) e3) e3) e3) e3) e3) ff) ff) ff) ff) ff) ff) ff) ff) ff) (.one (.dp T4)) (false : Bool)) (by kernel_rfl)⟩))) (fun e2 =>
    Owp.some (⟨[.dec true, .dec true, .dec true, .dec true, .dec true, .dec true, .dec true, .dec true, .dec true, .dec false, .dec false, .dec false, .dec false, .dec false, .dec false, .dec false, .dec false, .dec false, .dec false, .dec false, .dec false, .dec false, .dec false, .dec false, .dec false, .dec false, .dec false, .dec false, .dec false, .dec false, .dec false, .dec false, .dec false, .dec false, .dec false, .dec false], [], via (retP (And.intro (And.intro (And.intro (And.intro (And.intro (And.intro (And.intro (And.intro (And.intro (And.intro (And.intro (And.intro (And.intro (And.intro (And.intro (And.intro (And.intro (And.intro (And.intro (And.intro (And.intro (And.intro (And.intro (And.intro (And.intro (And.intro (And.intro (And.intro (And.intro (And.intro (And.intro (And.intro (And.intro (And.intro (And.intro (And.intro trivial e1) e1) e1) e1) e1) e1) e1) e1) e1) e2) e2) e2) e2) e2) e2) e2) e2) e2) ff) ff) ff) ff) ff) ff) ff) ff) ff) ff) ff) ff) ff) ff) ff) ff) ff) ff) (.one (.dp T4)) (false : Bool)) (by kernel_rfl)⟩))) (fun e1 =>
   Owp.some (⟨[.dec false, .dec false, .dec false, .dec false, .dec false, .dec false, .dec false, .dec false, .dec false, .dec false, .dec false, .dec false, .dec false, .dec false, .dec false, .dec false, .dec false, .dec false, .dec false, .dec false, .dec false, .dec false, .dec false, .dec false, .dec false, .dec false, .dec false, .dec false, .dec false, .dec false, .dec false, .dec false, .dec false, .dec false, .dec false, .dec false], [], via (retP (And.intro (And.intro (And.intro (And.intro (And.intro (And.intro (And.intro (And.intro (And.intro (And.intro (And.intro (And.intro (And.intro (And.intro (And.intro (And.intro (And.intro (And.intro (And.intro (And.intro (And.intro (And.intro (And.intro (And.intro (And.intro (And.intro (And.intro (And.intro (And.intro (And.intro (And.intro (And.intro (And.intro (And.intro (And.intro (And.intro trivial e1) e1) e1) e1) e1) e1) e1) e1) e1) ff) ff) ff) ff) ff) ff) ff) ff) ff) ff) ff) ff) ff) ff) ff) ff) ff) ff) ff) ff) ff) ff) ff) ff) ff) ff) ff) (.one (.dp T4)) (false : Bool)) (by kernel_rfl)⟩))
theorem tourref2_cross_1.ok (k : Nat) : FnOk PR 165 (tourref2_cross_1.sp k) :=
  fn_ok (tourref2_cross_1.cok k) hmix Try.func165 (code := tourref2_cross_1.code) (by kernel_rfl) (by kernel_rfl) (by kernel_rfl) rfl (by kernel_rfl) (by kernel_rfl) (by kernel_rfl) (fun x => Nat.le_of_ble_eq_true (by kernel_rfl)) fun x y hy => (tourref2_cross_1.way k x.1 x.2.1 x.2.2.1 x.2.2.2.1).ap hy

/-! tourney/tourref2.cross -/
noncomputable def tourref2_cross.code : Code := Func.cd Try.f101
def tourref2_cross.c1 (k : Nat) (y1 : Int) (y3 : Int) (y5 : Int) (y7 : Int) : Option (Bool) :=
  bif' (ilt (imul .i64 y1 y3) 0)
  (some (ilt (imul .i64 y5 y7) 0))
  (some false)
def tourref2_cross (k : Nat) (a0 : V22) (a1 : V22) (a2 : V22) (a3 : V22) : Option Bool :=
  bnd (tourref2_left k a0 a1 a2) fun y1 =>
  bnd (tourref2_left k a0 a1 a3) fun y3 =>
  bnd (tourref2_left k a2 a3 a0) fun y5 =>
  bnd (tourref2_left k a2 a3 a1) fun y7 =>
  bnd (tourref2_cross.c1 k y1 y3 y5 y7) fun o10 =>
  bif' o10
  (some true)
  (bnd (tourref2_cross_1 k a0 a1 a2 y1) fun y13 =>
   bif' y13
   (some true)
   (bnd (tourref2_cross_1 k a0 a1 a3 y3) fun y16 =>
    bif' y16
    (some true)
    (bnd (tourref2_cross_1 k a2 a3 a0 y5) fun y19 =>
     bif' y19
     (some true)
     (bnd (tourref2_cross_1 k a2 a3 a1 y7) fun y22 =>
      some y22))))
noncomputable def tourref2_cross.sp (k : Nat) : Go.Sx.Spec := ⟨(.pair T22 (.pair T22 (.pair T22 (.pair T22 .unit)))), (.one (.dp T4)), fun x => tourref2_cross k x.1 x.2.1 x.2.2.1 x.2.2.2.1, false⟩
noncomputable def tourref2_cross.cx (k : Nat) : Go.Sx.Ctx := ⟨tys, [(124, tourref2_left.sp k), (165, tourref2_cross_1.sp k)], eqs, 70, false⟩
theorem tourref2_cross.cok (k : Nat) : CtxOk PR (tourref2_cross.cx k) := ctx_ok tysOk eqsOk (FnsOk.cons (tourref2_left.ok k) (FnsOk.cons (tourref2_cross_1.ok k) FnsOk.nil))
noncomputable def tourref2_cross.c1p (a0 : V22) (a1 : V22) (a2 : V22) (a3 : V22) (y1 : Int) (y3 : Int) (y5 : Int) (y7 : Int) : SL := ⟨[(4, (.val .ptr ⟨0, 0, (0 : Int), 0, 0⟩)), (5, (.val .ptr ⟨1, 0, (0 : Int), 0, 0⟩)), (6, (.val .ptr ⟨2, 0, (0 : Int), 0, 0⟩)), (7, (.val .ptr ⟨3, 0, (0 : Int), 0, 0⟩)), (9, (.val T2 y1)), (10, (.val T2 y3)), (11, (.val T2 y5)), (12, (.val T2 y7))], [(0, .cells T22 a0), (1, .cells T22 a1), (2, .cells T22 a2), (3, .cells T22 a3)]⟩
noncomputable def tourref2_cross.c1q (a0 : V22) (a1 : V22) (a2 : V22) (a3 : V22) (y1 : Int) (y3 : Int) (y5 : Int) (y7 : Int) (o : Bool) : SL := (fun v => ⟨[(4, (.val .ptr ⟨0, 0, (0 : Int), 0, 0⟩)), (5, (.val .ptr ⟨1, 0, (0 : Int), 0, 0⟩)), (6, (.val .ptr ⟨2, 0, (0 : Int), 0, 0⟩)), (7, (.val .ptr ⟨3, 0, (0 : Int), 0, 0⟩)), (9, (.val T2 y1)), (10, (.val T2 y3)), (11, (.val T2 y5)), (12, (.val T2 y7)), (39, (.val T4 v))], [(0, .cells T22 a0), (1, .cells T22 a1), (2, .cells T22 a2), (3, .cells T22 a3)]⟩) o
noncomputable def tourref2_cross.c1x (o : Bool) : Ex := (fun _ => .normal) o
noncomputable def tourref2_cross.c1n (o : Bool) : Nat := (fun _ => 4) o
theorem tourref2_cross.c1_ok (k : Nat) (a0 : V22) (a1 : V22) (a2 : V22) (a3 : V22) (y1 : Int) (y3 : Int) (y5 : Int) (y7 : Int) : Owp (tourref2_cross.c1 k y1 y3 y5 y7) fun o => Triple PR (tourref2_cross.cx k) (sub tourref2_cross.code [1, 1, 0, 0]) 4 (tourref2_cross.c1p a0 a1 a2 a3 y1 y3 y5 y7) (tourref2_cross.c1x o) (tourref2_cross.c1n o) (tourref2_cross.c1q a0 a1 a2 a3 y1 y3 y5 y7 o) := by
  unfold tourref2_cross.c1; exact
   Owp.bif (fun e9 =>
   Owp.some (triple_way (tourref2_cross.cok k) hmix [.dec true, .dec true, .dec true, .dec true, .dec true] [] [(0, 0), (1, 1), (2, 2), (3, 3)] (via (finP (And.intro (And.intro (And.intro (And.intro (And.intro trivial e9) e9) e9) e9) e9) .normal [(0, 0), (1, 1), (2, 2), (3, 3)] (tourref2_cross.c1q a0 a1 a2 a3 y1 y3 y5 y7 (ilt (imul .i64 y5 y7) (0 : Int)))) (by kernel_rfl)))) (fun e9 =>
   Owp.some (triple_way (tourref2_cross.cok k) hmix [.dec false, .dec false, .dec false, .dec false, .dec false] [] [(0, 0), (1, 1), (2, 2), (3, 3)] (via (finP (And.intro (And.intro (And.intro (And.intro (And.intro trivial e9) e9) e9) e9) e9) .normal [(0, 0), (1, 1), (2, 2), (3, 3)] (tourref2_cross.c1q a0 a1 a2 a3 y1 y3 y5 y7 false)) (by kernel_rfl))))
theorem tourref2_cross.way (k : Nat) (a0 : V22) (a1 : V22) (a2 : V22) (a3 : V22) : Owp (tourref2_cross k a0 a1 a2 a3) fun y => ∃ answers cmds, exec PR (tourref2_cross.cx k) tourref2_cross.code 0 (entry (.pair T22 (.pair T22 (.pair T22 (.pair T22 .unit)))) (a0, a1, a2, a3, ())).st answers (Ret (tourref2_cross.cx k) Try.f101 cmds (.one (.dp T4)) y) := by
  unfold tourref2_cross; exact
   Owp.bnd fun y1 e2 =>
   Owp.bnd fun y3 e4 =>
   Owp.bnd fun y5 e6 =>
   Owp.bnd fun y7 e8 =>
   Owp.bnd fun o10 e11 =>
   Owp.bif (fun e12 =>
   Owp.some (⟨[.res (.one (.dp T2)) y1, .res (.one (.dp T2)) y3, .res (.one (.dp T2)) y5, .res (.one (.dp T2)) y7, .cutR 2 ⟨[], [(0, 0), (1, 1), (2, 2), (3, 3)], (tourref2_cross.c1p a0 a1 a2 a3 y1 y3 y5 y7), 4, .normal, (tourref2_cross.c1q a0 a1 a2 a3 y1 y3 y5 y7 o10), 4⟩, .dec true], [], via (cutP (And.intro (And.intro (And.intro (And.intro trivial e2) e4) e6) e8) [(0, 0), (1, 1), (2, 2), (3, 3)] (tourref2_cross.c1p a0 a1 a2 a3 y1 y3 y5 y7) (((tourref2_cross.c1_ok k a0 a1 a2 a3 y1 y3 y5 y7).ap e11)) (retP (And.intro trivial e12) (.one (.dp T4)) (true : Bool))) (by kernel_rfl)⟩)) (fun e12 =>
   Owp.bnd fun y13 e14 =>
    Owp.bif (fun e15 =>
    Owp.some (⟨[.res (.one (.dp T2)) y1, .res (.one (.dp T2)) y3, .res (.one (.dp T2)) y5, .res (.one (.dp T2)) y7, .cutR 2 ⟨[], [(0, 0), (1, 1), (2, 2), (3, 3)], (tourref2_cross.c1p a0 a1 a2 a3 y1 y3 y5 y7), 4, .normal, (tourref2_cross.c1q a0 a1 a2 a3 y1 y3 y5 y7 o10), 4⟩, .dec false, .res (.one (.dp T4)) y13, .dec true, .dec true, .dec true, .dec true, .dec true, .dec true, .dec true, .dec true, .dec true, .dec true, .dec true, .dec true, .dec true, .dec true, .dec true, .dec true, .dec true, .dec true, .dec true, .dec true, .dec true, .dec true, .dec true, .dec true], [], via (cutP (And.intro (And.intro (And.intro (And.intro trivial e2) e4) e6) e8) [(0, 0), (1, 1), (2, 2), (3, 3)] (tourref2_cross.c1p a0 a1 a2 a3 y1 y3 y5 y7) (((tourref2_cross.c1_ok k a0 a1 a2 a3 y1 y3 y5 y7).ap e11)) (retP (And.intro (And.intro (And.intro (And.intro (And.intro (And.intro (And.intro (And.intro (And.intro (And.intro (And.intro (And.intro (And.intro (And.intro (And.intro (And.intro (And.intro (And.intro (And.intro (And.intro (And.intro (And.intro (And.intro trivial e12) e14) e15) e15) e15) e15) e15) e15) e15) tt) tt) tt) tt) tt) tt) tt) tt) tt) tt) tt) tt) tt) tt) (.one (.dp T4)) (true : Bool))) (by kernel_rfl)⟩)) (fun e15 =>
    Owp.bnd fun y16 e17 =>
     Owp.bif (fun e18 =>
     Owp.some (⟨[.res (.one (.dp T2)) y1, .res (.one (.dp T2)) y3, .res (.one (.dp T2)) y5, .res (.one (.dp T2)) y7, .cutR 2 ⟨[], [(0, 0), (1, 1), (2, 2), (3, 3)], (tourref2_cross.c1p a0 a1 a2 a3 y1 y3 y5 y7), 4, .normal, (tourref2_cross.c1q a0 a1 a2 a3 y1 y3 y5 y7 o10), 4⟩, .dec false, .res (.one (.dp T4)) y13, .dec false, .dec false, .dec false, .dec false, .dec false, .dec false, .res (.one (.dp T4)) y16, .dec false, .dec true, .dec true, .dec true, .dec true, .dec true, .dec true, .dec true, .dec true, .dec true, .dec true, .dec true, .dec true, .dec true, .dec true, .dec true, .dec true], [], via (cutP (And.intro (And.intro (And.intro (And.intro trivial e2) e4) e6) e8) [(0, 0), (1, 1), (2, 2), (3, 3)] (tourref2_cross.c1p a0 a1 a2 a3 y1 y3 y5 y7) (((tourref2_cross.c1_ok k a0 a1 a2 a3 y1 y3 y5 y7).ap e11)) (retP (And.intro (And.intro (And.intro (And.intro (And.intro (And.intro (And.intro (And.intro (And.intro (And.intro (And.intro (And.intro (And.intro (And.intro (And.intro (And.intro (And.intro (And.intro (And.intro (And.intro (And.intro (And.intro (And.intro trivial e12) e14) e15) e15) e15) e15) e15) (And.intro e15 e17)) e15) e18) e18) e18) e18) e18) e18) e18) tt) tt) tt) tt) tt) tt) tt) (.one (.dp T4)) (true : Bool))) (by kernel_rfl)⟩)) (fun e18 =>
     Owp.bnd fun y19 e20 =>
      Owp.bif (fun e21 =>
      Owp.some (⟨[.res (.one (.dp T2)) y1, .res (.one (.dp T2)) y3, .res (.one (.dp T2)) y5, .res (.one (.dp T2)) y7, .cutR 2 ⟨[], [(0, 0), (1, 1), (2, 2), (3, 3)], (tourref2_cross.c1p a0 a1 a2 a3 y1 y3 y5 y7), 4, .normal, (tourref2_cross.c1q a0 a1 a2 a3 y1 y3 y5 y7 o10), 4⟩, .dec false, .res (.one (.dp T4)) y13, .dec false, .dec false, .dec false, .dec false, .dec false, .dec false, .res (.one (.dp T4)) y16, .dec false, .dec false, .dec false, .dec false, .dec false, .dec false, .dec false, .res (.one (.dp T4)) y19, .dec false, .dec true, .dec true, .dec true, .dec true, .dec true, .dec true, .dec true, .dec true], [], via (cutP (And.intro (And.intro (And.intro (And.intro trivial e2) e4) e6) e8) [(0, 0), (1, 1), (2, 2), (3, 3)] (tourref2_cross.c1p a0 a1 a2 a3 y1 y3 y5 y7) (((tourref2_cross.c1_ok k a0 a1 a2 a3 y1 y3 y5 y7).ap e11)) (retP (And.intro (And.intro (And.intro (And.intro (And.intro (And.intro (And.intro (And.intro (And.intro (And.intro (And.intro (And.intro (And.intro (And.intro (And.intro (And.intro (And.intro (And.intro (And.intro (And.intro (And.intro (And.intro (And.intro trivial e12) e14) e15) e15) e15) e15) e15) (And.intro e15 e17)) e15) e18) e18) e18) e18) e18) (And.intro e18 e20)) e18) e21) e21) e21) e21) e21) e21) e21) (.one (.dp T4)) (true : Bool))) (by kernel_rfl)⟩)) (fun e21 =>
      Owp.bnd fun y22 e23 =>
       Owp.some (⟨[.res (.one (.dp T2)) y1, .res (.one (.dp T2)) y3, .res (.one (.dp T2)) y5, .res (.one (.dp T2)) y7, .cutR 2 ⟨[], [(0, 0), (1, 1), (2, 2), (3, 3)], (tourref2_cross.c1p a0 a1 a2 a3 y1 y3 y5 y7), 4, .normal, (tourref2_cross.c1q a0 a1 a2 a3 y1 y3 y5 y7 o10), 4⟩, .dec false, .res (.one (.dp T4)) y13, .dec false, .dec false, .dec false, .dec false, .dec false, .dec false, .res (.one (.dp T4)) y16, .dec false, .dec false, .dec false, .dec false, .dec false, .dec false, .dec false, .res (.one (.dp T4)) y19, .dec false, .dec false, .dec false, .dec false, .dec false, .dec false, .dec false, .res (.one (.dp T4)) y22, .dec false], [], via (cutP (And.intro (And.intro (And.intro (And.intro trivial e2) e4) e6) e8) [(0, 0), (1, 1), (2, 2), (3, 3)] (tourref2_cross.c1p a0 a1 a2 a3 y1 y3 y5 y7) (((tourref2_cross.c1_ok k a0 a1 a2 a3 y1 y3 y5 y7).ap e11)) (retP (And.intro (And.intro (And.intro (And.intro (And.intro (And.intro (And.intro (And.intro (And.intro (And.intro (And.intro (And.intro (And.intro (And.intro (And.intro (And.intro (And.intro (And.intro (And.intro (And.intro (And.intro (And.intro (And.intro trivial e12) e14) e15) e15) e15) e15) e15) (And.intro e15 e17)) e15) e18) e18) e18) e18) e18) (And.intro e18 e20)) e18) e21) e21) e21) e21) e21) (And.intro e21 e23)) e21) (.one (.dp T4)) (y22 : Bool))) (by kernel_rfl)⟩)))))
theorem tourref2_cross.ok (k : Nat) : FnOk PR 101 (tourref2_cross.sp k) :=
  fn_ok (tourref2_cross.cok k) hmix Try.func101 (code := tourref2_cross.code) (by kernel_rfl) (by kernel_rfl) (by kernel_rfl) rfl (by kernel_rfl) (by kernel_rfl) (by kernel_rfl) (fun x => Nat.le_of_ble_eq_true (by kernel_rfl)) fun x y hy => (tourref2_cross.way k x.1 x.2.1 x.2.2.1 x.2.2.2.1).ap hy

/-! tourney/tourref2.Meet -/
noncomputable def tourref2_Meet.code : Code := Func.cd Try.f30
def tourref2_Meet.c1 (k : Nat) (a0 : (List V22)) (a1 : (List V22)) : Option (Bool) :=
  req (inL 0 a1) <|
  bnd (tourref2_Inside k a0 (el Z22 a1 0)) fun y2 =>
  bif' y2
  (some true)
  (req (inL 0 a0) <|
   bnd (tourref2_Inside k a1 (el Z22 a0 0)) fun y6 =>
   some y6)
def tourref2_Meet.c3 (k : Nat) (a0 : (List V22)) (a1 : (List V22)) (v11 : Int) : Nat → Int → Option (Unit ⊕ Unit)
  | 0, _ => none
  | n + 1, v14 =>
   bif' (ilt v14 (len a1))
   (req (inL v14 a1) <|
    req (nz (len a0)) <|
    req (inL (irem (iadd .i64 v11 1) (len a0)) a0) <|
    req (nz (len a1)) <|
    req (inL (irem (iadd .i64 v14 1) (len a1)) a1) <|
    bnd (tourref2_cross k (el Z22 a0 v11) (el Z22 a0 (irem (iadd .i64 v11 1) (len a0))) (el Z22 a1 v14) (el Z22 a1 (irem (iadd .i64 v14 1) (len a1)))) fun y21 =>
    bif' y21
    (some (.inl ()))
    (tourref2_Meet.c3 k a0 a1 v11 n (iadd .i64 v14 1)))
   (some (.inr ()))
def tourref2_Meet.c2 (k : Nat) (a0 : (List V22)) (a1 : (List V22)) : Nat → Int → Option (Unit ⊕ Unit)
  | 0, _ => none
  | n + 1, v11 =>
   bif' (ilt v11 (len a0))
   (req (inL v11 a0) <|
    bnd (tourref2_Meet.c3 k a0 a1 v11 k 0) fun o24 =>
    two o24 (fun y26 =>
    some (.inl ())) (fun y28 =>
    tourref2_Meet.c2 k a0 a1 n (iadd .i64 v11 1)))
   (some (.inr ()))
def tourref2_Meet (k : Nat) (a0 : (List V22)) (a1 : (List V22)) : Option Bool :=
  bnd (tourref2_Meet.c1 k a0 a1) fun o8 =>
  bif' o8
  (some true)
  (bnd (tourref2_Meet.c2 k a0 a1 k 0) fun o30 =>
   two o30 (fun y32 =>
   some true) (fun y34 =>
   some false))
noncomputable def tourref2_Meet.sp (k : Nat) : Go.Sx.Spec := ⟨(.pair T24 (.pair T24 .unit)), (.one (.dp T4)), fun x => tourref2_Meet k x.1 x.2.1, false⟩
noncomputable def tourref2_Meet.cx (k : Nat) : Go.Sx.Ctx := ⟨tys, [(100, tourref2_Inside.sp k), (101, tourref2_cross.sp k)], eqs, 56, false⟩
theorem tourref2_Meet.cok (k : Nat) : CtxOk PR (tourref2_Meet.cx k) := ctx_ok tysOk eqsOk (FnsOk.cons (tourref2_Inside.ok k) (FnsOk.cons (tourref2_cross.ok k) FnsOk.nil))
noncomputable def tourref2_Meet.c1p (a0 : (List V22)) (a1 : (List V22)) : SL := ⟨[(0, (.val T24 a0)), (1, (.val T24 a1))], []⟩
noncomputable def tourref2_Meet.c1q (a0 : (List V22)) (a1 : (List V22)) (o : Bool) : SL := (fun v => ⟨[(0, (.val T24 a0)), (1, (.val T24 a1)), (20, (.val T4 v))], []⟩) o
noncomputable def tourref2_Meet.c1x (o : Bool) : Ex := (fun _ => .normal) o
noncomputable def tourref2_Meet.c1n (o : Bool) : Nat := (fun _ => 0) o
theorem tourref2_Meet.c1_ok (k : Nat) (a0 : (List V22)) (a1 : (List V22)) : Owp (tourref2_Meet.c1 k a0 a1) fun o => Triple PR (tourref2_Meet.cx k) (sub tourref2_Meet.code [1, 0, 0]) 0 (tourref2_Meet.c1p a0 a1) (tourref2_Meet.c1x o) (tourref2_Meet.c1n o) (tourref2_Meet.c1q a0 a1 o) := by
  unfold tourref2_Meet.c1; exact
   Owp.req fun h1 =>
   Owp.bnd fun y2 e3 =>
   Owp.bif (fun e4 =>
   Owp.some (triple_way (tourref2_Meet.cok k) hmix [.res (.one (.dp T4)) y2, .dec true, .dec true, .dec true, .dec true, .dec true, .dec true, .dec true] [] [] (via (finP (And.intro (And.intro (And.intro (And.intro (And.intro (And.intro (And.intro (And.intro trivial h1) e3) e4) e4) e4) e4) e4) e4) .normal [] (tourref2_Meet.c1q a0 a1 true)) (by kernel_rfl)))) (fun e4 =>
   Owp.req fun h5 =>
    Owp.bnd fun y6 e7 =>
    Owp.some (triple_way (tourref2_Meet.cok k) hmix [.res (.one (.dp T4)) y2, .dec false, .dec false, .dec false, .dec false, .dec false, .res (.one (.dp T4)) y6, .dec false] [] [] (via (finP (And.intro (And.intro (And.intro (And.intro (And.intro (And.intro (And.intro (And.intro trivial h1) e3) e4) e4) (And.intro e4 h5)) e4) (And.intro e4 e7)) e4) .normal [] (tourref2_Meet.c1q a0 a1 y6)) (by kernel_rfl))))
noncomputable def tourref2_Meet.c3p (a0 : (List V22)) (a1 : (List V22)) (v11 : Int) (v14 : Int) : SL := ⟨[(0, (.val T24 a0)), (1, (.val T24 a1)), (5, (.val T2 v11)), (6, (.val .ptr ⟨0, 0, (0 : Int), 0, 0⟩)), (21, (.val T24 a0)), (22, (.val T2 (len a0))), (23, (.val T2 v11)), (28, (.val T24 a1)), (29, (.val T2 (len a1))), (30, (.val T2 v14))], [(0, .cells T22 (el Z22 a0 v11))]⟩
noncomputable def tourref2_Meet.c3q (a0 : (List V22)) (a1 : (List V22)) (v11 : Int) (o : Unit ⊕ Unit) : SL := (fun o => two o (fun v => ⟨[(4, (.val T4 true))], []⟩) (fun v => ⟨[(0, (.val T24 a0)), (1, (.val T24 a1)), (21, (.val T24 a0)), (22, (.val T2 (len a0))), (23, (.val T2 v11))], []⟩)) o
noncomputable def tourref2_Meet.c3x (o : Unit ⊕ Unit) : Ex := (fun o => two o (fun _ => .ret) (fun _ => (.exit 2))) o
noncomputable def tourref2_Meet.c3n (o : Unit ⊕ Unit) : Nat := (fun o => two o (fun _ => 0) (fun _ => 0)) o
theorem tourref2_Meet.c3_ok (k : Nat) (a0 : (List V22)) (a1 : (List V22)) (v11 : Int) : ∀ (n : Nat) (v14 : Int), Owp (tourref2_Meet.c3 k a0 a1 v11 n v14) fun o => LTriple PR (tourref2_Meet.cx k) (sub tourref2_Meet.code [1, 1, 0, 1, 0, 0, 1, 1, 0, 0, 1, 1, 0, 0]) 1 (tourref2_Meet.c3p a0 a1 v11 v14) (tourref2_Meet.c3x o) (tourref2_Meet.c3n o) (tourref2_Meet.c3q a0 a1 v11 o)
  | 0, _ => fun _ h => nomatch h
  | n + 1, v14 => Owp.of (tourref2_Meet.c3.eq_2 ..) (
   Owp.bif (fun e15 =>
   Owp.req fun h16 =>
    Owp.req fun h17 =>
    Owp.req fun h18 =>
    Owp.req fun h19 =>
    Owp.req fun h20 =>
    Owp.bnd fun y21 e22 =>
    Owp.bif (fun e23 =>
    Owp.some (loop_exit (tourref2_Meet.cok k) hmix [.dec true, .res (.one (.dp T4)) y21, .dec true] [] [] exne_ret (via (finP (And.intro (And.intro (And.intro (And.intro (And.intro (And.intro (And.intro (And.intro trivial e15) h16) h17) h18) h19) h20) e22) e23) .ret [] (tourref2_Meet.c3q a0 a1 v11 (.inl ()))) (by kernel_rfl)))) (fun e23 =>
    fun y hy => loop_back (tourref2_Meet.cok k) hmix 1 (tourref2_Meet.c3p a0 a1 v11 (iadd .i64 v14 (1 : Int))) [.dec true, .res (.one (.dp T4)) y21, .dec false] [] [(0, 0)] (via (finP (And.intro (And.intro (And.intro (And.intro (And.intro (And.intro (And.intro (And.intro trivial e15) h16) h17) h18) h19) h20) e22) e23) .normal [(0, 0)] (tourref2_Meet.c3p a0 a1 v11 (iadd .i64 v14 (1 : Int)))) (by kernel_rfl)) ((tourref2_Meet.c3_ok k a0 a1 v11 n (iadd .i64 v14 (1 : Int))).ap hy))) (fun e15 =>
   Owp.some (loop_exit (tourref2_Meet.cok k) hmix [.dec false] [] [] (exne 2) (via (finP (And.intro trivial e15) (.exit 2) [] (tourref2_Meet.c3q a0 a1 v11 (.inr ()))) (by kernel_rfl)))))
noncomputable def tourref2_Meet.c2p (a0 : (List V22)) (a1 : (List V22)) (v11 : Int) : SL := ⟨[(0, (.val T24 a0)), (1, (.val T24 a1)), (21, (.val T24 a0)), (22, (.val T2 (len a0))), (23, (.val T2 v11))], []⟩
noncomputable def tourref2_Meet.c2q (o : Unit ⊕ Unit) : SL := (fun o => two o (fun v => ⟨[(4, (.val T4 true))], []⟩) (fun v => ⟨[], []⟩)) o
noncomputable def tourref2_Meet.c2x (o : Unit ⊕ Unit) : Ex := (fun o => two o (fun _ => .ret) (fun _ => (.exit 0))) o
noncomputable def tourref2_Meet.c2n (o : Unit ⊕ Unit) : Nat := (fun o => two o (fun _ => 0) (fun _ => 0)) o
theorem tourref2_Meet.c2_ok (k : Nat) (a0 : (List V22)) (a1 : (List V22)) : ∀ (n : Nat) (v11 : Int), Owp (tourref2_Meet.c2 k a0 a1 n v11) fun o => LTriple PR (tourref2_Meet.cx k) (sub tourref2_Meet.code [1, 1, 0, 1, 0, 0]) 0 (tourref2_Meet.c2p a0 a1 v11) (tourref2_Meet.c2x o) (tourref2_Meet.c2n o) (tourref2_Meet.c2q o)
  | 0, _ => fun _ h => nomatch h
  | n + 1, v11 => Owp.of (tourref2_Meet.c2.eq_2 ..) (
   Owp.bif (fun e12 =>
   Owp.req fun h13 =>
    Owp.bnd fun o24 e25 =>
    Owp.two (fun y26 e27 =>
    Owp.some (loop_exit (tourref2_Meet.cok k) hmix [.dec true, .cut ⟨[], [(0, 4)], (tourref2_Meet.c3p a0 a1 v11 (0 : Int)), 1, .ret, (tourref2_Meet.c3q a0 a1 v11 (.inl ())), 0⟩] [] [] exne_ret (via (cutP (And.intro (And.intro trivial e12) h13) [(0, 4)] (tourref2_Meet.c3p a0 a1 v11 (0 : Int)) (((tourref2_Meet.c3_ok k a0 a1 v11 k (0 : Int)).ap (e25.trans (congrArg some e27))).triple) (finP trivial .ret [] (tourref2_Meet.c2q (.inl ())))) (by kernel_rfl)))) (fun y28 e29 =>
    fun y hy => loop_back (tourref2_Meet.cok k) hmix 0 (tourref2_Meet.c2p a0 a1 (iadd .i64 v11 (1 : Int))) [.dec true, .cut ⟨[], [(0, 4)], (tourref2_Meet.c3p a0 a1 v11 (0 : Int)), 1, (.exit 2), (tourref2_Meet.c3q a0 a1 v11 (.inr ())), 0⟩] [] [] (via (cutP (And.intro (And.intro trivial e12) h13) [(0, 4)] (tourref2_Meet.c3p a0 a1 v11 (0 : Int)) (((tourref2_Meet.c3_ok k a0 a1 v11 k (0 : Int)).ap (e25.trans (congrArg some e29))).triple) (finP trivial .normal [] (tourref2_Meet.c2p a0 a1 (iadd .i64 v11 (1 : Int))))) (by kernel_rfl)) ((tourref2_Meet.c2_ok k a0 a1 n (iadd .i64 v11 (1 : Int))).ap hy))) (fun e12 =>
   Owp.some (loop_exit (tourref2_Meet.cok k) hmix [.dec false] [] [] (exne 0) (via (finP (And.intro trivial e12) (.exit 0) [] (tourref2_Meet.c2q (.inr ()))) (by kernel_rfl)))))
theorem tourref2_Meet.way (k : Nat) (a0 : (List V22)) (a1 : (List V22)) : Owp (tourref2_Meet k a0 a1) fun y => ∃ answers cmds, exec PR (tourref2_Meet.cx k) tourref2_Meet.code 0 (entry (.pair T24 (.pair T24 .unit)) (a0, a1, ())).st answers (Ret (tourref2_Meet.cx k) Try.f30 cmds (.one (.dp T4)) y) := by
  unfold tourref2_Meet; exact
   Owp.bnd fun o8 e9 =>
   Owp.bif (fun e10 =>
   Owp.some (⟨[.cutR 1 ⟨[], [], (tourref2_Meet.c1p a0 a1), 0, .normal, (tourref2_Meet.c1q a0 a1 o8), 0⟩, .dec true], [], via (cutP trivial [] (tourref2_Meet.c1p a0 a1) (((tourref2_Meet.c1_ok k a0 a1).ap e9)) (retP (And.intro trivial e10) (.one (.dp T4)) (true : Bool))) (by kernel_rfl)⟩)) (fun e10 =>
   Owp.bnd fun o30 e31 =>
    Owp.two (fun y32 e33 =>
    Owp.some (⟨[.cutR 1 ⟨[], [], (tourref2_Meet.c1p a0 a1), 0, .normal, (tourref2_Meet.c1q a0 a1 o8), 0⟩, .dec false, .cut ⟨[], [], (tourref2_Meet.c2p a0 a1 (0 : Int)), 0, .ret, (tourref2_Meet.c2q (.inl ())), 0⟩], [], via (cutP trivial [] (tourref2_Meet.c1p a0 a1) (((tourref2_Meet.c1_ok k a0 a1).ap e9)) (cutP (And.intro trivial e10) [] (tourref2_Meet.c2p a0 a1 (0 : Int)) (((tourref2_Meet.c2_ok k a0 a1 k (0 : Int)).ap (e31.trans (congrArg some e33))).triple) (retP trivial (.one (.dp T4)) (true : Bool)))) (by kernel_rfl)⟩)) (fun y34 e35 =>
    Owp.some (⟨[.cutR 1 ⟨[], [], (tourref2_Meet.c1p a0 a1), 0, .normal, (tourref2_Meet.c1q a0 a1 o8), 0⟩, .dec false, .cut ⟨[], [], (tourref2_Meet.c2p a0 a1 (0 : Int)), 0, (.exit 0), (tourref2_Meet.c2q (.inr ())), 0⟩], [], via (cutP trivial [] (tourref2_Meet.c1p a0 a1) (((tourref2_Meet.c1_ok k a0 a1).ap e9)) (cutP (And.intro trivial e10) [] (tourref2_Meet.c2p a0 a1 (0 : Int)) (((tourref2_Meet.c2_ok k a0 a1 k (0 : Int)).ap (e31.trans (congrArg some e35))).triple) (retP trivial (.one (.dp T4)) (false : Bool)))) (by kernel_rfl)⟩)))
theorem tourref2_Meet.ok (k : Nat) : FnOk PR 30 (tourref2_Meet.sp k) :=
  fn_ok (tourref2_Meet.cok k) hmix Try.func30 (code := tourref2_Meet.code) (by kernel_rfl) (by kernel_rfl) (by kernel_rfl) rfl (by kernel_rfl) (by kernel_rfl) (by kernel_rfl) (fun x => Nat.le_of_ble_eq_true (by kernel_rfl)) fun x y hy => (tourref2_Meet.way k x.1 x.2.1).ap hy

/-! tourney/tourref2.Out -/
noncomputable def tourref2_Out.code : Code := Func.cd Try.f32
def tourref2_Out (k : Nat) (a0 : (List V22)) (a1 : Int) : Option V22 :=
  req (nz (len a0)) <|
  req (inL (irem (iadd .i64 a1 1) (len a0)) a0) <|
  req (inL a1 a0) <|
  bnd (tourref2_sub k (el Z22 a0 (irem (iadd .i64 a1 1) (len a0))) (el Z22 a0 a1)) fun y4 =>
  some (y4.2.1, (ineg .i64 y4.1), ())
noncomputable def tourref2_Out.sp (k : Nat) : Go.Sx.Spec := ⟨(.pair T24 (.pair T2 .unit)), (.one (.dp T22)), fun x => tourref2_Out k x.1 x.2.1, false⟩
noncomputable def tourref2_Out.cx (k : Nat) : Go.Sx.Ctx := ⟨tys, [(102, tourref2_sub.sp k)], eqs, 25, false⟩
theorem tourref2_Out.cok (k : Nat) : CtxOk PR (tourref2_Out.cx k) := ctx_ok tysOk eqsOk (FnsOk.cons (tourref2_sub.ok k) FnsOk.nil)
theorem tourref2_Out.way (k : Nat) (a0 : (List V22)) (a1 : Int) : Owp (tourref2_Out k a0 a1) fun y => ∃ answers cmds, exec PR (tourref2_Out.cx k) tourref2_Out.code 0 (entry (.pair T24 (.pair T2 .unit)) (a0, a1, ())).st answers (Ret (tourref2_Out.cx k) Try.f32 cmds (.one (.dp T22)) y) := by
  unfold tourref2_Out; exact
   Owp.req fun h1 =>
   Owp.req fun h2 =>
   Owp.req fun h3 =>
   Owp.bnd fun y4 e5 =>
   Owp.some (⟨[.res (.one (.dp T22)) y4], [], via (retP (And.intro (And.intro (And.intro (And.intro trivial h1) h2) h3) e5) (.one (.dp T22)) ((y4.2.1, (ineg .i64 y4.1), ()) : V22)) (by kernel_rfl)⟩)
theorem tourref2_Out.ok (k : Nat) : FnOk PR 32 (tourref2_Out.sp k) :=
  fn_ok (tourref2_Out.cok k) hmix Try.func32 (code := tourref2_Out.code) (by kernel_rfl) (by kernel_rfl) (by kernel_rfl) rfl (by kernel_rfl) (by kernel_rfl) (by kernel_rfl) (fun x => Nat.le_of_ble_eq_true (by kernel_rfl)) fun x y hy => (tourref2_Out.way k x.1 x.2.1).ap hy

/-! tourney/tourref2.depth -/
noncomputable def tourref2_depth.code : Code := Func.cd Try.f103
def tourref2_depth (k : Nat) (a0 : (List V22)) (a1 : Int) (a2 : V22) : Option (Int × Bool) :=
  bnd (tourref2_Out k a0 a1) fun y1 =>
  req (inL a1 a0) <|
  bnd (tourref2_sub k (el Z22 a0 a1) a2) fun y4 =>
  bnd (tourref2_Dot k y1 y4) fun y6 =>
  bnd (tourref2_Root k (iadd .i64 (imul .i64 y1.1 y1.1) (imul .i64 y1.2.1 y1.2.1))) fun y8 =>
  bnd (tourref2_Big_Over k y6 y8) fun y10 =>
  bnd (tourref2_Big_Cmp k y6 (List.replicate 8 0)) fun y12 =>
  some (y10.1, (ige y12 0))
noncomputable def tourref2_depth.sp (k : Nat) : Go.Sx.Spec := ⟨(.pair T24 (.pair T2 (.pair T22 .unit))), (.more (.dp T2) (.one (.dp T4))), fun x => tourref2_depth k x.1 x.2.1 x.2.2.1, false⟩
noncomputable def tourref2_depth.cx (k : Nat) : Go.Sx.Ctx := ⟨tys, [(32, tourref2_Out.sp k), (102, tourref2_sub.sp k), (125, tourref2_Dot.sp k), (28, tourref2_Root.sp k), (166, tourref2_Big_Over.sp k), (126, tourref2_Big_Cmp.sp k)], eqs, 45, false⟩
theorem tourref2_depth.cok (k : Nat) : CtxOk PR (tourref2_depth.cx k) := ctx_ok tysOk eqsOk (FnsOk.cons (tourref2_Out.ok k) (FnsOk.cons (tourref2_sub.ok k) (FnsOk.cons (tourref2_Dot.ok k) (FnsOk.cons (tourref2_Root.ok k) (FnsOk.cons (tourref2_Big_Over.ok k) (FnsOk.cons (tourref2_Big_Cmp.ok k) FnsOk.nil))))))
theorem tourref2_depth.way (k : Nat) (a0 : (List V22)) (a1 : Int) (a2 : V22) : Owp (tourref2_depth k a0 a1 a2) fun y => ∃ answers cmds, exec PR (tourref2_depth.cx k) tourref2_depth.code 0 (entry (.pair T24 (.pair T2 (.pair T22 .unit))) (a0, a1, a2, ())).st answers (Ret (tourref2_depth.cx k) Try.f103 cmds (.more (.dp T2) (.one (.dp T4))) y) := by
  unfold tourref2_depth; exact
   Owp.bnd fun y1 e2 =>
   Owp.req fun h3 =>
   Owp.bnd fun y4 e5 =>
   Owp.bnd fun y6 e7 =>
   Owp.bnd fun y8 e9 =>
   Owp.bnd fun y10 e11 =>
   Owp.bnd fun y12 e13 =>
   Owp.some (⟨[.res (.one (.dp T22)) y1, .res (.one (.dp T22)) y4, .res (.one (.dp T134)) y6, .res (.one (.dp T2)) y8, .res (.more (.dp T2) (.one (.dp T2))) y10, .res (.one (.dp T2)) y12], [], via (retP (And.intro (And.intro (And.intro (And.intro (And.intro (And.intro (And.intro trivial e2) h3) e5) e7) e9) e11) e13) (.more (.dp T2) (.one (.dp T4))) ((y10.1, (ige y12 (0 : Int))) : (Int × Bool))) (by kernel_rfl)⟩)
theorem tourref2_depth.ok (k : Nat) : FnOk PR 103 (tourref2_depth.sp k) :=
  fn_ok (tourref2_depth.cok k) hmix Try.func103 (code := tourref2_depth.code) (by kernel_rfl) (by kernel_rfl) (by kernel_rfl) rfl (by kernel_rfl) (by kernel_rfl) (by kernel_rfl) (fun x => Nat.le_of_ble_eq_true (by kernel_rfl)) fun x y hy => (tourref2_depth.way k x.1 x.2.1 x.2.2.1).ap hy

/-! tourney/tourref2.Least -/
noncomputable def tourref2_Least.code : Code := Func.cd Try.f33
def tourref2_Least.c2 (k : Nat) (a0 : (List V22)) (a1 : (List V22)) (v1 : Int) : Option (((List V22) × (List V22))) :=
  bif' (ieq v1 1)
  (some (a1, a0))
  (some (a0, a1))
def tourref2_Least.c4 (k : Nat) (o7 : ((List V22) × (List V22))) (v9 : Int) : Nat → Int → Int → Option (Int)
  | 0, _, _ => none
  | n + 1, v14, v15 =>
   bif' (ilt v15 (len o7.2))
   (req (inL v15 o7.2) <|
    bnd (tourref2_depth k o7.1 v9 (el Z22 o7.2 v15)) fun y18 =>
    tourref2_Least.c4 k o7 v9 n (imax v14 y18.1) (iadd .i64 v15 1))
   (some v14)
def tourref2_Least.c5 (k : Nat) (o20 : Int) (v12 : Int) : Option (Bool) :=
  bif' (ilt v12 0)
  (some true)
  (some (ilt o20 v12))
def tourref2_Least.c3 (k : Nat) (o7 : ((List V22) × (List V22))) (v1 : Int) : Nat → Int → Bool → Int → Int → Option ((Bool × (Int × Int)))
  | 0, _, _, _, _ => none
  | n + 1, v9, v10, v11, v12 =>
   bif' (ilt v9 (len o7.1))
   (bnd (tourref2_Least.c4 k o7 v9 k 0 0) fun o20 =>
    bnd (tourref2_Least.c5 k o20 v12) fun o23 =>
    bif' o23
    (tourref2_Least.c3 k o7 v1 n (iadd .i64 v9 1) (ieq v1 1) v9 o20)
    (tourref2_Least.c3 k o7 v1 n (iadd .i64 v9 1) v10 v11 v12))
   (some (v10, v11, v12))
def tourref2_Least.c1 (k : Nat) (a0 : (List V22)) (a1 : (List V22)) : Nat → Int → Bool → Int → Int → Option ((Bool × (Int × Int)))
  | 0, _, _, _, _ => none
  | n + 1, v1, v2, v3, v4 =>
   bif' (ilt v1 2)
   (bnd (tourref2_Least.c2 k a0 a1 v1) fun o7 =>
    bnd (tourref2_Least.c3 k o7 v1 k 0 v2 v3 v4) fun o26 =>
    tourref2_Least.c1 k a0 a1 n (iadd .i64 v1 1) o26.1 o26.2.1 o26.2.2)
   (some (v2, v3, v4))
def tourref2_Least (k : Nat) (a0 : (List V22)) (a1 : (List V22)) : Option (Bool × V22) :=
  bnd (tourref2_Least.c1 k a0 a1 k 0 false 0 (-1)) fun o28 =>
  some (o28.1, o28.2.1, o28.2.2, ())
noncomputable def tourref2_Least.sp (k : Nat) : Go.Sx.Spec := ⟨(.pair T24 (.pair T24 .unit)), (.one (.dp (.pair T4 T22))), fun x => tourref2_Least k x.1 x.2.1, false⟩
noncomputable def tourref2_Least.cx (k : Nat) : Go.Sx.Ctx := ⟨tys, [(103, tourref2_depth.sp k)], eqs, 64, false⟩
theorem tourref2_Least.cok (k : Nat) : CtxOk PR (tourref2_Least.cx k) := ctx_ok tysOk eqsOk (FnsOk.cons (tourref2_depth.ok k) FnsOk.nil)
noncomputable def tourref2_Least.c2p (a0 : (List V22)) (a1 : (List V22)) (v1 : Int) (v2 : Bool) (v3 : Int) (v4 : Int) : SL := ⟨[(0, (.val T24 a0)), (1, (.val T24 a1)), (4, (.val .ptr ⟨0, 0, (0 : Int), 0, 0⟩)), (5, (.val .ptr ⟨1, 0, (0 : Int), 0, 0⟩)), (6, (.val T2 v1)), (7, (.val T24 a0)), (8, (.val T24 a1)), (16, (.val T2 v1)), (22, (.val T4 (ieq v1 (1 : Int))))], [(0, .cells (.pair T4 T22) (false, (0 : Int), (0 : Int), ())), (1, .cells (.pair T4 T22) (v2, v3, v4, ()))]⟩
noncomputable def tourref2_Least.c2q (a0 : (List V22)) (a1 : (List V22)) (v1 : Int) (v2 : Bool) (v3 : Int) (v4 : Int) (o : ((List V22) × (List V22))) : SL := (fun v => ⟨[(0, (.val T24 a0)), (1, (.val T24 a1)), (4, (.val .ptr ⟨0, 0, (0 : Int), 0, 0⟩)), (5, (.val .ptr ⟨1, 0, (0 : Int), 0, 0⟩)), (6, (.val T2 v1)), (7, (.val T24 v.1)), (8, (.val T24 v.2)), (16, (.val T2 v1))], [(0, .cells (.pair T4 T22) (false, (0 : Int), (0 : Int), ())), (1, .cells (.pair T4 T22) (v2, v3, v4, ()))]⟩) o
noncomputable def tourref2_Least.c2x (o : ((List V22) × (List V22))) : Ex := (fun _ => .normal) o
noncomputable def tourref2_Least.c2n (o : ((List V22) × (List V22))) : Nat := (fun _ => 2) o
theorem tourref2_Least.c2_ok (k : Nat) (a0 : (List V22)) (a1 : (List V22)) (v1 : Int) (v2 : Bool) (v3 : Int) (v4 : Int) : Owp (tourref2_Least.c2 k a0 a1 v1) fun o => Triple PR (tourref2_Least.cx k) (sub tourref2_Least.code [1, 1, 0, 1, 0, 0, 1, 1, 0, 0, 1, 1, 0, 1]) 2 (tourref2_Least.c2p a0 a1 v1 v2 v3 v4) (tourref2_Least.c2x o) (tourref2_Least.c2n o) (tourref2_Least.c2q a0 a1 v1 v2 v3 v4 o) := by
  unfold tourref2_Least.c2; exact
   Owp.bif (fun e6 =>
   Owp.some (triple_way (tourref2_Least.cok k) hmix [.dec true] [] [(0, 0), (1, 1)] (via (finP (And.intro trivial e6) .normal [(0, 0), (1, 1)] (tourref2_Least.c2q a0 a1 v1 v2 v3 v4 (a1, a0))) (by kernel_rfl)))) (fun e6 =>
   Owp.some (triple_way (tourref2_Least.cok k) hmix [.dec false] [] [(0, 0), (1, 1)] (via (finP (And.intro trivial e6) .normal [(0, 0), (1, 1)] (tourref2_Least.c2q a0 a1 v1 v2 v3 v4 (a0, a1))) (by kernel_rfl))))
noncomputable def tourref2_Least.c4p (a0 : (List V22)) (a1 : (List V22)) (o7 : ((List V22) × (List V22))) (v1 : Int) (v9 : Int) (v10 : Bool) (v11 : Int) (v12 : Int) (v14 : Int) (v15 : Int) : SL := ⟨[(0, (.val T24 a0)), (1, (.val T24 a1)), (4, (.val .ptr ⟨0, 0, (0 : Int), 0, 0⟩)), (5, (.val .ptr ⟨1, 0, (0 : Int), 0, 0⟩)), (6, (.val T2 v1)), (7, (.val T24 o7.1)), (8, (.val T24 o7.2)), (9, (.val T2 v9)), (10, (.val T2 v14)), (16, (.val T2 v1)), (26, (.val T2 (len o7.1))), (27, (.val T2 v9)), (30, (.val T24 o7.2)), (31, (.val T2 (len o7.2))), (32, (.val T2 v15))], [(0, .cells (.pair T4 T22) (false, (0 : Int), (0 : Int), ())), (1, .cells (.pair T4 T22) (v10, v11, v12, ()))]⟩
noncomputable def tourref2_Least.c4q (a0 : (List V22)) (a1 : (List V22)) (o7 : ((List V22) × (List V22))) (v1 : Int) (v9 : Int) (v10 : Bool) (v11 : Int) (v12 : Int) (o : Int) : SL := (fun v => ⟨[(0, (.val T24 a0)), (1, (.val T24 a1)), (4, (.val .ptr ⟨0, 0, (0 : Int), 0, 0⟩)), (5, (.val .ptr ⟨1, 0, (0 : Int), 0, 0⟩)), (6, (.val T2 v1)), (7, (.val T24 o7.1)), (8, (.val T24 o7.2)), (9, (.val T2 v9)), (10, (.val T2 v)), (16, (.val T2 v1)), (26, (.val T2 (len o7.1))), (27, (.val T2 v9))], [(0, .cells (.pair T4 T22) (false, (0 : Int), (0 : Int), ())), (1, .cells (.pair T4 T22) (v10, v11, v12, ()))]⟩) o
noncomputable def tourref2_Least.c4x (o : Int) : Ex := (fun _ => (.exit 4)) o
noncomputable def tourref2_Least.c4n (o : Int) : Nat := (fun _ => 2) o
theorem tourref2_Least.c4_ok (k : Nat) (a0 : (List V22)) (a1 : (List V22)) (o7 : ((List V22) × (List V22))) (v1 : Int) (v9 : Int) (v10 : Bool) (v11 : Int) (v12 : Int) : ∀ (n : Nat) (v14 : Int) (v15 : Int), Owp (tourref2_Least.c4 k o7 v9 n v14 v15) fun o => LTriple PR (tourref2_Least.cx k) (sub tourref2_Least.code [1, 1, 0, 1, 0, 0, 1, 1, 0, 0, 1, 1, 1, 1, 0, 0, 1, 1, 0, 0, 1, 1, 0, 1, 0, 0]) 2 (tourref2_Least.c4p a0 a1 o7 v1 v9 v10 v11 v12 v14 v15) (tourref2_Least.c4x o) (tourref2_Least.c4n o) (tourref2_Least.c4q a0 a1 o7 v1 v9 v10 v11 v12 o)
  | 0, _, _ => fun _ h => nomatch h
  | n + 1, v14, v15 => Owp.of (tourref2_Least.c4.eq_2 ..) (
   Owp.bif (fun e16 =>
   Owp.req fun h17 =>
    Owp.bnd fun y18 e19 =>
    fun y hy => loop_back (tourref2_Least.cok k) hmix 2 (tourref2_Least.c4p a0 a1 o7 v1 v9 v10 v11 v12 (imax v14 y18.1) (iadd .i64 v15 (1 : Int))) [.dec true, .res (.more (.dp T2) (.one (.dp T4))) y18] [] [(0, 0), (1, 1)] (via (finP (And.intro (And.intro (And.intro trivial e16) h17) e19) .normal [(0, 0), (1, 1)] (tourref2_Least.c4p a0 a1 o7 v1 v9 v10 v11 v12 (imax v14 y18.1) (iadd .i64 v15 (1 : Int)))) (by kernel_rfl)) ((tourref2_Least.c4_ok k a0 a1 o7 v1 v9 v10 v11 v12 n (imax v14 y18.1) (iadd .i64 v15 (1 : Int))).ap hy)) (fun e16 =>
   Owp.some (loop_exit (tourref2_Least.cok k) hmix [.dec false] [] [(0, 0), (1, 1)] (exne 4) (via (finP (And.intro trivial e16) (.exit 4) [(0, 0), (1, 1)] (tourref2_Least.c4q a0 a1 o7 v1 v9 v10 v11 v12 v14)) (by kernel_rfl)))))
noncomputable def tourref2_Least.c5p (a0 : (List V22)) (a1 : (List V22)) (o7 : ((List V22) × (List V22))) (o20 : Int) (v1 : Int) (v9 : Int) (v10 : Bool) (v11 : Int) (v12 : Int) : SL := ⟨[(0, (.val T24 a0)), (1, (.val T24 a1)), (4, (.val .ptr ⟨0, 0, (0 : Int), 0, 0⟩)), (5, (.val .ptr ⟨1, 0, (0 : Int), 0, 0⟩)), (6, (.val T2 v1)), (7, (.val T24 o7.1)), (8, (.val T24 o7.2)), (9, (.val T2 v9)), (10, (.val T2 o20)), (16, (.val T2 v1)), (26, (.val T2 (len o7.1))), (27, (.val T2 v9))], [(0, .cells (.pair T4 T22) (false, (0 : Int), (0 : Int), ())), (1, .cells (.pair T4 T22) (v10, v11, v12, ()))]⟩
noncomputable def tourref2_Least.c5q (a0 : (List V22)) (a1 : (List V22)) (o7 : ((List V22) × (List V22))) (o20 : Int) (v1 : Int) (v9 : Int) (v10 : Bool) (v11 : Int) (v12 : Int) (o : Bool) : SL := (fun v => ⟨[(0, (.val T24 a0)), (1, (.val T24 a1)), (4, (.val .ptr ⟨0, 0, (0 : Int), 0, 0⟩)), (5, (.val .ptr ⟨1, 0, (0 : Int), 0, 0⟩)), (6, (.val T2 v1)), (7, (.val T24 o7.1)), (8, (.val T24 o7.2)), (9, (.val T2 v9)), (10, (.val T2 o20)), (16, (.val T2 v1)), (26, (.val T2 (len o7.1))), (27, (.val T2 v9)), (55, (.val T4 v))], [(0, .cells (.pair T4 T22) (false, (0 : Int), (0 : Int), ())), (1, .cells (.pair T4 T22) (v10, v11, v12, ()))]⟩) o
noncomputable def tourref2_Least.c5x (o : Bool) : Ex := (fun _ => .normal) o
noncomputable def tourref2_Least.c5n (o : Bool) : Nat := (fun _ => 2) o
theorem tourref2_Least.c5_ok (k : Nat) (a0 : (List V22)) (a1 : (List V22)) (o7 : ((List V22) × (List V22))) (o20 : Int) (v1 : Int) (v9 : Int) (v10 : Bool) (v11 : Int) (v12 : Int) : Owp (tourref2_Least.c5 k o20 v12) fun o => Triple PR (tourref2_Least.cx k) (sub tourref2_Least.code [1, 1, 0, 1, 0, 0, 1, 1, 0, 0, 1, 1, 1, 1, 0, 0, 1, 1, 0, 0, 1, 1, 1, 0]) 2 (tourref2_Least.c5p a0 a1 o7 o20 v1 v9 v10 v11 v12) (tourref2_Least.c5x o) (tourref2_Least.c5n o) (tourref2_Least.c5q a0 a1 o7 o20 v1 v9 v10 v11 v12 o) := by
  unfold tourref2_Least.c5; exact
   Owp.bif (fun e22 =>
   Owp.some (triple_way (tourref2_Least.cok k) hmix [.dec true, .dec true, .dec true, .dec true, .dec true] [] [(0, 0), (1, 1)] (via (finP (And.intro (And.intro (And.intro (And.intro (And.intro trivial e22) e22) e22) e22) e22) .normal [(0, 0), (1, 1)] (tourref2_Least.c5q a0 a1 o7 o20 v1 v9 v10 v11 v12 true)) (by kernel_rfl)))) (fun e22 =>
   Owp.some (triple_way (tourref2_Least.cok k) hmix [.dec false, .dec false, .dec false, .dec false, .dec false] [] [(0, 0), (1, 1)] (via (finP (And.intro (And.intro (And.intro (And.intro (And.intro trivial e22) e22) e22) e22) e22) .normal [(0, 0), (1, 1)] (tourref2_Least.c5q a0 a1 o7 o20 v1 v9 v10 v11 v12 (ilt o20 v12))) (by kernel_rfl))))
noncomputable def tourref2_Least.c3p (a0 : (List V22)) (a1 : (List V22)) (o7 : ((List V22) × (List V22))) (v1 : Int) (v9 : Int) (v10 : Bool) (v11 : Int) (v12 : Int) : SL := ⟨[(0, (.val T24 a0)), (1, (.val T24 a1)), (4, (.val .ptr ⟨0, 0, (0 : Int), 0, 0⟩)), (5, (.val .ptr ⟨1, 0, (0 : Int), 0, 0⟩)), (6, (.val T2 v1)), (7, (.val T24 o7.1)), (8, (.val T24 o7.2)), (16, (.val T2 v1)), (26, (.val T2 (len o7.1))), (27, (.val T2 v9))], [(0, .cells (.pair T4 T22) (false, (0 : Int), (0 : Int), ())), (1, .cells (.pair T4 T22) (v10, v11, v12, ()))]⟩
noncomputable def tourref2_Least.c3q (a0 : (List V22)) (a1 : (List V22)) (v1 : Int) (o : (Bool × (Int × Int))) : SL := (fun v => ⟨[(0, (.val T24 a0)), (1, (.val T24 a1)), (4, (.val .ptr ⟨0, 0, (0 : Int), 0, 0⟩)), (5, (.val .ptr ⟨1, 0, (0 : Int), 0, 0⟩)), (16, (.val T2 v1))], [(0, .cells (.pair T4 T22) (false, (0 : Int), (0 : Int), ())), (1, .cells (.pair T4 T22) (v.1, v.2.1, v.2.2, ()))]⟩) o
noncomputable def tourref2_Least.c3x (o : (Bool × (Int × Int))) : Ex := (fun _ => (.exit 2)) o
noncomputable def tourref2_Least.c3n (o : (Bool × (Int × Int))) : Nat := (fun _ => 2) o
theorem tourref2_Least.c3_ok (k : Nat) (a0 : (List V22)) (a1 : (List V22)) (o7 : ((List V22) × (List V22))) (v1 : Int) : ∀ (n : Nat) (v9 : Int) (v10 : Bool) (v11 : Int) (v12 : Int), Owp (tourref2_Least.c3 k o7 v1 n v9 v10 v11 v12) fun o => LTriple PR (tourref2_Least.cx k) (sub tourref2_Least.code [1, 1, 0, 1, 0, 0, 1, 1, 0, 0, 1, 1, 1, 1, 0, 0]) 2 (tourref2_Least.c3p a0 a1 o7 v1 v9 v10 v11 v12) (tourref2_Least.c3x o) (tourref2_Least.c3n o) (tourref2_Least.c3q a0 a1 v1 o)
  | 0, _, _, _, _ => fun _ h => nomatch h
  | n + 1, v9, v10, v11, v12 => Owp.of (tourref2_Least.c3.eq_2 ..) (
   Owp.bif (fun e13 =>
   Owp.bnd fun o20 e21 =>
    Owp.bnd fun o23 e24 =>
    Owp.bif (fun e25 =>
    fun y hy => loop_back (tourref2_Least.cok k) hmix 2 (tourref2_Least.c3p a0 a1 o7 v1 (iadd .i64 v9 (1 : Int)) (ieq v1 (1 : Int)) v9 o20) [.dec true, .cut ⟨[], [(0, 0), (1, 1)], (tourref2_Least.c4p a0 a1 o7 v1 v9 v10 v11 v12 (0 : Int) (0 : Int)), 2, (.exit 4), (tourref2_Least.c4q a0 a1 o7 v1 v9 v10 v11 v12 o20), 2⟩, .cutR 18 ⟨[], [(0, 0), (1, 1)], (tourref2_Least.c5p a0 a1 o7 o20 v1 v9 v10 v11 v12), 2, .normal, (tourref2_Least.c5q a0 a1 o7 o20 v1 v9 v10 v11 v12 o23), 2⟩, .dec true] [] [(0, 0), (1, 1)] (via (cutP (And.intro trivial e13) [(0, 0), (1, 1)] (tourref2_Least.c4p a0 a1 o7 v1 v9 v10 v11 v12 (0 : Int) (0 : Int)) (((tourref2_Least.c4_ok k a0 a1 o7 v1 v9 v10 v11 v12 k (0 : Int) (0 : Int)).ap e21).triple) (cutP trivial [(0, 0), (1, 1)] (tourref2_Least.c5p a0 a1 o7 o20 v1 v9 v10 v11 v12) (((tourref2_Least.c5_ok k a0 a1 o7 o20 v1 v9 v10 v11 v12).ap e24)) (finP (And.intro trivial e25) .normal [(0, 0), (1, 1)] (tourref2_Least.c3p a0 a1 o7 v1 (iadd .i64 v9 (1 : Int)) (ieq v1 (1 : Int)) v9 o20)))) (by kernel_rfl)) ((tourref2_Least.c3_ok k a0 a1 o7 v1 n (iadd .i64 v9 (1 : Int)) (ieq v1 (1 : Int)) v9 o20).ap hy)) (fun e25 =>
    fun y hy => loop_back (tourref2_Least.cok k) hmix 2 (tourref2_Least.c3p a0 a1 o7 v1 (iadd .i64 v9 (1 : Int)) v10 v11 v12) [.dec true, .cut ⟨[], [(0, 0), (1, 1)], (tourref2_Least.c4p a0 a1 o7 v1 v9 v10 v11 v12 (0 : Int) (0 : Int)), 2, (.exit 4), (tourref2_Least.c4q a0 a1 o7 v1 v9 v10 v11 v12 o20), 2⟩, .cutR 18 ⟨[], [(0, 0), (1, 1)], (tourref2_Least.c5p a0 a1 o7 o20 v1 v9 v10 v11 v12), 2, .normal, (tourref2_Least.c5q a0 a1 o7 o20 v1 v9 v10 v11 v12 o23), 2⟩, .dec false] [] [(0, 0), (1, 1)] (via (cutP (And.intro trivial e13) [(0, 0), (1, 1)] (tourref2_Least.c4p a0 a1 o7 v1 v9 v10 v11 v12 (0 : Int) (0 : Int)) (((tourref2_Least.c4_ok k a0 a1 o7 v1 v9 v10 v11 v12 k (0 : Int) (0 : Int)).ap e21).triple) (cutP trivial [(0, 0), (1, 1)] (tourref2_Least.c5p a0 a1 o7 o20 v1 v9 v10 v11 v12) (((tourref2_Least.c5_ok k a0 a1 o7 o20 v1 v9 v10 v11 v12).ap e24)) (finP (And.intro trivial e25) .normal [(0, 0), (1, 1)] (tourref2_Least.c3p a0 a1 o7 v1 (iadd .i64 v9 (1 : Int)) v10 v11 v12)))) (by kernel_rfl)) ((tourref2_Least.c3_ok k a0 a1 o7 v1 n (iadd .i64 v9 (1 : Int)) v10 v11 v12).ap hy))) (fun e13 =>
   Owp.some (loop_exit (tourref2_Least.cok k) hmix [.dec false] [] [(0, 0), (1, 1)] (exne 2) (via (finP (And.intro trivial e13) (.exit 2) [(0, 0), (1, 1)] (tourref2_Least.c3q a0 a1 v1 (v10, v11, v12))) (by kernel_rfl)))))
noncomputable def tourref2_Least.c1p (a0 : (List V22)) (a1 : (List V22)) (v1 : Int) (v2 : Bool) (v3 : Int) (v4 : Int) : SL := ⟨[(0, (.val T24 a0)), (1, (.val T24 a1)), (4, (.val .ptr ⟨0, 0, (0 : Int), 0, 0⟩)), (5, (.val .ptr ⟨1, 0, (0 : Int), 0, 0⟩)), (16, (.val T2 v1))], [(0, .cells (.pair T4 T22) (false, (0 : Int), (0 : Int), ())), (1, .cells (.pair T4 T22) (v2, v3, v4, ()))]⟩
noncomputable def tourref2_Least.c1q (o : (Bool × (Int × Int))) : SL := (fun v => ⟨[(4, (.val .ptr ⟨0, 0, (0 : Int), 0, 0⟩)), (5, (.val .ptr ⟨1, 0, (0 : Int), 0, 0⟩))], [(0, .cells (.pair T4 T22) (false, (0 : Int), (0 : Int), ())), (1, .cells (.pair T4 T22) (v.1, v.2.1, v.2.2, ()))]⟩) o
noncomputable def tourref2_Least.c1x (o : (Bool × (Int × Int))) : Ex := (fun _ => (.exit 0)) o
noncomputable def tourref2_Least.c1n (o : (Bool × (Int × Int))) : Nat := (fun _ => 2) o
theorem tourref2_Least.c1_ok (k : Nat) (a0 : (List V22)) (a1 : (List V22)) : ∀ (n : Nat) (v1 : Int) (v2 : Bool) (v3 : Int) (v4 : Int), Owp (tourref2_Least.c1 k a0 a1 n v1 v2 v3 v4) fun o => LTriple PR (tourref2_Least.cx k) (sub tourref2_Least.code [1, 1, 0, 1, 0, 0]) 2 (tourref2_Least.c1p a0 a1 v1 v2 v3 v4) (tourref2_Least.c1x o) (tourref2_Least.c1n o) (tourref2_Least.c1q o)
  | 0, _, _, _, _ => fun _ h => nomatch h
  | n + 1, v1, v2, v3, v4 => Owp.of (tourref2_Least.c1.eq_2 ..) (
   Owp.bif (fun e5 =>
   Owp.bnd fun o7 e8 =>
    Owp.bnd fun o26 e27 =>
    fun y hy => loop_back (tourref2_Least.cok k) hmix 2 (tourref2_Least.c1p a0 a1 (iadd .i64 v1 (1 : Int)) o26.1 o26.2.1 o26.2.2) [.dec true, .cut ⟨[], [(0, 0), (1, 1)], (tourref2_Least.c2p a0 a1 v1 v2 v3 v4), 2, .normal, (tourref2_Least.c2q a0 a1 v1 v2 v3 v4 o7), 2⟩, .cut ⟨[], [(0, 0), (1, 1)], (tourref2_Least.c3p a0 a1 o7 v1 (0 : Int) v2 v3 v4), 2, (.exit 2), (tourref2_Least.c3q a0 a1 v1 o26), 2⟩] [] [(0, 0), (1, 1)] (via (cutP (And.intro trivial e5) [(0, 0), (1, 1)] (tourref2_Least.c2p a0 a1 v1 v2 v3 v4) (((tourref2_Least.c2_ok k a0 a1 v1 v2 v3 v4).ap e8)) (cutP trivial [(0, 0), (1, 1)] (tourref2_Least.c3p a0 a1 o7 v1 (0 : Int) v2 v3 v4) (((tourref2_Least.c3_ok k a0 a1 o7 v1 k (0 : Int) v2 v3 v4).ap e27).triple) (finP trivial .normal [(0, 0), (1, 1)] (tourref2_Least.c1p a0 a1 (iadd .i64 v1 (1 : Int)) o26.1 o26.2.1 o26.2.2)))) (by kernel_rfl)) ((tourref2_Least.c1_ok k a0 a1 n (iadd .i64 v1 (1 : Int)) o26.1 o26.2.1 o26.2.2).ap hy)) (fun e5 =>
   Owp.some (loop_exit (tourref2_Least.cok k) hmix [.dec false] [] [(0, 0), (1, 1)] (exne 0) (via (finP (And.intro trivial e5) (.exit 0) [(0, 0), (1, 1)] (tourref2_Least.c1q (v2, v3, v4))) (by kernel_rfl)))))
theorem tourref2_Least.way (k : Nat) (a0 : (List V22)) (a1 : (List V22)) : Owp (tourref2_Least k a0 a1) fun y => ∃ answers cmds, exec PR (tourref2_Least.cx k) tourref2_Least.code 0 (entry (.pair T24 (.pair T24 .unit)) (a0, a1, ())).st answers (Ret (tourref2_Least.cx k) Try.f33 cmds (.one (.dp (.pair T4 T22))) y) := by
  unfold tourref2_Least; exact
   Owp.bnd fun o28 e29 =>
   Owp.some (⟨[.cut ⟨[], [(0, 0), (1, 2)], (tourref2_Least.c1p a0 a1 (0 : Int) false (0 : Int) (-1 : Int)), 2, (.exit 0), (tourref2_Least.c1q o28), 2⟩], [], via (cutP trivial [(0, 0), (1, 2)] (tourref2_Least.c1p a0 a1 (0 : Int) false (0 : Int) (-1 : Int)) (((tourref2_Least.c1_ok k a0 a1 k (0 : Int) false (0 : Int) (-1 : Int)).ap e29).triple) (retP trivial (.one (.dp (.pair T4 T22))) ((o28.1, o28.2.1, o28.2.2, ()) : (Bool × V22)))) (by kernel_rfl)⟩)
theorem tourref2_Least.ok (k : Nat) : FnOk PR 33 (tourref2_Least.sp k) :=
  fn_ok (tourref2_Least.cok k) hmix Try.func33 (code := tourref2_Least.code) (by kernel_rfl) (by kernel_rfl) (by kernel_rfl) rfl (by kernel_rfl) (by kernel_rfl) (by kernel_rfl) (fun x => Nat.le_of_ble_eq_true (by kernel_rfl)) fun x y hy => (tourref2_Least.way k x.1 x.2.1).ap hy

/-! tourney/tourref2.Way -/
noncomputable def tourref2_Way.code : Code := Func.cd Try.f34
def tourref2_Way (k : Nat) (a0 : (List V22)) (a1 : (List V22)) (a2 : (Bool × V22)) : Option V22 :=
  bif' a2.1
  (bnd (tourref2_Out k a1 a2.2.1) fun y2 =>
   bnd (vec_Unit k ((ineg .i64 y2.1), (ineg .i64 y2.2.1), ())) fun y4 =>
   some y4)
  (bnd (tourref2_Out k a0 a2.2.1) fun y6 =>
   bnd (vec_Unit k y6) fun y8 =>
   some y8)
noncomputable def tourref2_Way.sp (k : Nat) : Go.Sx.Spec := ⟨(.pair T24 (.pair T24 (.pair (.pair T4 T22) .unit))), (.one (.dp T22)), fun x => tourref2_Way k x.1 x.2.1 x.2.2.1, false⟩
noncomputable def tourref2_Way.cx (k : Nat) : Go.Sx.Ctx := ⟨tys, [(32, tourref2_Out.sp k), (98, vec_Unit.sp k)], eqs, 27, false⟩
theorem tourref2_Way.cok (k : Nat) : CtxOk PR (tourref2_Way.cx k) := ctx_ok tysOk eqsOk (FnsOk.cons (tourref2_Out.ok k) (FnsOk.cons (vec_Unit.ok k) FnsOk.nil))
theorem tourref2_Way.way (k : Nat) (a0 : (List V22)) (a1 : (List V22)) (a2 : (Bool × V22)) : Owp (tourref2_Way k a0 a1 a2) fun y => ∃ answers cmds, exec PR (tourref2_Way.cx k) tourref2_Way.code 0 (entry (.pair T24 (.pair T24 (.pair (.pair T4 T22) .unit))) (a0, a1, a2, ())).st answers (Ret (tourref2_Way.cx k) Try.f34 cmds (.one (.dp T22)) y) := by
  unfold tourref2_Way; exact
   Owp.bif (fun e1 =>
   Owp.bnd fun y2 e3 =>
    Owp.bnd fun y4 e5 =>
    Owp.some (⟨[.dec true, .res (.one (.dp T22)) y2, .res (.one (.dp T22)) y4], [], via (retP (And.intro (And.intro (And.intro trivial e1) e3) e5) (.one (.dp T22)) (y4 : V22)) (by kernel_rfl)⟩)) (fun e1 =>
   Owp.bnd fun y6 e7 =>
    Owp.bnd fun y8 e9 =>
    Owp.some (⟨[.dec false, .res (.one (.dp T22)) y6, .res (.one (.dp T22)) y8], [], via (retP (And.intro (And.intro (And.intro trivial e1) e7) e9) (.one (.dp T22)) (y8 : V22)) (by kernel_rfl)⟩))
theorem tourref2_Way.ok (k : Nat) : FnOk PR 34 (tourref2_Way.sp k) :=
  fn_ok (tourref2_Way.cok k) hmix Try.func34 (code := tourref2_Way.code) (by kernel_rfl) (by kernel_rfl) (by kernel_rfl) rfl (by kernel_rfl) (by kernel_rfl) (by kernel_rfl) (fun x => Nat.le_of_ble_eq_true (by kernel_rfl)) fun x y hy => (tourref2_Way.way k x.1 x.2.1 x.2.2.1).ap hy

end Go.Proofs.T1
