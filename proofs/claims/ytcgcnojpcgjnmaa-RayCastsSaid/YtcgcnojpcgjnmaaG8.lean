import Derived.Test.YtcgcnojpcgjnmaaG0
import Derived.Test.YtcgcnojpcgjnmaaG2
import Derived.Test.YtcgcnojpcgjnmaaG6
namespace Go.Proofs.T1
open Go Go.Sx Go.Proofs
set_option maxRecDepth 100000
set_option linter.unusedVariables false
/-! tourney/tourref2.Bodies -/
noncomputable def tourref2_Bodies.code : Code := Func.cd Try.f51
def tourref2_Bodies.c1 (k : Nat) (a0 : (List V25)) : Nat → Int → Option (Int ⊕ Unit)
  | 0, _ => none
  | n + 1, v2 =>
   bif' (ilt v2 (len a0))
   (req (inL v2 a0) <|
    bnd (tourref2_Body k (el Z25 a0 v2)) fun y5 =>
    bif' (ine y5 0)
    (some (.inl y5))
    (tourref2_Bodies.c1 k a0 n (iadd .i64 v2 1)))
   (some (.inr ()))
def tourref2_Bodies (k : Nat) (a0 : (List V25)) : Option Int :=
  bif' (igt (len a0) 64)
  (some 2)
  (bnd (tourref2_Bodies.c1 k a0 k 0) fun o8 =>
   two o8 (fun y10 =>
   some y10) (fun y12 =>
   some 0))
noncomputable def tourref2_Bodies.sp (k : Nat) : Go.Sx.Spec := ⟨(.pair (.slice T25) .unit), (.one (.dp T2)), fun x => tourref2_Bodies k x.1, false⟩
noncomputable def tourref2_Bodies.cx (k : Nat) : Go.Sx.Ctx := ⟨tys, [(17, tourref2_Body.sp k)], eqs, 21, 0, [], false⟩
theorem tourref2_Bodies.cok (k : Nat) : CtxOk PR (tourref2_Bodies.cx k) := ctx_ok tysOk eqsOk (FnsOk.cons (tourref2_Body.ok k) FnsOk.nil) HsOk.nil
noncomputable def tourref2_Bodies.c1p (a0 : (List V25)) (v2 : Int) : SL := ⟨[(9, (.val (.slice T25) a0)), (10, (.val T2 (len a0))), (11, (.val T2 v2))], []⟩
noncomputable def tourref2_Bodies.c1q (o : Int ⊕ Unit) : SL := (fun o => two o (fun v => ⟨[(2, (.val T2 v))], []⟩) (fun v => ⟨[], []⟩)) o
noncomputable def tourref2_Bodies.c1x (o : Int ⊕ Unit) : Ex := (fun o => two o (fun _ => .ret) (fun _ => (.exit 0))) o
noncomputable def tourref2_Bodies.c1n (o : Int ⊕ Unit) : Nat := (fun o => two o (fun _ => 0) (fun _ => 0)) o
theorem tourref2_Bodies.c1_ok (k : Nat) (a0 : (List V25)) : ∀ (n : Nat) (v2 : Int), Owp (tourref2_Bodies.c1 k a0 n v2) fun o => LTriple PR (tourref2_Bodies.cx k) (sub tourref2_Bodies.code [1, 1, 0, 1, 0, 0]) 0 (tourref2_Bodies.c1p a0 v2) (tourref2_Bodies.c1x o) (tourref2_Bodies.c1n o) (tourref2_Bodies.c1q o)
  | 0, _ => fun _ h => nomatch h
  | n + 1, v2 => Owp.of (tourref2_Bodies.c1.eq_2 ..) (
   Owp.bif (fun e3 =>
   Owp.req fun h4 =>
    Owp.bnd fun y5 e6 =>
    Owp.bif (fun e7 =>
    Owp.some (loop_exit (tourref2_Bodies.cok k) hmix [.dec true, .res (.one (.dp T2)) y5, .dec true] [] [] exne_ret (via (finP (And.intro (And.intro (And.intro (And.intro trivial e3) h4) e6) e7) .ret [] (tourref2_Bodies.c1q (.inl y5))) (by kernel_rfl)))) (fun e7 =>
    fun y hy => loop_back (tourref2_Bodies.cok k) hmix 0 (tourref2_Bodies.c1p a0 (iadd .i64 v2 (1 : Int))) [.dec true, .res (.one (.dp T2)) y5, .dec false] [] [] (via (finP (And.intro (And.intro (And.intro (And.intro trivial e3) h4) e6) e7) .normal [] (tourref2_Bodies.c1p a0 (iadd .i64 v2 (1 : Int)))) (by kernel_rfl)) ((tourref2_Bodies.c1_ok k a0 n (iadd .i64 v2 (1 : Int))).ap hy))) (fun e3 =>
   Owp.some (loop_exit (tourref2_Bodies.cok k) hmix [.dec false] [] [] (exne 0) (via (finP (And.intro trivial e3) (.exit 0) [] (tourref2_Bodies.c1q (.inr ()))) (by kernel_rfl)))))
theorem tourref2_Bodies.way (k : Nat) (a0 : (List V25)) : Owp (tourref2_Bodies k a0) fun y => ∃ answers cmds, exec PR (tourref2_Bodies.cx k) tourref2_Bodies.code 0 (entry (.pair (.slice T25) .unit) (a0, ())).st answers (Ret (tourref2_Bodies.cx k) Try.f51 cmds (.one (.dp T2)) y) := by
  unfold tourref2_Bodies; exact
   Owp.bif (fun e1 =>
   Owp.some (⟨[.dec true], [], via (retP (And.intro trivial e1) (.one (.dp T2)) ((2 : Int) : Int)) (by kernel_rfl)⟩)) (fun e1 =>
   Owp.bnd fun o8 e9 =>
    Owp.two (fun y10 e11 =>
    Owp.some (⟨[.dec false, .cut ⟨[], [], (tourref2_Bodies.c1p a0 (0 : Int)), 0, .ret, (tourref2_Bodies.c1q (.inl y10)), 0⟩], [], via (cutP (And.intro trivial e1) [] (tourref2_Bodies.c1p a0 (0 : Int)) (((tourref2_Bodies.c1_ok k a0 k (0 : Int)).ap (e9.trans (congrArg some e11))).triple) (retP trivial (.one (.dp T2)) (y10 : Int))) (by kernel_rfl)⟩)) (fun y12 e13 =>
    Owp.some (⟨[.dec false, .cut ⟨[], [], (tourref2_Bodies.c1p a0 (0 : Int)), 0, (.exit 0), (tourref2_Bodies.c1q (.inr ())), 0⟩], [], via (cutP (And.intro trivial e1) [] (tourref2_Bodies.c1p a0 (0 : Int)) (((tourref2_Bodies.c1_ok k a0 k (0 : Int)).ap (e9.trans (congrArg some e13))).triple) (retP trivial (.one (.dp T2)) ((0 : Int) : Int))) (by kernel_rfl)⟩)))
theorem tourref2_Bodies.ok (k : Nat) : FnOk PR 51 (tourref2_Bodies.sp k) :=
  fn_ok (tourref2_Bodies.cok k) hmix Try.func51 (code := tourref2_Bodies.code) (by kernel_rfl) (by kernel_rfl) (by kernel_rfl) rfl rfl (by kernel_rfl) (by kernel_rfl) (by kernel_rfl) (fun x => Nat.le_of_ble_eq_true (by kernel_rfl)) fun x y hy => (tourref2_Bodies.way k x.1).ap hy

/-! tourney/tourlaw2.block -/
noncomputable def tourlaw2_block.code : Code := Func.cd Try.f118
def tourlaw2_block (k : Nat) (a0 : Int) (a1 : Int) (a2 : Bool) : Option V25 :=
  bnd (tourlaw2_square k (-1) (-1) 2) fun y1 =>
  bif' a2
  (some (((imul .i64 a0 65536), (imul .i64 a1 65536), ()), (0, 0, ()), 0, 0, 65536, 65536, 0, 0, y1, false, 0, ()))
  (some (((imul .i64 a0 65536), (imul .i64 a1 65536), ()), (0, 0, ()), 0, 0, 0, 0, 0, 0, y1, false, 0, ()))
noncomputable def tourlaw2_block.sp (k : Nat) : Go.Sx.Spec := ⟨(.pair T2 (.pair T2 (.pair T4 .unit))), (.one (.dp T25)), fun x => tourlaw2_block k x.1 x.2.1 x.2.2.1, false⟩
noncomputable def tourlaw2_block.cx (k : Nat) : Go.Sx.Ctx := ⟨tys, [(69, (tourlaw2_square.sp k).frz)], eqs, 19, 0, [], false⟩
theorem tourlaw2_block.cok (k : Nat) : CtxOk PR (tourlaw2_block.cx k) := ctx_ok tysOk eqsOk (FnsOk.cons (FnOk.frz rfl (tourlaw2_square.ok k)) FnsOk.nil) HsOk.nil
theorem tourlaw2_block.way (k : Nat) (a0 : Int) (a1 : Int) (a2 : Bool) : Owp (tourlaw2_block k a0 a1 a2) fun y => ∃ answers cmds, exec PR (tourlaw2_block.cx k) tourlaw2_block.code 0 (entry (.pair T2 (.pair T2 (.pair T4 .unit))) (a0, a1, a2, ())).st answers (Ret (tourlaw2_block.cx k) Try.f118 cmds (.one (.dp T25)) y) := by
  unfold tourlaw2_block; exact
   Owp.bnd fun y1 e2 =>
   Owp.bif (fun e3 =>
   Owp.some (⟨[.res (.one (.dp T24)) y1, .dec true], [], via (retP (And.intro (And.intro trivial e2) e3) (.one (.dp T25)) ((((imul .i64 a0 (65536 : Int)), (imul .i64 a1 (65536 : Int)), ()), ((0 : Int), (0 : Int), ()), (0 : Int), (0 : Int), (65536 : Int), (65536 : Int), (0 : Int), (0 : Int), y1, false, (0 : Int), ()) : V25)) (by kernel_rfl)⟩)) (fun e3 =>
   Owp.some (⟨[.res (.one (.dp T24)) y1, .dec false], [], via (retP (And.intro (And.intro trivial e2) e3) (.one (.dp T25)) ((((imul .i64 a0 (65536 : Int)), (imul .i64 a1 (65536 : Int)), ()), ((0 : Int), (0 : Int), ()), (0 : Int), (0 : Int), (0 : Int), (0 : Int), (0 : Int), (0 : Int), y1, false, (0 : Int), ()) : V25)) (by kernel_rfl)⟩))
theorem tourlaw2_block.ok (k : Nat) : FnOk PR 118 (tourlaw2_block.sp k) :=
  fn_ok (tourlaw2_block.cok k) hmix Try.func118 (code := tourlaw2_block.code) (by kernel_rfl) (by kernel_rfl) (by kernel_rfl) rfl rfl (by kernel_rfl) (by kernel_rfl) (by kernel_rfl) (fun x => Nat.le_of_ble_eq_true (by kernel_rfl)) fun x y hy => (tourlaw2_block.way k x.1 x.2.1 x.2.2.1).ap hy

end Go.Proofs.T1
