import Derived.Test.YtcgcnojpcgjnmaaG0
import Derived.Test.YtcgcnojpcgjnmaaG5
namespace Go.Proofs.T1
open Go Go.Sx Go.Proofs
set_option maxRecDepth 100000
set_option linter.unusedVariables false
/-! tourney/keep.Check -/
noncomputable def keep_Check.code : Code := Func.cd Try.f121
def keep_Check.c1 (k : Nat) (a0 : (List V25)) : Nat → Int → Option (Int ⊕ Unit)
  | 0, _ => none
  | n + 1, v2 =>
   bif' (ilt v2 (len a0))
   (req (inL v2 a0) <|
    bnd (body_Check k (el Z25 a0 v2)) fun y5 =>
    bif' (ine y5 0)
    (some (.inl y5))
    (keep_Check.c1 k a0 n (iadd .i64 v2 1)))
   (some (.inr ()))
def keep_Check (k : Nat) (a0 : (List V25)) : Option Int :=
  bif' (igt (len a0) 64)
  (some 2)
  (bnd (keep_Check.c1 k a0 k 0) fun o8 =>
   two o8 (fun y10 =>
   some y10) (fun y12 =>
   some 0))
noncomputable def keep_Check.sp (k : Nat) : Go.Sx.Spec := ⟨(.pair (.slice T25) .unit), (.one (.dp T2)), fun x => keep_Check k x.1, false⟩
noncomputable def keep_Check.cx (k : Nat) : Go.Sx.Ctx := ⟨tys, [(41, body_Check.sp k)], eqs, 21, 0, [], false⟩
theorem keep_Check.cok (k : Nat) : CtxOk PR (keep_Check.cx k) := ctx_ok tysOk eqsOk (FnsOk.cons (body_Check.ok k) FnsOk.nil) HsOk.nil
noncomputable def keep_Check.c1p (a0 : (List V25)) (v2 : Int) : SL := ⟨[(9, (.val (.slice T25) a0)), (10, (.val T2 (len a0))), (11, (.val T2 v2))], []⟩
noncomputable def keep_Check.c1q (o : Int ⊕ Unit) : SL := (fun o => two o (fun v => ⟨[(2, (.val T2 v))], []⟩) (fun v => ⟨[], []⟩)) o
noncomputable def keep_Check.c1x (o : Int ⊕ Unit) : Ex := (fun o => two o (fun _ => .ret) (fun _ => (.exit 0))) o
noncomputable def keep_Check.c1n (o : Int ⊕ Unit) : Nat := (fun o => two o (fun _ => 0) (fun _ => 0)) o
theorem keep_Check.c1_ok (k : Nat) (a0 : (List V25)) : ∀ (n : Nat) (v2 : Int), Owp (keep_Check.c1 k a0 n v2) fun o => LTriple PR (keep_Check.cx k) (sub keep_Check.code [1, 1, 0, 1, 0, 0]) 0 (keep_Check.c1p a0 v2) (keep_Check.c1x o) (keep_Check.c1n o) (keep_Check.c1q o)
  | 0, _ => fun _ h => nomatch h
  | n + 1, v2 => Owp.of (keep_Check.c1.eq_2 ..) (
   Owp.bif (fun e3 =>
   Owp.req fun h4 =>
    Owp.bnd fun y5 e6 =>
    Owp.bif (fun e7 =>
    Owp.some (loop_exit (keep_Check.cok k) hmix [.dec true, .res (.one (.dp T2)) y5, .dec true] [] [] exne_ret (via (finP (And.intro (And.intro (And.intro (And.intro trivial e3) h4) e6) e7) .ret [] (keep_Check.c1q (.inl y5))) (by kernel_rfl)))) (fun e7 =>
    fun y hy => loop_back (keep_Check.cok k) hmix 0 (keep_Check.c1p a0 (iadd .i64 v2 (1 : Int))) [.dec true, .res (.one (.dp T2)) y5, .dec false] [] [] (via (finP (And.intro (And.intro (And.intro (And.intro trivial e3) h4) e6) e7) .normal [] (keep_Check.c1p a0 (iadd .i64 v2 (1 : Int)))) (by kernel_rfl)) ((keep_Check.c1_ok k a0 n (iadd .i64 v2 (1 : Int))).ap hy))) (fun e3 =>
   Owp.some (loop_exit (keep_Check.cok k) hmix [.dec false] [] [] (exne 0) (via (finP (And.intro trivial e3) (.exit 0) [] (keep_Check.c1q (.inr ()))) (by kernel_rfl)))))
theorem keep_Check.way (k : Nat) (a0 : (List V25)) : Owp (keep_Check k a0) fun y => ∃ answers cmds, exec PR (keep_Check.cx k) keep_Check.code 0 (entry (.pair (.slice T25) .unit) (a0, ())).st answers (Ret (keep_Check.cx k) Try.f121 cmds (.one (.dp T2)) y) := by
  unfold keep_Check; exact
   Owp.bif (fun e1 =>
   Owp.some (⟨[.dec true], [], via (retP (And.intro trivial e1) (.one (.dp T2)) ((2 : Int) : Int)) (by kernel_rfl)⟩)) (fun e1 =>
   Owp.bnd fun o8 e9 =>
    Owp.two (fun y10 e11 =>
    Owp.some (⟨[.dec false, .cut ⟨[], [], (keep_Check.c1p a0 (0 : Int)), 0, .ret, (keep_Check.c1q (.inl y10)), 0⟩], [], via (cutP (And.intro trivial e1) [] (keep_Check.c1p a0 (0 : Int)) (((keep_Check.c1_ok k a0 k (0 : Int)).ap (e9.trans (congrArg some e11))).triple) (retP trivial (.one (.dp T2)) (y10 : Int))) (by kernel_rfl)⟩)) (fun y12 e13 =>
    Owp.some (⟨[.dec false, .cut ⟨[], [], (keep_Check.c1p a0 (0 : Int)), 0, (.exit 0), (keep_Check.c1q (.inr ())), 0⟩], [], via (cutP (And.intro trivial e1) [] (keep_Check.c1p a0 (0 : Int)) (((keep_Check.c1_ok k a0 k (0 : Int)).ap (e9.trans (congrArg some e13))).triple) (retP trivial (.one (.dp T2)) ((0 : Int) : Int))) (by kernel_rfl)⟩)))
theorem keep_Check.ok (k : Nat) : FnOk PR 121 (keep_Check.sp k) :=
  fn_ok (keep_Check.cok k) hmix Try.func121 (code := keep_Check.code) (by kernel_rfl) (by kernel_rfl) (by kernel_rfl) rfl rfl (by kernel_rfl) (by kernel_rfl) (by kernel_rfl) (fun x => Nat.le_of_ble_eq_true (by kernel_rfl)) fun x y hy => (keep_Check.way k x.1).ap hy

end Go.Proofs.T1
