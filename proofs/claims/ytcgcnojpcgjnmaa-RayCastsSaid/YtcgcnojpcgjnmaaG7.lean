import Derived.Test.YtcgcnojpcgjnmaaG0
import Derived.Test.YtcgcnojpcgjnmaaG6
namespace Go.Proofs.T1
open Go Go.Sx Go.Proofs
set_option maxRecDepth 100000
set_option linter.unusedVariables false
/-! tourney/tourref2.Placed -/
noncomputable def tourref2_Placed.code : Code := Func.cd Try.f44
def tourref2_Placed.c1 (k : Nat) (a0 : V25) : Nat → Int → (List V22) → Option ((List V22))
  | 0, _, _ => none
  | n + 1, v2, v3 =>
   bif' (ilt v2 (len (mk0 Z22 (len a0.2.2.2.2.2.2.2.2.1))))
   (req (inL v2 a0.2.2.2.2.2.2.2.2.1) <|
    bnd (tourref2_World k a0 (el Z22 a0.2.2.2.2.2.2.2.2.1 v2)) fun y6 =>
    req (inL v2 v3) <|
    tourref2_Placed.c1 k a0 n (iadd .i64 v2 1) (st v3 v2 y6))
   (some v3)
def tourref2_Placed (k : Nat) (a0 : V25) : Option (List V22) :=
  req (mkOk 16 (len a0.2.2.2.2.2.2.2.2.1) (len a0.2.2.2.2.2.2.2.2.1)) <|
  bnd (tourref2_Placed.c1 k a0 k 0 (mk0 Z22 (len a0.2.2.2.2.2.2.2.2.1))) fun o9 =>
  some o9
noncomputable def tourref2_Placed.sp (k : Nat) : Go.Sx.Spec := ⟨(.pair T25 .unit), (.one (.ow T22 23)), fun x => tourref2_Placed k x.1, false⟩
noncomputable def tourref2_Placed.cx (k : Nat) : Go.Sx.Ctx := ⟨tys, [(115, tourref2_World.sp k)], eqs, 26, 0, [], false⟩
theorem tourref2_Placed.cok (k : Nat) : CtxOk PR (tourref2_Placed.cx k) := ctx_ok tysOk eqsOk (FnsOk.cons (tourref2_World.ok k) FnsOk.nil) HsOk.nil
noncomputable def tourref2_Placed.c1p (a0 : V25) (v2 : Int) (v3 : (List V22)) : SL := ⟨[(1, (.val .ptr ⟨0, 0, (0 : Int), 0, 0⟩)), (3, (.val .own (1 : Nat))), (10, (.val T2 (len (mk0 Z22 (len a0.2.2.2.2.2.2.2.2.1))))), (11, (.val T2 v2))], [(0, .cells T25 a0), (1, .row T22 v3 23)]⟩
noncomputable def tourref2_Placed.c1q (o : (List V22)) : SL := (fun v => ⟨[(3, (.val .own (0 : Nat)))], [(0, .row T22 v 23)]⟩) o
noncomputable def tourref2_Placed.c1x (o : (List V22)) : Ex := (fun _ => (.exit 0)) o
noncomputable def tourref2_Placed.c1n (o : (List V22)) : Nat := (fun _ => 1) o
theorem tourref2_Placed.c1_ok (k : Nat) (a0 : V25) : ∀ (n : Nat) (v2 : Int) (v3 : (List V22)), Owp (tourref2_Placed.c1 k a0 n v2 v3) fun o => LTriple PR (tourref2_Placed.cx k) (sub tourref2_Placed.code [1, 1, 0, 1, 0, 0]) 2 (tourref2_Placed.c1p a0 v2 v3) (tourref2_Placed.c1x o) (tourref2_Placed.c1n o) (tourref2_Placed.c1q o)
  | 0, _, _ => fun _ h => nomatch h
  | n + 1, v2, v3 => Owp.of (tourref2_Placed.c1.eq_2 ..) (
   Owp.bif (fun e4 =>
   Owp.req fun h5 =>
    Owp.bnd fun y6 e7 =>
    Owp.req fun h8 =>
    fun y hy => loop_back (tourref2_Placed.cok k) hmix 2 (tourref2_Placed.c1p a0 (iadd .i64 v2 (1 : Int)) (st v3 v2 y6)) [.dec true, .res (.one (.dp T22)) y6] [] [(0, 0), (1, 1)] (via (finP (And.intro (And.intro (And.intro (And.intro (And.intro trivial e4) h5) e7) h8) h8) .normal [(0, 0), (1, 1)] (tourref2_Placed.c1p a0 (iadd .i64 v2 (1 : Int)) (st v3 v2 y6))) (by kernel_rfl)) ((tourref2_Placed.c1_ok k a0 n (iadd .i64 v2 (1 : Int)) (st v3 v2 y6)).ap hy)) (fun e4 =>
   Owp.some (loop_exit (tourref2_Placed.cok k) hmix [.dec false] [] [(0, 1)] (exne 0) (via (finP (And.intro trivial e4) (.exit 0) [(0, 1)] (tourref2_Placed.c1q v3)) (by kernel_rfl)))))
theorem tourref2_Placed.way (k : Nat) (a0 : V25) : Owp (tourref2_Placed k a0) fun y => ∃ answers cmds, exec PR (tourref2_Placed.cx k) tourref2_Placed.code 0 (entry (.pair T25 .unit) (a0, ())).st answers (Ret (tourref2_Placed.cx k) Try.f44 cmds (.one (.ow T22 23)) y) := by
  unfold tourref2_Placed; exact
   Owp.req fun h1 =>
   Owp.bnd fun o9 e10 =>
   Owp.some (⟨[.cut ⟨[], [(0, 0), (1, 5)], (tourref2_Placed.c1p a0 (0 : Int) (mk0 Z22 (len a0.2.2.2.2.2.2.2.2.1))), 2, (.exit 0), (tourref2_Placed.c1q o9), 1⟩], [], via (cutP (And.intro trivial h1) [(0, 0), (1, 5)] (tourref2_Placed.c1p a0 (0 : Int) (mk0 Z22 (len a0.2.2.2.2.2.2.2.2.1))) (((tourref2_Placed.c1_ok k a0 k (0 : Int) (mk0 Z22 (len a0.2.2.2.2.2.2.2.2.1))).ap e10).triple) (retP trivial (.one (.ow T22 23)) (o9 : (List V22)))) (by kernel_rfl)⟩)
theorem tourref2_Placed.ok (k : Nat) : FnOk PR 44 (tourref2_Placed.sp k) :=
  fn_ok (tourref2_Placed.cok k) hmix Try.func44 (code := tourref2_Placed.code) (by kernel_rfl) (by kernel_rfl) (by kernel_rfl) rfl rfl (by kernel_rfl) (by kernel_rfl) (by kernel_rfl) (fun x => Nat.le_of_ble_eq_true (by kernel_rfl)) fun x y hy => (tourref2_Placed.way k x.1).ap hy

end Go.Proofs.T1
