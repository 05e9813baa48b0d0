import Derived.Test.YtddbhngnhegndaaG0
import Derived.Test.YtddbhngnhegndaaG2
import Derived.Test.YtddbhngnhegndaaG4
import Derived.Test.YtddbhngnhegndaaG7
namespace Go.Proofs.T1
open Go Go.Sx Go.Proofs
set_option maxRecDepth 100000
set_option linter.unusedVariables false
/-! tourney/reach.far -/
noncomputable def reach_far.code : Code := Func.cd Try.f37
def reach_far.c1 (k : Nat) (a0 : V39) : Option (Bool) :=
  bif' (ieq a0.2.2.2.2.1 0)
  (some true)
  (some a0.2.2.2.2.2.2.2.2.2.1)
def reach_far.c2 (k : Nat) (a0 : V39) : Nat → Int → Int → Option (Int)
  | 0, _, _ => none
  | n + 1, v5, v6 =>
   bif' (ilt v6 (len a0.2.2.2.2.2.2.2.2.1))
   (req (inL v6 a0.2.2.2.2.2.2.2.2.1) <|
    bnd (vec_Len k (el Z28 a0.2.2.2.2.2.2.2.2.1 v6)) fun y9 =>
    reach_far.c2 k a0 n (imax v5 (iadd .i64 y9 2)) (iadd .i64 v6 1))
   (some v5)
def reach_far (k : Nat) (a0 : V39) : Option Int :=
  bnd (reach_far.c1 k a0) fun o2 =>
  bif' o2
  (some 0)
  (bnd (reach_far.c2 k a0 k 0 0) fun o11 =>
   some o11)
noncomputable def reach_far.sp (k : Nat) : Go.Sx.Spec := ⟨(.pair T39 .unit), (.one (.dp T2)), fun x => reach_far k x.1, false⟩
noncomputable def reach_far.cx (k : Nat) : Go.Sx.Ctx := ⟨tys, [(63, vec_Len.sp k)], eqs, 27, false⟩
theorem reach_far.cok (k : Nat) : CtxOk PR (reach_far.cx k) := ctx_ok tysOk eqsOk (FnsOk.cons (vec_Len.ok k) FnsOk.nil)
noncomputable def reach_far.c1p (a0 : V39) : SL := ⟨[(1, (.val .ptr ⟨0, 0, (0 : Int), 0, 0⟩))], [(0, .cells T39 a0)]⟩
noncomputable def reach_far.c1q (a0 : V39) (o : Bool) : SL := (fun v => ⟨[(1, (.val .ptr ⟨0, 0, (0 : Int), 0, 0⟩)), (12, (.val T4 v))], [(0, .cells T39 a0)]⟩) o
noncomputable def reach_far.c1x (o : Bool) : Ex := (fun _ => .normal) o
noncomputable def reach_far.c1n (o : Bool) : Nat := (fun _ => 1) o
theorem reach_far.c1_ok (k : Nat) (a0 : V39) : Owp (reach_far.c1 k a0) fun o => Triple PR (reach_far.cx k) (sub reach_far.code [1, 0, 0]) 1 (reach_far.c1p a0) (reach_far.c1x o) (reach_far.c1n o) (reach_far.c1q a0 o) := by
  unfold reach_far.c1; exact
   Owp.bif (fun e1 =>
   Owp.some (triple_way (reach_far.cok k) hmix [.dec true, .dec true, .dec true] [] [(0, 0)] (via (finP (And.intro (And.intro (And.intro trivial e1) e1) e1) .normal [(0, 0)] (reach_far.c1q a0 true)) (by kernel_rfl)))) (fun e1 =>
   Owp.some (triple_way (reach_far.cok k) hmix [.dec false, .dec false, .dec false] [] [(0, 0)] (via (finP (And.intro (And.intro (And.intro trivial e1) e1) e1) .normal [(0, 0)] (reach_far.c1q a0 a0.2.2.2.2.2.2.2.2.2.1)) (by kernel_rfl))))
noncomputable def reach_far.c2p (a0 : V39) (v5 : Int) (v6 : Int) : SL := ⟨[(3, (.val T2 v5)), (14, (.val T23 a0.2.2.2.2.2.2.2.2.1)), (15, (.val T2 (len a0.2.2.2.2.2.2.2.2.1))), (16, (.val T2 v6))], []⟩
noncomputable def reach_far.c2q (o : Int) : SL := (fun v => ⟨[(3, (.val T2 v))], []⟩) o
noncomputable def reach_far.c2x (o : Int) : Ex := (fun _ => (.exit 0)) o
noncomputable def reach_far.c2n (o : Int) : Nat := (fun _ => 0) o
theorem reach_far.c2_ok (k : Nat) (a0 : V39) : ∀ (n : Nat) (v5 : Int) (v6 : Int), Owp (reach_far.c2 k a0 n v5 v6) fun o => LTriple PR (reach_far.cx k) (sub reach_far.code [1, 1, 1, 0, 1, 0, 0]) 0 (reach_far.c2p a0 v5 v6) (reach_far.c2x o) (reach_far.c2n o) (reach_far.c2q o)
  | 0, _, _ => fun _ h => nomatch h
  | n + 1, v5, v6 => Owp.of (reach_far.c2.eq_2 ..) (
   Owp.bif (fun e7 =>
   Owp.req fun h8 =>
    Owp.bnd fun y9 e10 =>
    fun y hy => loop_back (reach_far.cok k) hmix 0 (reach_far.c2p a0 (imax v5 (iadd .i64 y9 (2 : Int))) (iadd .i64 v6 (1 : Int))) [.dec true, .res (.one (.dp T2)) y9] [] [] (via (finP (And.intro (And.intro (And.intro trivial e7) h8) e10) .normal [] (reach_far.c2p a0 (imax v5 (iadd .i64 y9 (2 : Int))) (iadd .i64 v6 (1 : Int)))) (by kernel_rfl)) ((reach_far.c2_ok k a0 n (imax v5 (iadd .i64 y9 (2 : Int))) (iadd .i64 v6 (1 : Int))).ap hy)) (fun e7 =>
   Owp.some (loop_exit (reach_far.cok k) hmix [.dec false] [] [] (exne 0) (via (finP (And.intro trivial e7) (.exit 0) [] (reach_far.c2q v5)) (by kernel_rfl)))))
theorem reach_far.way (k : Nat) (a0 : V39) : Owp (reach_far k a0) fun y => ∃ answers cmds, exec PR (reach_far.cx k) reach_far.code 0 (entry (.pair T39 .unit) (a0, ())).st answers (Ret (reach_far.cx k) Try.f37 cmds (.one (.dp T2)) y) := by
  unfold reach_far; exact
   Owp.bnd fun o2 e3 =>
   Owp.bif (fun e4 =>
   Owp.some (⟨[.cutR 1 ⟨[], [(0, 0)], (reach_far.c1p a0), 1, .normal, (reach_far.c1q a0 o2), 1⟩, .dec true], [], via (cutP trivial [(0, 0)] (reach_far.c1p a0) (((reach_far.c1_ok k a0).ap e3)) (retP (And.intro trivial e4) (.one (.dp T2)) ((0 : Int) : Int))) (by kernel_rfl)⟩)) (fun e4 =>
   Owp.bnd fun o11 e12 =>
    Owp.some (⟨[.cutR 1 ⟨[], [(0, 0)], (reach_far.c1p a0), 1, .normal, (reach_far.c1q a0 o2), 1⟩, .dec false, .cut ⟨[], [], (reach_far.c2p a0 (0 : Int) (0 : Int)), 0, (.exit 0), (reach_far.c2q o11), 0⟩], [], via (cutP trivial [(0, 0)] (reach_far.c1p a0) (((reach_far.c1_ok k a0).ap e3)) (cutP (And.intro trivial e4) [] (reach_far.c2p a0 (0 : Int) (0 : Int)) (((reach_far.c2_ok k a0 k (0 : Int) (0 : Int)).ap e12).triple) (retP trivial (.one (.dp T2)) (o11 : Int)))) (by kernel_rfl)⟩))
theorem reach_far.ok (k : Nat) : FnOk PR 37 (reach_far.sp k) :=
  fn_ok (reach_far.cok k) hmix Try.func37 (code := reach_far.code) (by kernel_rfl) (by kernel_rfl) (by kernel_rfl) rfl (by kernel_rfl) (by kernel_rfl) (by kernel_rfl) (fun x => Nat.le_of_ble_eq_true (by kernel_rfl)) fun x y hy => (reach_far.way k x.1).ap hy

/-! tourney/reach.turning -/
noncomputable def reach_turning.code : Code := Func.cd Try.f64
def reach_turning.c1 (k : Nat) (a0 : V39) : Option (Bool) :=
  bif' (ieq a0.2.2.2.2.1 0)
  (some true)
  (some a0.2.2.2.2.2.2.2.2.2.1)
def reach_turning (k : Nat) (a0 : V39) (a1 : Int) : Option Int :=
  bnd (reach_turning.c1 k a0) fun o2 =>
  bif' o2
  (some 0)
  (bnd (fix_Mul k (imax a0.2.2.2.1 (ineg .i64 a0.2.2.2.1)) 411775) fun y5 =>
   bnd (reach_far k a0) fun y7 =>
   bnd (fix_Mul k y5 y7) fun y9 =>
   bnd (fix_Mul k y9 a1) fun y11 =>
   some (iadd .i64 y11 4))
noncomputable def reach_turning.sp (k : Nat) : Go.Sx.Spec := ⟨(.pair T39 (.pair T2 .unit)), (.one (.dp T2)), fun x => reach_turning k x.1 x.2.1, false⟩
noncomputable def reach_turning.cx (k : Nat) : Go.Sx.Ctx := ⟨tys, [(39, fix_Mul.sp k), (37, reach_far.sp k)], eqs, 25, false⟩
theorem reach_turning.cok (k : Nat) : CtxOk PR (reach_turning.cx k) := ctx_ok tysOk eqsOk (FnsOk.cons (fix_Mul.ok k) (FnsOk.cons (reach_far.ok k) FnsOk.nil))
noncomputable def reach_turning.c1p (a0 : V39) (a1 : Int) : SL := ⟨[(1, (.val T2 a1)), (2, (.val .ptr ⟨0, 0, (0 : Int), 0, 0⟩))], [(0, .cells T39 a0)]⟩
noncomputable def reach_turning.c1q (a0 : V39) (a1 : Int) (o : Bool) : SL := (fun v => ⟨[(1, (.val T2 a1)), (2, (.val .ptr ⟨0, 0, (0 : Int), 0, 0⟩)), (11, (.val T4 v))], [(0, .cells T39 a0)]⟩) o
noncomputable def reach_turning.c1x (o : Bool) : Ex := (fun _ => .normal) o
noncomputable def reach_turning.c1n (o : Bool) : Nat := (fun _ => 1) o
theorem reach_turning.c1_ok (k : Nat) (a0 : V39) (a1 : Int) : Owp (reach_turning.c1 k a0) fun o => Triple PR (reach_turning.cx k) (sub reach_turning.code [1, 0, 0]) 1 (reach_turning.c1p a0 a1) (reach_turning.c1x o) (reach_turning.c1n o) (reach_turning.c1q a0 a1 o) := by
  unfold reach_turning.c1; exact
   Owp.bif (fun e1 =>
   Owp.some (triple_way (reach_turning.cok k) hmix [.dec true, .dec true, .dec true] [] [(0, 0)] (via (finP (And.intro (And.intro (And.intro trivial e1) e1) e1) .normal [(0, 0)] (reach_turning.c1q a0 a1 true)) (by kernel_rfl)))) (fun e1 =>
   Owp.some (triple_way (reach_turning.cok k) hmix [.dec false, .dec false, .dec false] [] [(0, 0)] (via (finP (And.intro (And.intro (And.intro trivial e1) e1) e1) .normal [(0, 0)] (reach_turning.c1q a0 a1 a0.2.2.2.2.2.2.2.2.2.1)) (by kernel_rfl))))
theorem reach_turning.way (k : Nat) (a0 : V39) (a1 : Int) : Owp (reach_turning k a0 a1) fun y => ∃ answers cmds, exec PR (reach_turning.cx k) reach_turning.code 0 (entry (.pair T39 (.pair T2 .unit)) (a0, a1, ())).st answers (Ret (reach_turning.cx k) Try.f64 cmds (.one (.dp T2)) y) := by
  unfold reach_turning; exact
   Owp.bnd fun o2 e3 =>
   Owp.bif (fun e4 =>
   Owp.some (⟨[.cutR 1 ⟨[], [(0, 0)], (reach_turning.c1p a0 a1), 1, .normal, (reach_turning.c1q a0 a1 o2), 1⟩, .dec true], [], via (cutP trivial [(0, 0)] (reach_turning.c1p a0 a1) (((reach_turning.c1_ok k a0 a1).ap e3)) (retP (And.intro trivial e4) (.one (.dp T2)) ((0 : Int) : Int))) (by kernel_rfl)⟩)) (fun e4 =>
   Owp.bnd fun y5 e6 =>
    Owp.bnd fun y7 e8 =>
    Owp.bnd fun y9 e10 =>
    Owp.bnd fun y11 e12 =>
    Owp.some (⟨[.cutR 1 ⟨[], [(0, 0)], (reach_turning.c1p a0 a1), 1, .normal, (reach_turning.c1q a0 a1 o2), 1⟩, .dec false, .res (.one (.dp T2)) y5, .res (.one (.dp T2)) y7, .res (.one (.dp T2)) y9, .res (.one (.dp T2)) y11], [], via (cutP trivial [(0, 0)] (reach_turning.c1p a0 a1) (((reach_turning.c1_ok k a0 a1).ap e3)) (retP (And.intro (And.intro (And.intro (And.intro (And.intro trivial e4) e6) e8) e10) e12) (.one (.dp T2)) ((iadd .i64 y11 (4 : Int)) : Int))) (by kernel_rfl)⟩))
theorem reach_turning.ok (k : Nat) : FnOk PR 64 (reach_turning.sp k) :=
  fn_ok (reach_turning.cok k) hmix Try.func64 (code := reach_turning.code) (by kernel_rfl) (by kernel_rfl) (by kernel_rfl) rfl (by kernel_rfl) (by kernel_rfl) (by kernel_rfl) (fun x => Nat.le_of_ble_eq_true (by kernel_rfl)) fun x y hy => (reach_turning.way k x.1 x.2.1).ap hy

/-! tourney/reach.Bound -/
noncomputable def reach_Bound.code : Code := Func.cd Try.f36
def reach_Bound.c1 (k : Nat) (a0 : V39) (a1 : V39) : Nat → Int → Option (Int ⊕ Unit)
  | 0, _ => none
  | n + 1, v1 =>
   bif' (ilt v1 (len [a0, a1]))
   (req (inL v1 [a0, a1]) <|
    bnd (body_Check k (el Z39 [a0, a1] v1)) fun y4 =>
    bif' (ine y4 0)
    (some (.inl y4))
    (reach_Bound.c1 k a0 a1 n (iadd .i64 v1 1)))
   (some (.inr ()))
def reach_Bound.c2 (k : Nat) (a2 : Int) : Option (Bool) :=
  bif' (ilt a2 0)
  (some true)
  (some (igt a2 65536))
def reach_Bound (k : Nat) (a0 : V39) (a1 : V39) (a2 : Int) : Option (Int × Int) :=
  bnd (reach_Bound.c1 k a0 a1 k 0) fun o7 =>
  two o7 (fun y9 =>
  some (0, y9)) (fun y11 =>
  bnd (reach_Bound.c2 k a2) fun o14 =>
   bif' o14
   (some (0, 1))
   (bnd (vec_Len k a0.2.1) fun y17 =>
    bnd (vec_Len k a1.2.1) fun y19 =>
    bnd (fix_Mul k (iadd .i64 (iadd .i64 y17 y19) 4) a2) fun y21 =>
    bnd (reach_turning k a0 a2) fun y23 =>
    bnd (reach_turning k a1 a2) fun y25 =>
    some ((iadd .i64 (iadd .i64 (iadd .i64 y21 8) y23) y25), 0)))
noncomputable def reach_Bound.sp (k : Nat) : Go.Sx.Spec := ⟨(.pair T39 (.pair T39 (.pair T2 .unit))), (.more (.dp T2) (.one (.dp T2))), fun x => reach_Bound k x.1 x.2.1 x.2.2.1, false⟩
noncomputable def reach_Bound.cx (k : Nat) : Go.Sx.Ctx := ⟨tys, [(42, body_Check.sp k), (63, vec_Len.sp k), (39, fix_Mul.sp k), (64, reach_turning.sp k)], eqs, 50, false⟩
theorem reach_Bound.cok (k : Nat) : CtxOk PR (reach_Bound.cx k) := ctx_ok tysOk eqsOk (FnsOk.cons (body_Check.ok k) (FnsOk.cons (vec_Len.ok k) (FnsOk.cons (fix_Mul.ok k) (FnsOk.cons (reach_turning.ok k) FnsOk.nil))))
noncomputable def reach_Bound.c1p (a0 : V39) (a1 : V39) (a2 : Int) (v1 : Int) : SL := ⟨[(2, (.val T2 a2)), (3, (.val .ptr ⟨0, 0, (0 : Int), 0, 0⟩)), (4, (.val .ptr ⟨1, 0, (0 : Int), 0, 0⟩)), (13, (.val .own (2 : Nat))), (14, (.val T2 (len [a0, a1]))), (15, (.val T2 v1))], [(0, .cells T39 a0), (1, .cells T39 a1), (2, .row T39 [a0, a1] 40)]⟩
noncomputable def reach_Bound.c1q (a0 : V39) (a1 : V39) (a2 : Int) (o : Int ⊕ Unit) : SL := (fun o => two o (fun v => ⟨[(6, (.val T2 (0 : Int))), (7, (.val T2 v))], []⟩) (fun v => ⟨[(2, (.val T2 a2)), (3, (.val .ptr ⟨0, 0, (0 : Int), 0, 0⟩)), (4, (.val .ptr ⟨1, 0, (0 : Int), 0, 0⟩))], [(0, .cells T39 a0), (1, .cells T39 a1)]⟩)) o
noncomputable def reach_Bound.c1x (o : Int ⊕ Unit) : Ex := (fun o => two o (fun _ => .ret) (fun _ => (.exit 0))) o
noncomputable def reach_Bound.c1n (o : Int ⊕ Unit) : Nat := (fun o => two o (fun _ => 0) (fun _ => 2)) o
theorem reach_Bound.c1_ok (k : Nat) (a0 : V39) (a1 : V39) (a2 : Int) : ∀ (n : Nat) (v1 : Int), Owp (reach_Bound.c1 k a0 a1 n v1) fun o => LTriple PR (reach_Bound.cx k) (sub reach_Bound.code [1, 0, 1, 0, 0]) 3 (reach_Bound.c1p a0 a1 a2 v1) (reach_Bound.c1x o) (reach_Bound.c1n o) (reach_Bound.c1q a0 a1 a2 o)
  | 0, _ => fun _ h => nomatch h
  | n + 1, v1 => Owp.of (reach_Bound.c1.eq_2 ..) (
   Owp.bif (fun e2 =>
   Owp.req fun h3 =>
    Owp.bnd fun y4 e5 =>
    Owp.bif (fun e6 =>
    Owp.some (loop_exit (reach_Bound.cok k) hmix [.dec true, .res (.one (.dp T2)) y4, .dec true] [] [] exne_ret (via (finP (And.intro (And.intro (And.intro (And.intro (And.intro trivial e2) h3) h3) e5) e6) .ret [] (reach_Bound.c1q a0 a1 a2 (.inl y4))) (by kernel_rfl)))) (fun e6 =>
    fun y hy => loop_back (reach_Bound.cok k) hmix 3 (reach_Bound.c1p a0 a1 a2 (iadd .i64 v1 (1 : Int))) [.dec true, .res (.one (.dp T2)) y4, .dec false] [] [(0, 0), (1, 1), (2, 2)] (via (finP (And.intro (And.intro (And.intro (And.intro (And.intro trivial e2) h3) h3) e5) e6) .normal [(0, 0), (1, 1), (2, 2)] (reach_Bound.c1p a0 a1 a2 (iadd .i64 v1 (1 : Int)))) (by kernel_rfl)) ((reach_Bound.c1_ok k a0 a1 a2 n (iadd .i64 v1 (1 : Int))).ap hy))) (fun e2 =>
   Owp.some (loop_exit (reach_Bound.cok k) hmix [.dec false] [] [(0, 0), (1, 1)] (exne 0) (via (finP (And.intro trivial e2) (.exit 0) [(0, 0), (1, 1)] (reach_Bound.c1q a0 a1 a2 (.inr ()))) (by kernel_rfl)))))
noncomputable def reach_Bound.c2p (a0 : V39) (a1 : V39) (a2 : Int) : SL := ⟨[(2, (.val T2 a2)), (3, (.val .ptr ⟨0, 0, (0 : Int), 0, 0⟩)), (4, (.val .ptr ⟨1, 0, (0 : Int), 0, 0⟩))], [(0, .cells T39 a0), (1, .cells T39 a1)]⟩
noncomputable def reach_Bound.c2q (a0 : V39) (a1 : V39) (a2 : Int) (o : Bool) : SL := (fun v => ⟨[(2, (.val T2 a2)), (3, (.val .ptr ⟨0, 0, (0 : Int), 0, 0⟩)), (4, (.val .ptr ⟨1, 0, (0 : Int), 0, 0⟩)), (30, (.val T4 v))], [(0, .cells T39 a0), (1, .cells T39 a1)]⟩) o
noncomputable def reach_Bound.c2x (o : Bool) : Ex := (fun _ => .normal) o
noncomputable def reach_Bound.c2n (o : Bool) : Nat := (fun _ => 2) o
theorem reach_Bound.c2_ok (k : Nat) (a0 : V39) (a1 : V39) (a2 : Int) : Owp (reach_Bound.c2 k a2) fun o => Triple PR (reach_Bound.cx k) (sub reach_Bound.code [1, 1, 0, 0]) 2 (reach_Bound.c2p a0 a1 a2) (reach_Bound.c2x o) (reach_Bound.c2n o) (reach_Bound.c2q a0 a1 a2 o) := by
  unfold reach_Bound.c2; exact
   Owp.bif (fun e13 =>
   Owp.some (triple_way (reach_Bound.cok k) hmix [.dec true, .dec true, .dec true] [] [(0, 0), (1, 1)] (via (finP (And.intro (And.intro (And.intro trivial e13) e13) e13) .normal [(0, 0), (1, 1)] (reach_Bound.c2q a0 a1 a2 true)) (by kernel_rfl)))) (fun e13 =>
   Owp.some (triple_way (reach_Bound.cok k) hmix [.dec false, .dec false, .dec false] [] [(0, 0), (1, 1)] (via (finP (And.intro (And.intro (And.intro trivial e13) e13) e13) .normal [(0, 0), (1, 1)] (reach_Bound.c2q a0 a1 a2 (igt a2 (65536 : Int)))) (by kernel_rfl))))
theorem reach_Bound.way (k : Nat) (a0 : V39) (a1 : V39) (a2 : Int) : Owp (reach_Bound k a0 a1 a2) fun y => ∃ answers cmds, exec PR (reach_Bound.cx k) reach_Bound.code 0 (entry (.pair T39 (.pair T39 (.pair T2 .unit))) (a0, a1, a2, ())).st answers (Ret (reach_Bound.cx k) Try.f36 cmds (.more (.dp T2) (.one (.dp T2))) y) := by
  unfold reach_Bound; exact
   Owp.bnd fun o7 e8 =>
   Owp.two (fun y9 e10 =>
   Owp.some (⟨[.dec true, .cut ⟨[], [(0, 0), (1, 1), (2, 6)], (reach_Bound.c1p a0 a1 a2 (0 : Int)), 3, .ret, (reach_Bound.c1q a0 a1 a2 (.inl y9)), 0⟩], [], via (cutP trivial [(0, 0), (1, 1), (2, 6)] (reach_Bound.c1p a0 a1 a2 (0 : Int)) (((reach_Bound.c1_ok k a0 a1 a2 k (0 : Int)).ap (e8.trans (congrArg some e10))).triple) (retP trivial (.more (.dp T2) (.one (.dp T2))) (((0 : Int), y9) : (Int × Int)))) (by kernel_rfl)⟩)) (fun y11 e12 =>
   Owp.bnd fun o14 e15 =>
    Owp.bif (fun e16 =>
    Owp.some (⟨[.dec true, .cut ⟨[], [(0, 0), (1, 1), (2, 6)], (reach_Bound.c1p a0 a1 a2 (0 : Int)), 3, (.exit 0), (reach_Bound.c1q a0 a1 a2 (.inr ())), 2⟩, .cutR 8 ⟨[], [(0, 0), (1, 1)], (reach_Bound.c2p a0 a1 a2), 2, .normal, (reach_Bound.c2q a0 a1 a2 o14), 2⟩, .dec true], [], via (cutP trivial [(0, 0), (1, 1), (2, 6)] (reach_Bound.c1p a0 a1 a2 (0 : Int)) (((reach_Bound.c1_ok k a0 a1 a2 k (0 : Int)).ap (e8.trans (congrArg some e12))).triple) (cutP trivial [(0, 0), (1, 1)] (reach_Bound.c2p a0 a1 a2) (((reach_Bound.c2_ok k a0 a1 a2).ap e15)) (retP (And.intro trivial e16) (.more (.dp T2) (.one (.dp T2))) (((0 : Int), (1 : Int)) : (Int × Int))))) (by kernel_rfl)⟩)) (fun e16 =>
    Owp.bnd fun y17 e18 =>
     Owp.bnd fun y19 e20 =>
     Owp.bnd fun y21 e22 =>
     Owp.bnd fun y23 e24 =>
     Owp.bnd fun y25 e26 =>
     Owp.some (⟨[.dec true, .cut ⟨[], [(0, 0), (1, 1), (2, 6)], (reach_Bound.c1p a0 a1 a2 (0 : Int)), 3, (.exit 0), (reach_Bound.c1q a0 a1 a2 (.inr ())), 2⟩, .cutR 8 ⟨[], [(0, 0), (1, 1)], (reach_Bound.c2p a0 a1 a2), 2, .normal, (reach_Bound.c2q a0 a1 a2 o14), 2⟩, .dec false, .res (.one (.dp T2)) y17, .res (.one (.dp T2)) y19, .res (.one (.dp T2)) y21, .res (.one (.dp T2)) y23, .res (.one (.dp T2)) y25], [], via (cutP trivial [(0, 0), (1, 1), (2, 6)] (reach_Bound.c1p a0 a1 a2 (0 : Int)) (((reach_Bound.c1_ok k a0 a1 a2 k (0 : Int)).ap (e8.trans (congrArg some e12))).triple) (cutP trivial [(0, 0), (1, 1)] (reach_Bound.c2p a0 a1 a2) (((reach_Bound.c2_ok k a0 a1 a2).ap e15)) (retP (And.intro (And.intro (And.intro (And.intro (And.intro (And.intro trivial e16) e18) e20) e22) e24) e26) (.more (.dp T2) (.one (.dp T2))) (((iadd .i64 (iadd .i64 (iadd .i64 y21 (8 : Int)) y23) y25), (0 : Int)) : (Int × Int))))) (by kernel_rfl)⟩)))
theorem reach_Bound.ok (k : Nat) : FnOk PR 36 (reach_Bound.sp k) :=
  fn_ok (reach_Bound.cok k) hmix Try.func36 (code := reach_Bound.code) (by kernel_rfl) (by kernel_rfl) (by kernel_rfl) rfl (by kernel_rfl) (by kernel_rfl) (by kernel_rfl) (fun x => Nat.le_of_ble_eq_true (by kernel_rfl)) fun x y hy => (reach_Bound.way k x.1 x.2.1 x.2.2.1).ap hy

/-! tourney/reach.Time -/
noncomputable def reach_Time.code : Code := Func.cd Try.f14
def reach_Time.c1 (k : Nat) (a0 : V39) (a1 : V39) (a2 : Int) (y1 : (Int × Int)) (y4 : (Int × Int)) (y6 : Int) (y8 : Int) : Nat → Int → Option ((Int × Bool))
  | 0, _ => none
  | n + 1, v10 =>
   bnd (fix_Mul k a2 v10) fun y11 =>
   bnd (body_Move k a0 y11) fun y13 =>
   bnd (body_Place k y13) fun y15 =>
   bnd (fix_Mul k a2 v10) fun y17 =>
   bnd (body_Move k a1 y17) fun y19 =>
   bnd (body_Place k y19) fun y21 =>
   bnd (near_Meet k y15 y21) fun y23 =>
   bif' y23.1
   (some (v10, true))
   (bif' (ieq v10 65536)
    (some (0, false))
    (bnd (near_Apart k y15 y21) fun y27 =>
     req (nz y1.1) <|
     reach_Time.c1 k a0 a1 a2 y1 y4 y6 y8 n (imin 65536 (iadd .i64 v10 (imax 256 (iquo .i64 (imul .i64 (imax 0 (isub .i64 y27.1 (iadd .i64 (iadd .i64 (iadd .i64 16 (imul .i64 2 (iquo .i64 y4.1 65536))) (iquo .i64 (imul .i64 14 y6) 65536)) (iquo .i64 (imul .i64 14 y8) 65536)))) 65536) y1.1))))))
def reach_Time (k : Nat) (a0 : V39) (a1 : V39) (a2 : Int) : Option (Int × (Bool × Int)) :=
  bnd (reach_Bound k a0 a1 a2) fun y1 =>
  bif' (ine y1.2 0)
  (some (0, false, y1.2))
  (bnd (reach_Bound k a0 a1 65536) fun y4 =>
   bnd (reach_far k a0) fun y6 =>
   bnd (reach_far k a1) fun y8 =>
   bnd (reach_Time.c1 k a0 a1 a2 y1 y4 y6 y8 k 0) fun o30 =>
   some (o30.1, o30.2, 0))
noncomputable def reach_Time.sp (k : Nat) : Go.Sx.Spec := ⟨(.pair T39 (.pair T39 (.pair T2 .unit))), (.more (.dp T2) (.more (.dp T4) (.one (.dp T2)))), fun x => reach_Time k x.1 x.2.1 x.2.2.1, false⟩
noncomputable def reach_Time.cx (k : Nat) : Go.Sx.Ctx := ⟨tys, [(36, reach_Bound.sp k), (37, reach_far.sp k), (39, fix_Mul.sp k), (38, body_Move.sp k), (16, body_Place.sp k), (15, near_Meet.sp k), (33, near_Apart.sp k)], eqs, 90, false⟩
theorem reach_Time.cok (k : Nat) : CtxOk PR (reach_Time.cx k) := ctx_ok tysOk eqsOk (FnsOk.cons (reach_Bound.ok k) (FnsOk.cons (reach_far.ok k) (FnsOk.cons (fix_Mul.ok k) (FnsOk.cons (body_Move.ok k) (FnsOk.cons (body_Place.ok k) (FnsOk.cons (near_Meet.ok k) (FnsOk.cons (near_Apart.ok k) FnsOk.nil)))))))
noncomputable def reach_Time.c1p (a0 : V39) (a1 : V39) (a2 : Int) (y1 : (Int × Int)) (y4 : (Int × Int)) (y6 : Int) (y8 : Int) (v10 : Int) : SL := ⟨[(2, (.val T2 a2)), (3, (.val .ptr ⟨0, 0, (0 : Int), 0, 0⟩)), (4, (.val .ptr ⟨1, 0, (0 : Int), 0, 0⟩)), (9, (.val T2 y1.1)), (13, (.val T2 (iadd .i64 (iadd .i64 (iadd .i64 (16 : Int) (imul .i64 (2 : Int) (iquo .i64 y4.1 (65536 : Int)))) (iquo .i64 (imul .i64 (14 : Int) y6) (65536 : Int))) (iquo .i64 (imul .i64 (14 : Int) y8) (65536 : Int))))), (14, (.val T2 v10))], [(0, .cells T39 a0), (1, .cells T39 a1)]⟩
noncomputable def reach_Time.c1q (o : (Int × Bool)) : SL := (fun v => ⟨[(6, (.val T2 v.1)), (7, (.val T4 v.2)), (8, (.val T2 (0 : Int)))], []⟩) o
noncomputable def reach_Time.c1x (o : (Int × Bool)) : Ex := (fun _ => .ret) o
noncomputable def reach_Time.c1n (o : (Int × Bool)) : Nat := (fun _ => 0) o
theorem reach_Time.c1_ok (k : Nat) (a0 : V39) (a1 : V39) (a2 : Int) (y1 : (Int × Int)) (y4 : (Int × Int)) (y6 : Int) (y8 : Int) : ∀ (n : Nat) (v10 : Int), Owp (reach_Time.c1 k a0 a1 a2 y1 y4 y6 y8 n v10) fun o => LTriple PR (reach_Time.cx k) (sub reach_Time.code [1, 1, 1, 1, 1, 1, 0, 0]) 2 (reach_Time.c1p a0 a1 a2 y1 y4 y6 y8 v10) (reach_Time.c1x o) (reach_Time.c1n o) (reach_Time.c1q o)
  | 0, _ => fun _ h => nomatch h
  | n + 1, v10 => Owp.of (reach_Time.c1.eq_2 ..) (
   Owp.bnd fun y11 e12 =>
   Owp.bnd fun y13 e14 =>
   Owp.bnd fun y15 e16 =>
   Owp.bnd fun y17 e18 =>
   Owp.bnd fun y19 e20 =>
   Owp.bnd fun y21 e22 =>
   Owp.bnd fun y23 e24 =>
   Owp.bif (fun e25 =>
   Owp.some (loop_exit (reach_Time.cok k) hmix [.res (.one (.dp T2)) y11, .res (.one (.dp T39)) y13, .res (.one (.ow T28 29)) y15, .res (.one (.dp T2)) y17, .res (.one (.dp T39)) y19, .res (.one (.ow T28 29)) y21, .res (.more (.dp T4) (.one (.dp T2))) y23, .dec true] [] [] exne_ret (via (finP (And.intro (And.intro (And.intro (And.intro (And.intro (And.intro (And.intro (And.intro trivial e12) e14) e16) e18) e20) e22) e24) e25) .ret [] (reach_Time.c1q (v10, true))) (by kernel_rfl)))) (fun e25 =>
   Owp.bif (fun e26 =>
    Owp.some (loop_exit (reach_Time.cok k) hmix [.res (.one (.dp T2)) y11, .res (.one (.dp T39)) y13, .res (.one (.ow T28 29)) y15, .res (.one (.dp T2)) y17, .res (.one (.dp T39)) y19, .res (.one (.ow T28 29)) y21, .res (.more (.dp T4) (.one (.dp T2))) y23, .dec false, .dec true] [] [] exne_ret (via (finP (And.intro (And.intro (And.intro (And.intro (And.intro (And.intro (And.intro (And.intro (And.intro trivial e12) e14) e16) e18) e20) e22) e24) e25) e26) .ret [] (reach_Time.c1q ((0 : Int), false))) (by kernel_rfl)))) (fun e26 =>
    Owp.bnd fun y27 e28 =>
     Owp.req fun h29 =>
     fun y hy => loop_back (reach_Time.cok k) hmix 2 (reach_Time.c1p a0 a1 a2 y1 y4 y6 y8 (imin (65536 : Int) (iadd .i64 v10 (imax (256 : Int) (iquo .i64 (imul .i64 (imax (0 : Int) (isub .i64 y27.1 (iadd .i64 (iadd .i64 (iadd .i64 (16 : Int) (imul .i64 (2 : Int) (iquo .i64 y4.1 (65536 : Int)))) (iquo .i64 (imul .i64 (14 : Int) y6) (65536 : Int))) (iquo .i64 (imul .i64 (14 : Int) y8) (65536 : Int))))) (65536 : Int)) y1.1))))) [.res (.one (.dp T2)) y11, .res (.one (.dp T39)) y13, .res (.one (.ow T28 29)) y15, .res (.one (.dp T2)) y17, .res (.one (.dp T39)) y19, .res (.one (.ow T28 29)) y21, .res (.more (.dp T4) (.one (.dp T2))) y23, .dec false, .dec false, .res (.more (.dp T2) (.one (.dp T2))) y27] [] [(0, 0), (1, 1)] (via (finP (And.intro (And.intro (And.intro (And.intro (And.intro (And.intro (And.intro (And.intro (And.intro (And.intro (And.intro trivial e12) e14) e16) e18) e20) e22) e24) e25) e26) e28) h29) .normal [(0, 0), (1, 1)] (reach_Time.c1p a0 a1 a2 y1 y4 y6 y8 (imin (65536 : Int) (iadd .i64 v10 (imax (256 : Int) (iquo .i64 (imul .i64 (imax (0 : Int) (isub .i64 y27.1 (iadd .i64 (iadd .i64 (iadd .i64 (16 : Int) (imul .i64 (2 : Int) (iquo .i64 y4.1 (65536 : Int)))) (iquo .i64 (imul .i64 (14 : Int) y6) (65536 : Int))) (iquo .i64 (imul .i64 (14 : Int) y8) (65536 : Int))))) (65536 : Int)) y1.1)))))) (by kernel_rfl)) ((reach_Time.c1_ok k a0 a1 a2 y1 y4 y6 y8 n (imin (65536 : Int) (iadd .i64 v10 (imax (256 : Int) (iquo .i64 (imul .i64 (imax (0 : Int) (isub .i64 y27.1 (iadd .i64 (iadd .i64 (iadd .i64 (16 : Int) (imul .i64 (2 : Int) (iquo .i64 y4.1 (65536 : Int)))) (iquo .i64 (imul .i64 (14 : Int) y6) (65536 : Int))) (iquo .i64 (imul .i64 (14 : Int) y8) (65536 : Int))))) (65536 : Int)) y1.1))))).ap hy))))
theorem reach_Time.way (k : Nat) (a0 : V39) (a1 : V39) (a2 : Int) : Owp (reach_Time k a0 a1 a2) fun y => ∃ answers cmds, exec PR (reach_Time.cx k) reach_Time.code 0 (entry (.pair T39 (.pair T39 (.pair T2 .unit))) (a0, a1, a2, ())).st answers (Ret (reach_Time.cx k) Try.f14 cmds (.more (.dp T2) (.more (.dp T4) (.one (.dp T2)))) y) := by
  unfold reach_Time; exact
   Owp.bnd fun y1 e2 =>
   Owp.bif (fun e3 =>
   Owp.some (⟨[.res (.more (.dp T2) (.one (.dp T2))) y1, .dec true], [], via (retP (And.intro (And.intro trivial e2) e3) (.more (.dp T2) (.more (.dp T4) (.one (.dp T2)))) (((0 : Int), false, y1.2) : (Int × (Bool × Int)))) (by kernel_rfl)⟩)) (fun e3 =>
   Owp.bnd fun y4 e5 =>
    Owp.bnd fun y6 e7 =>
    Owp.bnd fun y8 e9 =>
    Owp.bnd fun o30 e31 =>
    Owp.some (⟨[.res (.more (.dp T2) (.one (.dp T2))) y1, .dec false, .res (.more (.dp T2) (.one (.dp T2))) y4, .res (.one (.dp T2)) y6, .res (.one (.dp T2)) y8, .cut ⟨[], [(0, 0), (1, 1)], (reach_Time.c1p a0 a1 a2 y1 y4 y6 y8 (0 : Int)), 2, .ret, (reach_Time.c1q o30), 0⟩], [], via (cutP (And.intro (And.intro (And.intro (And.intro (And.intro (And.intro (And.intro (And.intro trivial e2) e3) e5) (by decide : nz (65536 : Int))) e7) (by decide : nz (65536 : Int))) e9) (by decide : nz (65536 : Int))) [(0, 0), (1, 1)] (reach_Time.c1p a0 a1 a2 y1 y4 y6 y8 (0 : Int)) (((reach_Time.c1_ok k a0 a1 a2 y1 y4 y6 y8 k (0 : Int)).ap e31).triple) (retP trivial (.more (.dp T2) (.more (.dp T4) (.one (.dp T2)))) ((o30.1, o30.2, (0 : Int)) : (Int × (Bool × Int))))) (by kernel_rfl)⟩))
theorem reach_Time.ok (k : Nat) : FnOk PR 14 (reach_Time.sp k) :=
  fn_ok (reach_Time.cok k) hmix Try.func14 (code := reach_Time.code) (by kernel_rfl) (by kernel_rfl) (by kernel_rfl) rfl (by kernel_rfl) (by kernel_rfl) (by kernel_rfl) (fun x => Nat.le_of_ble_eq_true (by kernel_rfl)) fun x y hy => (reach_Time.way k x.1 x.2.1 x.2.2.1).ap hy

/-! tourney/tourkeep2.reaches -/
noncomputable def tourkeep2_reaches.code : Code := Func.cd Try.f17
def tourkeep2_reaches (k : Nat) : Option Bool :=
  bnd (tourkeep2_block k (-5) 0 1 true) fun y1 =>
  bnd (tourkeep2_block k 5 0 1 true) fun y3 =>
  bnd (reach_Time k (y1.1, (262144, y1.2.1.2), y1.2.2) (y3.1, ((-524288), y3.2.1.2), y3.2.2) 65536) fun y5 =>
  bnd (reach_Time k (y3.1, ((-524288), y3.2.1.2), y3.2.2) (y1.1, (262144, y1.2.1.2), y1.2.2) 0) fun y7 =>
  bif' (ieq y5.2.2 0)
  (bif' (ieq y7.2.2 0)
   (bif' y5.2.1
    (bif' y7.2.1
     (some false)
     (bif' (igt y5.1 32768)
      (some (ilt y5.1 65536))
      (some false)))
    (some false))
   (some false))
  (some false)
noncomputable def tourkeep2_reaches.sp (k : Nat) : Go.Sx.Spec := ⟨.unit, (.one (.dp T4)), fun x => tourkeep2_reaches k, false⟩
noncomputable def tourkeep2_reaches.cx (k : Nat) : Go.Sx.Ctx := ⟨tys, [(45, tourkeep2_block.sp k), (14, reach_Time.sp k)], eqs, 50, false⟩
theorem tourkeep2_reaches.cok (k : Nat) : CtxOk PR (tourkeep2_reaches.cx k) := ctx_ok tysOk eqsOk (FnsOk.cons (tourkeep2_block.ok k) (FnsOk.cons (reach_Time.ok k) FnsOk.nil))
theorem tourkeep2_reaches.way (k : Nat) : Owp (tourkeep2_reaches k) fun y => ∃ answers cmds, exec PR (tourkeep2_reaches.cx k) tourkeep2_reaches.code 0 (entry .unit ()).st answers (Ret (tourkeep2_reaches.cx k) Try.f17 cmds (.one (.dp T4)) y) := by
  unfold tourkeep2_reaches; exact
   Owp.bnd fun y1 e2 =>
   Owp.bnd fun y3 e4 =>
   Owp.bnd fun y5 e6 =>
   Owp.bnd fun y7 e8 =>
   Owp.bif (fun e9 =>
   Owp.bif (fun e10 =>
    Owp.bif (fun e11 =>
     Owp.bif (fun e12 =>
      Owp.some (⟨[.res (.one (.dp T39)) y1, .res (.one (.dp T39)) y3, .res (.more (.dp T2) (.more (.dp T4) (.one (.dp T2)))) y5, .res (.more (.dp T2) (.more (.dp T4) (.one (.dp T2)))) y7, .dec true, .dec true, .dec true, .dec true, .dec true, .dec true, .dec true, .dec true, .dec false, .dec false, .dec false, .dec false, .dec false, .dec false], [], via (retP (And.intro (And.intro (And.intro (And.intro (And.intro (And.intro (And.intro (And.intro (And.intro (And.intro (And.intro (And.intro (And.intro (And.intro (And.intro (And.intro (And.intro (And.intro trivial e2) e4) e6) e8) e9) e9) e9) e10) e10) e11) e11) e11) (congrArg not e12)) (congrArg not e12)) (congrArg not e12)) ff) ff) ff) (.one (.dp T4)) (false : Bool)) (by kernel_rfl)⟩)) (fun e12 =>
      Owp.bif (fun e13 =>
       Owp.some (⟨[.res (.one (.dp T39)) y1, .res (.one (.dp T39)) y3, .res (.more (.dp T2) (.more (.dp T4) (.one (.dp T2)))) y5, .res (.more (.dp T2) (.more (.dp T4) (.one (.dp T2)))) y7, .dec true, .dec true, .dec true, .dec true, .dec true, .dec true, .dec true, .dec true, .dec true, .dec true, .dec true, .dec true, .dec true, .dec true], [], via (retP (And.intro (And.intro (And.intro (And.intro (And.intro (And.intro (And.intro (And.intro (And.intro (And.intro (And.intro (And.intro (And.intro (And.intro (And.intro (And.intro (And.intro (And.intro trivial e2) e4) e6) e8) e9) e9) e9) e10) e10) e11) e11) e11) (congrArg not e12)) (congrArg not e12)) (congrArg not e12)) e13) e13) e13) (.one (.dp T4)) ((ilt y5.1 (65536 : Int)) : Bool)) (by kernel_rfl)⟩)) (fun e13 =>
       Owp.some (⟨[.res (.one (.dp T39)) y1, .res (.one (.dp T39)) y3, .res (.more (.dp T2) (.more (.dp T4) (.one (.dp T2)))) y5, .res (.more (.dp T2) (.more (.dp T4) (.one (.dp T2)))) y7, .dec true, .dec true, .dec true, .dec true, .dec true, .dec true, .dec true, .dec true, .dec true, .dec true, .dec true, .dec false, .dec false, .dec false], [], via (retP (And.intro (And.intro (And.intro (And.intro (And.intro (And.intro (And.intro (And.intro (And.intro (And.intro (And.intro (And.intro (And.intro (And.intro (And.intro (And.intro (And.intro (And.intro trivial e2) e4) e6) e8) e9) e9) e9) e10) e10) e11) e11) e11) (congrArg not e12)) (congrArg not e12)) (congrArg not e12)) e13) e13) e13) (.one (.dp T4)) (false : Bool)) (by kernel_rfl)⟩)))) (fun e11 =>
     Owp.some (⟨[.res (.one (.dp T39)) y1, .res (.one (.dp T39)) y3, .res (.more (.dp T2) (.more (.dp T4) (.one (.dp T2)))) y5, .res (.more (.dp T2) (.more (.dp T4) (.one (.dp T2)))) y7, .dec true, .dec true, .dec true, .dec true, .dec true, .dec false, .dec false, .dec false, .dec false, .dec false, .dec false, .dec false, .dec false, .dec false], [], via (retP (And.intro (And.intro (And.intro (And.intro (And.intro (And.intro (And.intro (And.intro (And.intro (And.intro (And.intro (And.intro (And.intro (And.intro (And.intro (And.intro (And.intro (And.intro trivial e2) e4) e6) e8) e9) e9) e9) e10) e10) e11) e11) e11) ff) ff) ff) ff) ff) ff) (.one (.dp T4)) (false : Bool)) (by kernel_rfl)⟩))) (fun e10 =>
    Owp.some (⟨[.res (.one (.dp T39)) y1, .res (.one (.dp T39)) y3, .res (.more (.dp T2) (.more (.dp T4) (.one (.dp T2)))) y5, .res (.more (.dp T2) (.more (.dp T4) (.one (.dp T2)))) y7, .dec true, .dec true, .dec true, .dec false, .dec false, .dec false, .dec false, .dec false, .dec false, .dec false, .dec false, .dec false, .dec false, .dec false], [], via (retP (And.intro (And.intro (And.intro (And.intro (And.intro (And.intro (And.intro (And.intro (And.intro (And.intro (And.intro (And.intro (And.intro (And.intro (And.intro (And.intro (And.intro (And.intro trivial e2) e4) e6) e8) e9) e9) e9) e10) e10) ff) ff) ff) ff) ff) ff) ff) ff) ff) (.one (.dp T4)) (false : Bool)) (by kernel_rfl)⟩))) (fun e9 =>
   Owp.some (⟨[.res (.one (.dp T39)) y1, .res (.one (.dp T39)) y3, .res (.more (.dp T2) (.more (.dp T4) (.one (.dp T2)))) y5, .res (.more (.dp T2) (.more (.dp T4) (.one (.dp T2)))) y7, .dec false, .dec false, .dec false, .dec false, .dec false, .dec false, .dec false, .dec false, .dec false, .dec false, .dec false, .dec false, .dec false, .dec false], [], via (retP (And.intro (And.intro (And.intro (And.intro (And.intro (And.intro (And.intro (And.intro (And.intro (And.intro (And.intro (And.intro (And.intro (And.intro (And.intro (And.intro (And.intro (And.intro trivial e2) e4) e6) e8) e9) e9) e9) ff) ff) ff) ff) ff) ff) ff) ff) ff) ff) ff) (.one (.dp T4)) (false : Bool)) (by kernel_rfl)⟩))
theorem tourkeep2_reaches.ok (k : Nat) : FnOk PR 17 (tourkeep2_reaches.sp k) :=
  fn_ok (tourkeep2_reaches.cok k) hmix Try.func17 (code := tourkeep2_reaches.code) (by kernel_rfl) (by kernel_rfl) (by kernel_rfl) rfl (by kernel_rfl) (by kernel_rfl) (by kernel_rfl) (fun x => Nat.le_of_ble_eq_true (by kernel_rfl)) fun x y hy => (tourkeep2_reaches.way k).ap hy

/-! tourney/tourkeep2.ReachBoth -/
noncomputable def tourkeep2_ReachBoth.code : Code := Func.cd Try.f4
def tourkeep2_ReachBoth.c1 (k : Nat) (y7 : (Int × (Bool × Int))) (y9 : (Int × (Bool × Int))) (y15 : (Bool × Int)) : Option (Bool) :=
  bnd (tourkeep2_reaches k) fun y17 =>
  bif' y17
  (bif' (ine y7.2.2 0)
   (some true)
   (bif' (ine y9.2.2 0)
    (some true)
    (bif' (ine y15.2 0)
     (some true)
     (bif' (ine y7.1 y9.1)
      (some true)
      (bif' (Ty.eqb T4 y7.2.1 y9.2.1)
       (bif' y7.2.1
        (some (!(Ty.eqb T4 y15.1 (ieq y7.1 (0 : Int)))))
        (some (!(Ty.eqb T4 y15.1 false))))
       (some true))))))
  (some true)
def tourkeep2_ReachBoth (k : Nat) (a0 : (List Int)) (a1 : (List Int)) (a2 : Int) : Option Bool :=
  bnd (tourmake_Body k a0) fun y1 =>
  bnd (tourmake_Body k a1) fun y3 =>
  bnd (tourmake_Below k a2 65537) fun y5 =>
  bnd (reach_Time k y1 y3 y5) fun y7 =>
  bnd (reach_Time k y3 y1 y5) fun y9 =>
  bnd (body_Place k y1) fun y11 =>
  bnd (body_Place k y3) fun y13 =>
  bnd (near_Meet k y11 y13) fun y15 =>
  bnd (tourkeep2_ReachBoth.c1 k y7 y9 y15) fun o26 =>
  bif' o26
  (some false)
  (bif' (igt y1.2.2.2.2.1 0)
   (some true)
   (bif' (igt y3.2.2.2.2.1 0)
    (some true)
    (some (Ty.eqb T4 y7.2.1 y15.1))))
noncomputable def tourkeep2_ReachBoth.sp (k : Nat) : Go.Sx.Spec := ⟨(.pair T22 (.pair T22 (.pair T2 .unit))), (.one (.dp T4)), fun x => tourkeep2_ReachBoth k x.1 x.2.1 x.2.2.1, false⟩
noncomputable def tourkeep2_ReachBoth.cx (k : Nat) : Go.Sx.Ctx := ⟨tys, [(12, tourmake_Body.sp k), (13, tourmake_Below.sp k), (14, reach_Time.sp k), (16, body_Place.sp k), (15, near_Meet.sp k), (17, tourkeep2_reaches.sp k)], eqs, 93, false⟩
theorem tourkeep2_ReachBoth.cok (k : Nat) : CtxOk PR (tourkeep2_ReachBoth.cx k) := ctx_ok tysOk eqsOk (FnsOk.cons (tourmake_Body.ok k) (FnsOk.cons (tourmake_Below.ok k) (FnsOk.cons (reach_Time.ok k) (FnsOk.cons (body_Place.ok k) (FnsOk.cons (near_Meet.ok k) (FnsOk.cons (tourkeep2_reaches.ok k) FnsOk.nil))))))
noncomputable def tourkeep2_ReachBoth.c1p (y1 : V39) (y3 : V39) (y7 : (Int × (Bool × Int))) (y9 : (Int × (Bool × Int))) (y15 : (Bool × Int)) : SL := ⟨[(7, (.val .ptr ⟨0, 0, (0 : Int), 0, 0⟩)), (8, (.val .ptr ⟨1, 0, (0 : Int), 0, 0⟩)), (9, (.val T2 y7.1)), (10, (.val T4 y7.2.1)), (11, (.val T2 y7.2.2)), (12, (.val T2 y9.1)), (13, (.val T4 y9.2.1)), (14, (.val T2 y9.2.2)), (15, (.val T4 y15.1)), (16, (.val T2 y15.2))], [(0, .cells T39 y1), (1, .cells T39 y3)]⟩
noncomputable def tourkeep2_ReachBoth.c1q (y1 : V39) (y3 : V39) (y7 : (Int × (Bool × Int))) (y15 : (Bool × Int)) (o : Bool) : SL := (fun v => ⟨[(7, (.val .ptr ⟨0, 0, (0 : Int), 0, 0⟩)), (8, (.val .ptr ⟨1, 0, (0 : Int), 0, 0⟩)), (10, (.val T4 y7.2.1)), (15, (.val T4 y15.1)), (79, (.val T4 v))], [(0, .cells T39 y1), (1, .cells T39 y3)]⟩) o
noncomputable def tourkeep2_ReachBoth.c1x (o : Bool) : Ex := (fun _ => .normal) o
noncomputable def tourkeep2_ReachBoth.c1n (o : Bool) : Nat := (fun _ => 2) o
theorem tourkeep2_ReachBoth.c1_ok (k : Nat) (y1 : V39) (y3 : V39) (y7 : (Int × (Bool × Int))) (y9 : (Int × (Bool × Int))) (y15 : (Bool × Int)) : Owp (tourkeep2_ReachBoth.c1 k y7 y9 y15) fun o => Triple PR (tourkeep2_ReachBoth.cx k) (sub tourkeep2_ReachBoth.code [1, 1, 1, 1, 1, 1, 0, 0]) 2 (tourkeep2_ReachBoth.c1p y1 y3 y7 y9 y15) (tourkeep2_ReachBoth.c1x o) (tourkeep2_ReachBoth.c1n o) (tourkeep2_ReachBoth.c1q y1 y3 y7 y15 o) := by
  unfold tourkeep2_ReachBoth.c1; exact
   Owp.bnd fun y17 e18 =>
   Owp.bif (fun e19 =>
   Owp.bif (fun e20 =>
    Owp.some (triple_way (tourkeep2_ReachBoth.cok k) hmix [.res (.one (.dp T4)) y17, .dec false, .dec false, .dec false, .dec true, .dec true, .dec true, .dec true, .dec true, .dec true, .dec true, .dec true, .dec true, .dec true, .dec true, .dec true, .dec true, .dec true, .dec true, .dec true, .dec true, .dec true, .dec true, .dec true, .dec true, .dec true, .dec true] [] [(0, 0), (1, 1)] (via (finP (And.intro (And.intro (And.intro (And.intro (And.intro (And.intro (And.intro (And.intro (And.intro (And.intro (And.intro (And.intro (And.intro (And.intro (And.intro (And.intro (And.intro (And.intro (And.intro (And.intro (And.intro (And.intro (And.intro (And.intro trivial e18) (congrArg not e19)) (congrArg not e19)) (congrArg not e19)) e20) e20) e20) tt) tt) tt) tt) tt) tt) tt) tt) tt) tt) tt) tt) tt) tt) tt) tt) tt) .normal [(0, 0), (1, 1)] (tourkeep2_ReachBoth.c1q y1 y3 y7 y15 true)) (by kernel_rfl)))) (fun e20 =>
    Owp.bif (fun e21 =>
     Owp.some (triple_way (tourkeep2_ReachBoth.cok k) hmix [.res (.one (.dp T4)) y17, .dec false, .dec false, .dec false, .dec false, .dec false, .dec false, .dec true, .dec true, .dec true, .dec true, .dec true, .dec true, .dec true, .dec true, .dec true, .dec true, .dec true, .dec true, .dec true, .dec true, .dec true, .dec true, .dec true, .dec true, .dec true, .dec true] [] [(0, 0), (1, 1)] (via (finP (And.intro (And.intro (And.intro (And.intro (And.intro (And.intro (And.intro (And.intro (And.intro (And.intro (And.intro (And.intro (And.intro (And.intro (And.intro (And.intro (And.intro (And.intro (And.intro (And.intro (And.intro (And.intro (And.intro (And.intro trivial e18) (congrArg not e19)) (congrArg not e19)) (congrArg not e19)) e20) e20) e20) e21) e21) e21) tt) tt) tt) tt) tt) tt) tt) tt) tt) tt) tt) tt) tt) tt) .normal [(0, 0), (1, 1)] (tourkeep2_ReachBoth.c1q y1 y3 y7 y15 true)) (by kernel_rfl)))) (fun e21 =>
     Owp.bif (fun e22 =>
      Owp.some (triple_way (tourkeep2_ReachBoth.cok k) hmix [.res (.one (.dp T4)) y17, .dec false, .dec false, .dec false, .dec false, .dec false, .dec false, .dec false, .dec false, .dec false, .dec true, .dec true, .dec true, .dec true, .dec true, .dec true, .dec true, .dec true, .dec true, .dec true, .dec true, .dec true, .dec true, .dec true, .dec true, .dec true, .dec true] [] [(0, 0), (1, 1)] (via (finP (And.intro (And.intro (And.intro (And.intro (And.intro (And.intro (And.intro (And.intro (And.intro (And.intro (And.intro (And.intro (And.intro (And.intro (And.intro (And.intro (And.intro (And.intro (And.intro (And.intro (And.intro (And.intro (And.intro (And.intro trivial e18) (congrArg not e19)) (congrArg not e19)) (congrArg not e19)) e20) e20) e20) e21) e21) e21) e22) e22) e22) e22) tt) tt) tt) tt) tt) tt) tt) tt) tt) tt) .normal [(0, 0), (1, 1)] (tourkeep2_ReachBoth.c1q y1 y3 y7 y15 true)) (by kernel_rfl)))) (fun e22 =>
      Owp.bif (fun e23 =>
       Owp.some (triple_way (tourkeep2_ReachBoth.cok k) hmix [.res (.one (.dp T4)) y17, .dec false, .dec false, .dec false, .dec false, .dec false, .dec false, .dec false, .dec false, .dec false, .dec false, .dec false, .dec false, .dec false, .dec true, .dec true, .dec true, .dec true, .dec true, .dec true, .dec true, .dec true, .dec true, .dec true, .dec true, .dec true, .dec true] [] [(0, 0), (1, 1)] (via (finP (And.intro (And.intro (And.intro (And.intro (And.intro (And.intro (And.intro (And.intro (And.intro (And.intro (And.intro (And.intro (And.intro (And.intro (And.intro (And.intro (And.intro (And.intro (And.intro (And.intro (And.intro (And.intro (And.intro (And.intro trivial e18) (congrArg not e19)) (congrArg not e19)) (congrArg not e19)) e20) e20) e20) e21) e21) e21) e22) e22) e22) e22) e23) e23) e23) e23) tt) tt) tt) tt) tt) tt) .normal [(0, 0), (1, 1)] (tourkeep2_ReachBoth.c1q y1 y3 y7 y15 true)) (by kernel_rfl)))) (fun e23 =>
       Owp.bif (fun e24 =>
        Owp.bif (fun e25 =>
         Owp.some (triple_way (tourkeep2_ReachBoth.cok k) hmix [.res (.one (.dp T4)) y17, .dec false, .dec false, .dec false, .dec false, .dec false, .dec false, .dec false, .dec false, .dec false, .dec false, .dec false, .dec false, .dec false, .dec false, .dec false, .dec false, .dec false, .dec false, .dec false, .dec false, .dec true, .dec true, .dec false, .dec true, .dec false, .dec false] [] [(0, 0), (1, 1)] (via (finP (And.intro (And.intro (And.intro (And.intro (And.intro (And.intro (And.intro (And.intro (And.intro (And.intro (And.intro (And.intro (And.intro (And.intro (And.intro (And.intro (And.intro (And.intro (And.intro (And.intro (And.intro (And.intro (And.intro (And.intro (And.intro (And.intro trivial e18) (congrArg not e19)) (congrArg not e19)) (congrArg not e19)) e20) e20) e20) e21) e21) e21) e22) e22) e22) e22) e23) e23) e23) e23) (congrArg not e24)) (congrArg not e24)) (congrArg not e24)) e25) e25) (And.intro (congrArg not e24) e25)) (congrArg not e24)) (congrArg not e24)) .normal [(0, 0), (1, 1)] (tourkeep2_ReachBoth.c1q y1 y3 y7 y15 (!(Ty.eqb T4 y15.1 (ieq y7.1 (0 : Int)))))) (by kernel_rfl)))) (fun e25 =>
         Owp.some (triple_way (tourkeep2_ReachBoth.cok k) hmix [.res (.one (.dp T4)) y17, .dec false, .dec false, .dec false, .dec false, .dec false, .dec false, .dec false, .dec false, .dec false, .dec false, .dec false, .dec false, .dec false, .dec false, .dec false, .dec false, .dec false, .dec false, .dec false, .dec false, .dec false, .dec false, .dec false, .dec false, .dec false, .dec false] [] [(0, 0), (1, 1)] (via (finP (And.intro (And.intro (And.intro (And.intro (And.intro (And.intro (And.intro (And.intro (And.intro (And.intro (And.intro (And.intro (And.intro (And.intro (And.intro (And.intro (And.intro (And.intro (And.intro (And.intro (And.intro (And.intro (And.intro (And.intro (And.intro (And.intro trivial e18) (congrArg not e19)) (congrArg not e19)) (congrArg not e19)) e20) e20) e20) e21) e21) e21) e22) e22) e22) e22) e23) e23) e23) e23) (congrArg not e24)) (congrArg not e24)) (congrArg not e24)) e25) e25) (And.intro (congrArg not e24) e25)) (congrArg not e24)) (congrArg not e24)) .normal [(0, 0), (1, 1)] (tourkeep2_ReachBoth.c1q y1 y3 y7 y15 (!(Ty.eqb T4 y15.1 false)))) (by kernel_rfl))))) (fun e24 =>
        Owp.some (triple_way (tourkeep2_ReachBoth.cok k) hmix [.res (.one (.dp T4)) y17, .dec false, .dec false, .dec false, .dec false, .dec false, .dec false, .dec false, .dec false, .dec false, .dec false, .dec false, .dec false, .dec false, .dec false, .dec false, .dec false, .dec false, .dec true, .dec true, .dec true, .dec true, .dec true, .dec true, .dec true, .dec true, .dec true] [] [(0, 0), (1, 1)] (via (finP (And.intro (And.intro (And.intro (And.intro (And.intro (And.intro (And.intro (And.intro (And.intro (And.intro (And.intro (And.intro (And.intro (And.intro (And.intro (And.intro (And.intro (And.intro (And.intro (And.intro (And.intro (And.intro (And.intro (And.intro trivial e18) (congrArg not e19)) (congrArg not e19)) (congrArg not e19)) e20) e20) e20) e21) e21) e21) e22) e22) e22) e22) e23) e23) e23) e23) (congrArg not e24)) (congrArg not e24)) (congrArg not e24)) (congrArg not e24)) (congrArg not e24)) (congrArg not e24)) .normal [(0, 0), (1, 1)] (tourkeep2_ReachBoth.c1q y1 y3 y7 y15 true)) (by kernel_rfl))))))))) (fun e19 =>
   Owp.some (triple_way (tourkeep2_ReachBoth.cok k) hmix [.res (.one (.dp T4)) y17, .dec true, .dec true, .dec true, .dec true, .dec true, .dec true, .dec true, .dec true, .dec true, .dec true, .dec true, .dec true, .dec true, .dec true, .dec true, .dec true, .dec true, .dec true, .dec true, .dec true, .dec true, .dec true, .dec true, .dec true, .dec true, .dec true] [] [(0, 0), (1, 1)] (via (finP (And.intro (And.intro (And.intro (And.intro (And.intro (And.intro (And.intro (And.intro (And.intro (And.intro (And.intro (And.intro (And.intro (And.intro (And.intro (And.intro (And.intro (And.intro (And.intro (And.intro (And.intro (And.intro (And.intro (And.intro trivial e18) (congrArg not e19)) (congrArg not e19)) (congrArg not e19)) tt) tt) tt) tt) tt) tt) tt) tt) tt) tt) tt) tt) tt) tt) tt) tt) tt) tt) tt) tt) .normal [(0, 0), (1, 1)] (tourkeep2_ReachBoth.c1q y1 y3 y7 y15 true)) (by kernel_rfl))))
theorem tourkeep2_ReachBoth.way (k : Nat) (a0 : (List Int)) (a1 : (List Int)) (a2 : Int) : Owp (tourkeep2_ReachBoth k a0 a1 a2) fun y => ∃ answers cmds, exec PR (tourkeep2_ReachBoth.cx k) tourkeep2_ReachBoth.code 0 (entry (.pair T22 (.pair T22 (.pair T2 .unit))) (a0, a1, a2, ())).st answers (Ret (tourkeep2_ReachBoth.cx k) Try.f4 cmds (.one (.dp T4)) y) := by
  unfold tourkeep2_ReachBoth; exact
   Owp.bnd fun y1 e2 =>
   Owp.bnd fun y3 e4 =>
   Owp.bnd fun y5 e6 =>
   Owp.bnd fun y7 e8 =>
   Owp.bnd fun y9 e10 =>
   Owp.bnd fun y11 e12 =>
   Owp.bnd fun y13 e14 =>
   Owp.bnd fun y15 e16 =>
   Owp.bnd fun o26 e27 =>
   Owp.bif (fun e28 =>
   Owp.some (⟨[.res (.one (.dp T39)) y1, .res (.one (.dp T39)) y3, .res (.one (.dp T2)) y5, .res (.more (.dp T2) (.more (.dp T4) (.one (.dp T2)))) y7, .res (.more (.dp T2) (.more (.dp T4) (.one (.dp T2)))) y9, .res (.one (.ow T28 29)) y11, .res (.one (.ow T28 29)) y13, .res (.more (.dp T4) (.one (.dp T2))) y15, .cutR 6 ⟨[], [(0, 5), (1, 6)], (tourkeep2_ReachBoth.c1p y1 y3 y7 y9 y15), 2, .normal, (tourkeep2_ReachBoth.c1q y1 y3 y7 y15 o26), 2⟩, .dec true], [], via (cutP (And.intro (And.intro (And.intro (And.intro (And.intro (And.intro (And.intro (And.intro trivial e2) e4) e6) e8) e10) e12) e14) e16) [(0, 5), (1, 6)] (tourkeep2_ReachBoth.c1p y1 y3 y7 y9 y15) (((tourkeep2_ReachBoth.c1_ok k y1 y3 y7 y9 y15).ap e27)) (retP (And.intro trivial e28) (.one (.dp T4)) (false : Bool))) (by kernel_rfl)⟩)) (fun e28 =>
   Owp.bif (fun e29 =>
    Owp.some (⟨[.res (.one (.dp T39)) y1, .res (.one (.dp T39)) y3, .res (.one (.dp T2)) y5, .res (.more (.dp T2) (.more (.dp T4) (.one (.dp T2)))) y7, .res (.more (.dp T2) (.more (.dp T4) (.one (.dp T2)))) y9, .res (.one (.ow T28 29)) y11, .res (.one (.ow T28 29)) y13, .res (.more (.dp T4) (.one (.dp T2))) y15, .cutR 6 ⟨[], [(0, 5), (1, 6)], (tourkeep2_ReachBoth.c1p y1 y3 y7 y9 y15), 2, .normal, (tourkeep2_ReachBoth.c1q y1 y3 y7 y15 o26), 2⟩, .dec false, .dec true, .dec true, .dec true, .dec true, .dec true, .dec true, .dec true, .dec true], [], via (cutP (And.intro (And.intro (And.intro (And.intro (And.intro (And.intro (And.intro (And.intro trivial e2) e4) e6) e8) e10) e12) e14) e16) [(0, 5), (1, 6)] (tourkeep2_ReachBoth.c1p y1 y3 y7 y9 y15) (((tourkeep2_ReachBoth.c1_ok k y1 y3 y7 y9 y15).ap e27)) (retP (And.intro (And.intro (And.intro (And.intro (And.intro (And.intro (And.intro (And.intro (And.intro trivial e28) e29) e29) e29) e29) tt) tt) tt) tt) (.one (.dp T4)) (true : Bool))) (by kernel_rfl)⟩)) (fun e29 =>
    Owp.bif (fun e30 =>
     Owp.some (⟨[.res (.one (.dp T39)) y1, .res (.one (.dp T39)) y3, .res (.one (.dp T2)) y5, .res (.more (.dp T2) (.more (.dp T4) (.one (.dp T2)))) y7, .res (.more (.dp T2) (.more (.dp T4) (.one (.dp T2)))) y9, .res (.one (.ow T28 29)) y11, .res (.one (.ow T28 29)) y13, .res (.more (.dp T4) (.one (.dp T2))) y15, .cutR 6 ⟨[], [(0, 5), (1, 6)], (tourkeep2_ReachBoth.c1p y1 y3 y7 y9 y15), 2, .normal, (tourkeep2_ReachBoth.c1q y1 y3 y7 y15 o26), 2⟩, .dec false, .dec false, .dec false, .dec false, .dec false, .dec true, .dec true, .dec true, .dec true], [], via (cutP (And.intro (And.intro (And.intro (And.intro (And.intro (And.intro (And.intro (And.intro trivial e2) e4) e6) e8) e10) e12) e14) e16) [(0, 5), (1, 6)] (tourkeep2_ReachBoth.c1p y1 y3 y7 y9 y15) (((tourkeep2_ReachBoth.c1_ok k y1 y3 y7 y9 y15).ap e27)) (retP (And.intro (And.intro (And.intro (And.intro (And.intro (And.intro (And.intro (And.intro (And.intro trivial e28) e29) e29) e29) e29) e30) e30) e30) e30) (.one (.dp T4)) (true : Bool))) (by kernel_rfl)⟩)) (fun e30 =>
     Owp.some (⟨[.res (.one (.dp T39)) y1, .res (.one (.dp T39)) y3, .res (.one (.dp T2)) y5, .res (.more (.dp T2) (.more (.dp T4) (.one (.dp T2)))) y7, .res (.more (.dp T2) (.more (.dp T4) (.one (.dp T2)))) y9, .res (.one (.ow T28 29)) y11, .res (.one (.ow T28 29)) y13, .res (.more (.dp T4) (.one (.dp T2))) y15, .cutR 6 ⟨[], [(0, 5), (1, 6)], (tourkeep2_ReachBoth.c1p y1 y3 y7 y9 y15), 2, .normal, (tourkeep2_ReachBoth.c1q y1 y3 y7 y15 o26), 2⟩, .dec false, .dec false, .dec false, .dec false, .dec false, .dec false, .dec false, .dec false, .dec false], [], via (cutP (And.intro (And.intro (And.intro (And.intro (And.intro (And.intro (And.intro (And.intro trivial e2) e4) e6) e8) e10) e12) e14) e16) [(0, 5), (1, 6)] (tourkeep2_ReachBoth.c1p y1 y3 y7 y9 y15) (((tourkeep2_ReachBoth.c1_ok k y1 y3 y7 y9 y15).ap e27)) (retP (And.intro (And.intro (And.intro (And.intro (And.intro (And.intro (And.intro (And.intro (And.intro trivial e28) e29) e29) e29) e29) e30) e30) e30) e30) (.one (.dp T4)) ((Ty.eqb T4 y7.2.1 y15.1) : Bool))) (by kernel_rfl)⟩))))
theorem tourkeep2_ReachBoth.ok (k : Nat) : FnOk PR 4 (tourkeep2_ReachBoth.sp k) :=
  fn_ok (tourkeep2_ReachBoth.cok k) hmix Try.func4 (code := tourkeep2_ReachBoth.code) (by kernel_rfl) (by kernel_rfl) (by kernel_rfl) rfl (by kernel_rfl) (by kernel_rfl) (by kernel_rfl) (fun x => Nat.le_of_ble_eq_true (by kernel_rfl)) fun x y hy => (tourkeep2_ReachBoth.way k x.1 x.2.1 x.2.2.1).ap hy

end Go.Proofs.T1
