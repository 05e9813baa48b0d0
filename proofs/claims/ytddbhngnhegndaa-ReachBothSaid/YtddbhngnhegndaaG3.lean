import Derived.Test.YtddbhngnhegndaaG0
import Derived.Test.YtddbhngnhegndaaG1
import Derived.Test.YtddbhngnhegndaaG2
namespace Go.Proofs.T1
open Go Go.Sx Go.Proofs
set_option maxRecDepth 100000
set_option linter.unusedVariables false
/-! tourney/tourmake.Poly -/
noncomputable def tourmake_Poly.code : Code := Func.cd Try.f18
def tourmake_Poly (k : Nat) (a0 : (List Int)) : Option (List V28) :=
  bnd (tourmake_poly k (a0, ())) fun y1 =>
  some y1.2
noncomputable def tourmake_Poly.sp (k : Nat) : Go.Sx.Spec := ⟨(.pair T22 .unit), (.one (.dp T23)), fun x => tourmake_Poly k x.1, false⟩
noncomputable def tourmake_Poly.cx (k : Nat) : Go.Sx.Ctx := ⟨tys, [(46, tourmake_poly.sp k)], eqs, 7, false⟩
theorem tourmake_Poly.cok (k : Nat) : CtxOk PR (tourmake_Poly.cx k) := ctx_ok tysOk eqsOk (FnsOk.cons (tourmake_poly.ok k) FnsOk.nil)
theorem tourmake_Poly.way (k : Nat) (a0 : (List Int)) : Owp (tourmake_Poly k a0) fun y => ∃ answers cmds, exec PR (tourmake_Poly.cx k) tourmake_Poly.code 0 (entry (.pair T22 .unit) (a0, ())).st answers (Ret (tourmake_Poly.cx k) Try.f18 cmds (.one (.dp T23)) y) := by
  unfold tourmake_Poly; exact
   Owp.bnd fun y1 e2 =>
   Owp.some (⟨[.res (.more (.dp (.pair T22 .unit)) (.one (.dp T23))) y1], [], via (retP (And.intro trivial e2) (.one (.dp T23)) (y1.2 : (List V28))) (by kernel_rfl)⟩)
theorem tourmake_Poly.ok (k : Nat) : FnOk PR 18 (tourmake_Poly.sp k) :=
  fn_ok (tourmake_Poly.cok k) hmix Try.func18 (code := tourmake_Poly.code) (by kernel_rfl) (by kernel_rfl) (by kernel_rfl) rfl (by kernel_rfl) (by kernel_rfl) (by kernel_rfl) (fun x => Nat.le_of_ble_eq_true (by kernel_rfl)) fun x y hy => (tourmake_Poly.way k x.1).ap hy

/-! tourney/tourkeep2.place -/
noncomputable def tourkeep2_place.code : Code := Func.cd Try.f20
def tourkeep2_place (k : Nat) (a0 : Int) (a1 : Int) : Option V28 :=
  bnd (tourmake_Below k a0 1572864) fun y1 =>
  bnd (tourmake_Below k a1 1572864) fun y3 =>
  some ((isub .i64 y1 786432), (isub .i64 y3 786432), ())
noncomputable def tourkeep2_place.sp (k : Nat) : Go.Sx.Spec := ⟨T28, (.one (.dp T28)), fun x => tourkeep2_place k x.1 x.2.1, false⟩
noncomputable def tourkeep2_place.cx (k : Nat) : Go.Sx.Ctx := ⟨tys, [(13, tourmake_Below.sp k)], eqs, 12, false⟩
theorem tourkeep2_place.cok (k : Nat) : CtxOk PR (tourkeep2_place.cx k) := ctx_ok tysOk eqsOk (FnsOk.cons (tourmake_Below.ok k) FnsOk.nil)
theorem tourkeep2_place.way (k : Nat) (a0 : Int) (a1 : Int) : Owp (tourkeep2_place k a0 a1) fun y => ∃ answers cmds, exec PR (tourkeep2_place.cx k) tourkeep2_place.code 0 (entry T28 (a0, a1, ())).st answers (Ret (tourkeep2_place.cx k) Try.f20 cmds (.one (.dp T28)) y) := by
  unfold tourkeep2_place; exact
   Owp.bnd fun y1 e2 =>
   Owp.bnd fun y3 e4 =>
   Owp.some (⟨[.res (.one (.dp T2)) y1, .res (.one (.dp T2)) y3], [], via (retP (And.intro (And.intro trivial e2) e4) (.one (.dp T28)) (((isub .i64 y1 (786432 : Int)), (isub .i64 y3 (786432 : Int)), ()) : V28)) (by kernel_rfl)⟩)
theorem tourkeep2_place.ok (k : Nat) : FnOk PR 20 (tourkeep2_place.sp k) :=
  fn_ok (tourkeep2_place.cok k) hmix Try.func20 (code := tourkeep2_place.code) (by kernel_rfl) (by kernel_rfl) (by kernel_rfl) rfl (by kernel_rfl) (by kernel_rfl) (by kernel_rfl) (fun x => Nat.le_of_ble_eq_true (by kernel_rfl)) fun x y hy => (tourkeep2_place.way k x.1 x.2.1).ap hy

/-! tourney/tourkeep2.moved -/
noncomputable def tourkeep2_moved.code : Code := Func.cd Try.f19
def tourkeep2_moved.c1 (k : Nat) (a0 : (List V28)) (a1 : V28) : Nat → Int → (List V28) → Option ((List V28))
  | 0, _, _ => none
  | n + 1, v1, v2 =>
   bif' (ilt v1 (len a0))
   (req (inL v1 a0) <|
    req (room 16 v2 [((iadd .i64 (el Z28 a0 v1).1 a1.1), (iadd .i64 (el Z28 a0 v1).2.1 a1.2.1), ())]) <|
    tourkeep2_moved.c1 k a0 a1 n (iadd .i64 v1 1) (v2 ++ [((iadd .i64 (el Z28 a0 v1).1 a1.1), (iadd .i64 (el Z28 a0 v1).2.1 a1.2.1), ())]))
   (some v2)
def tourkeep2_moved (k : Nat) (a0 : (List V28)) (a1 : V28) : Option (List V28) :=
  bnd (tourkeep2_moved.c1 k a0 a1 k 0 []) fun o6 =>
  some o6
noncomputable def tourkeep2_moved.sp (k : Nat) : Go.Sx.Spec := ⟨(.pair T23 (.pair T28 .unit)), (.one (.ow T28 29)), fun x => tourkeep2_moved k x.1 x.2.1, false⟩
noncomputable def tourkeep2_moved.cx (k : Nat) : Go.Sx.Ctx := ⟨tys, [], eqs, 30, false⟩
theorem tourkeep2_moved.cok (k : Nat) : CtxOk PR (tourkeep2_moved.cx k) := ctx_ok tysOk eqsOk FnsOk.nil
noncomputable def tourkeep2_moved.c1p (a0 : (List V28)) (a1 : V28) (v1 : Int) (v2 : (List V28)) : SL := ⟨[(3, (.val .ptr ⟨0, 0, (0 : Int), 0, 0⟩)), (5, (.val .own (1 : Nat))), (8, (.val T23 a0)), (9, (.val T2 (len a0))), (10, (.val T2 v1))], [(0, .cells T28 a1), (1, .row T28 v2 29)]⟩
noncomputable def tourkeep2_moved.c1q (o : (List V28)) : SL := (fun v => ⟨[(5, (.val .own (0 : Nat)))], [(0, .row T28 v 29)]⟩) o
noncomputable def tourkeep2_moved.c1x (o : (List V28)) : Ex := (fun _ => (.exit 0)) o
noncomputable def tourkeep2_moved.c1n (o : (List V28)) : Nat := (fun _ => 1) o
theorem tourkeep2_moved.c1_ok (k : Nat) (a0 : (List V28)) (a1 : V28) : ∀ (n : Nat) (v1 : Int) (v2 : (List V28)), Owp (tourkeep2_moved.c1 k a0 a1 n v1 v2) fun o => LTriple PR (tourkeep2_moved.cx k) (sub tourkeep2_moved.code [1, 1, 0, 1, 0, 0]) 2 (tourkeep2_moved.c1p a0 a1 v1 v2) (tourkeep2_moved.c1x o) (tourkeep2_moved.c1n o) (tourkeep2_moved.c1q o)
  | 0, _, _ => fun _ h => nomatch h
  | n + 1, v1, v2 => Owp.of (tourkeep2_moved.c1.eq_2 ..) (
   Owp.bif (fun e3 =>
   Owp.req fun h4 =>
    Owp.req fun h5 =>
    fun y hy => loop_back (tourkeep2_moved.cok k) hmix 2 (tourkeep2_moved.c1p a0 a1 (iadd .i64 v1 (1 : Int)) (v2 ++ [((iadd .i64 (el Z28 a0 v1).1 a1.1), (iadd .i64 (el Z28 a0 v1).2.1 a1.2.1), ())])) [.dec true, .dec true] [] [(0, 0), (1, 20)] (via (finP (And.intro (And.intro (And.intro trivial e3) h4) h5) .normal [(0, 0), (1, 20)] (tourkeep2_moved.c1p a0 a1 (iadd .i64 v1 (1 : Int)) (v2 ++ [((iadd .i64 (el Z28 a0 v1).1 a1.1), (iadd .i64 (el Z28 a0 v1).2.1 a1.2.1), ())]))) (by kernel_rfl)) ((tourkeep2_moved.c1_ok k a0 a1 n (iadd .i64 v1 (1 : Int)) (v2 ++ [((iadd .i64 (el Z28 a0 v1).1 a1.1), (iadd .i64 (el Z28 a0 v1).2.1 a1.2.1), ())])).ap hy)) (fun e3 =>
   Owp.some (loop_exit (tourkeep2_moved.cok k) hmix [.dec false] [] [(0, 1)] (exne 0) (via (finP (And.intro trivial e3) (.exit 0) [(0, 1)] (tourkeep2_moved.c1q v2)) (by kernel_rfl)))))
theorem tourkeep2_moved.way (k : Nat) (a0 : (List V28)) (a1 : V28) : Owp (tourkeep2_moved k a0 a1) fun y => ∃ answers cmds, exec PR (tourkeep2_moved.cx k) tourkeep2_moved.code 0 (entry (.pair T23 (.pair T28 .unit)) (a0, a1, ())).st answers (Ret (tourkeep2_moved.cx k) Try.f19 cmds (.one (.ow T28 29)) y) := by
  unfold tourkeep2_moved; exact
   Owp.bnd fun o6 e7 =>
   Owp.some (⟨[.cut ⟨[.own 5 T28 29], [(0, 0), (1, 6)], (tourkeep2_moved.c1p a0 a1 (0 : Int) []), 2, (.exit 0), (tourkeep2_moved.c1q o6), 1⟩], [], via (cutP trivial [(0, 0), (1, 6)] (tourkeep2_moved.c1p a0 a1 (0 : Int) []) (((tourkeep2_moved.c1_ok k a0 a1 k (0 : Int) []).ap e7).triple) (retP trivial (.one (.ow T28 29)) (o6 : (List V28)))) (by kernel_rfl)⟩)
theorem tourkeep2_moved.ok (k : Nat) : FnOk PR 19 (tourkeep2_moved.sp k) :=
  fn_ok (tourkeep2_moved.cok k) hmix Try.func19 (code := tourkeep2_moved.code) (by kernel_rfl) (by kernel_rfl) (by kernel_rfl) rfl (by kernel_rfl) (by kernel_rfl) (by kernel_rfl) (fun x => Nat.le_of_ble_eq_true (by kernel_rfl)) fun x y hy => (tourkeep2_moved.way k x.1 x.2.1).ap hy

/-! tourney/tourkeep2.pair -/
noncomputable def tourkeep2_pair.code : Code := Func.cd Try.f5
def tourkeep2_pair (k : Nat) (a0 : (List Int)) (a1 : (List Int)) (a2 : Int) (a3 : Int) : Option ((List V28) × (List V28)) :=
  bnd (tourmake_Poly k a0) fun y1 =>
  bnd (tourmake_Poly k a1) fun y3 =>
  bnd (tourkeep2_place k a2 a3) fun y5 =>
  bnd (tourkeep2_moved k y3 y5) fun y7 =>
  some (y1, y7)
noncomputable def tourkeep2_pair.sp (k : Nat) : Go.Sx.Spec := ⟨(.pair T22 (.pair T22 T28)), (.more (.dp T23) (.one (.ow T28 29))), fun x => tourkeep2_pair k x.1 x.2.1 x.2.2.1 x.2.2.2.1, false⟩
noncomputable def tourkeep2_pair.cx (k : Nat) : Go.Sx.Ctx := ⟨tys, [(18, tourmake_Poly.sp k), (20, tourkeep2_place.sp k), (19, tourkeep2_moved.sp k)], eqs, 18, false⟩
theorem tourkeep2_pair.cok (k : Nat) : CtxOk PR (tourkeep2_pair.cx k) := ctx_ok tysOk eqsOk (FnsOk.cons (tourmake_Poly.ok k) (FnsOk.cons (tourkeep2_place.ok k) (FnsOk.cons (tourkeep2_moved.ok k) FnsOk.nil)))
theorem tourkeep2_pair.way (k : Nat) (a0 : (List Int)) (a1 : (List Int)) (a2 : Int) (a3 : Int) : Owp (tourkeep2_pair k a0 a1 a2 a3) fun y => ∃ answers cmds, exec PR (tourkeep2_pair.cx k) tourkeep2_pair.code 0 (entry (.pair T22 (.pair T22 T28)) (a0, a1, a2, a3, ())).st answers (Ret (tourkeep2_pair.cx k) Try.f5 cmds (.more (.dp T23) (.one (.ow T28 29))) y) := by
  unfold tourkeep2_pair; exact
   Owp.bnd fun y1 e2 =>
   Owp.bnd fun y3 e4 =>
   Owp.bnd fun y5 e6 =>
   Owp.bnd fun y7 e8 =>
   Owp.some (⟨[.res (.one (.dp T23)) y1, .res (.one (.dp T23)) y3, .res (.one (.dp T28)) y5, .res (.one (.ow T28 29)) y7], [], via (retP (And.intro (And.intro (And.intro (And.intro trivial e2) e4) e6) e8) (.more (.dp T23) (.one (.ow T28 29))) ((y1, y7) : ((List V28) × (List V28)))) (by kernel_rfl)⟩)
theorem tourkeep2_pair.ok (k : Nat) : FnOk PR 5 (tourkeep2_pair.sp k) :=
  fn_ok (tourkeep2_pair.cok k) hmix Try.func5 (code := tourkeep2_pair.code) (by kernel_rfl) (by kernel_rfl) (by kernel_rfl) rfl (by kernel_rfl) (by kernel_rfl) (by kernel_rfl) (fun x => Nat.le_of_ble_eq_true (by kernel_rfl)) fun x y hy => (tourkeep2_pair.way k x.1 x.2.1 x.2.2.1 x.2.2.2.1).ap hy

/-! tourney/sat.both -/
noncomputable def sat_both.code : Code := Func.cd Try.f47
def sat_both (k : Nat) (a0 : (List V28)) (a1 : (List V28)) : Option Int :=
  bnd (poly_Check k a0) fun y1 =>
  bif' (ine y1 0)
  (some y1)
  (bnd (poly_Check k a1) fun y4 =>
   some y4)
noncomputable def sat_both.sp (k : Nat) : Go.Sx.Spec := ⟨(.pair T23 (.pair T23 .unit)), (.one (.dp T2)), fun x => sat_both k x.1 x.2.1, false⟩
noncomputable def sat_both.cx (k : Nat) : Go.Sx.Ctx := ⟨tys, [(54, poly_Check.sp k)], eqs, 13, false⟩
theorem sat_both.cok (k : Nat) : CtxOk PR (sat_both.cx k) := ctx_ok tysOk eqsOk (FnsOk.cons (poly_Check.ok k) FnsOk.nil)
theorem sat_both.way (k : Nat) (a0 : (List V28)) (a1 : (List V28)) : Owp (sat_both k a0 a1) fun y => ∃ answers cmds, exec PR (sat_both.cx k) sat_both.code 0 (entry (.pair T23 (.pair T23 .unit)) (a0, a1, ())).st answers (Ret (sat_both.cx k) Try.f47 cmds (.one (.dp T2)) y) := by
  unfold sat_both; exact
   Owp.bnd fun y1 e2 =>
   Owp.bif (fun e3 =>
   Owp.some (⟨[.res (.one (.dp T2)) y1, .dec true], [], via (retP (And.intro (And.intro trivial e2) e3) (.one (.dp T2)) (y1 : Int)) (by kernel_rfl)⟩)) (fun e3 =>
   Owp.bnd fun y4 e5 =>
    Owp.some (⟨[.res (.one (.dp T2)) y1, .dec false, .res (.one (.dp T2)) y4], [], via (retP (And.intro (And.intro (And.intro trivial e2) e3) e5) (.one (.dp T2)) (y4 : Int)) (by kernel_rfl)⟩))
theorem sat_both.ok (k : Nat) : FnOk PR 47 (sat_both.sp k) :=
  fn_ok (sat_both.cok k) hmix Try.func47 (code := sat_both.code) (by kernel_rfl) (by kernel_rfl) (by kernel_rfl) rfl (by kernel_rfl) (by kernel_rfl) (by kernel_rfl) (fun x => Nat.le_of_ble_eq_true (by kernel_rfl)) fun x y hy => (sat_both.way k x.1 x.2.1).ap hy

/-! tourney/sat.Normal -/
noncomputable def sat_Normal.code : Code := Func.cd Try.f22
def sat_Normal.c1 (k : Nat) (a0 : (List V28)) (a1 : Int) : Option (Bool) :=
  bif' (ilt a1 0)
  (some true)
  (some (ige a1 (len a0)))
def sat_Normal (k : Nat) (a0 : (List V28)) (a1 : Int) : Option V28 :=
  bnd (sat_Normal.c1 k a0 a1) fun o2 =>
  bif' o2
  (some (0, 0, ()))
  (req (inL a1 a0) <|
   req (nz (len a0)) <|
   req (inL (irem (iadd .i64 a1 1) (len a0)) a0) <|
   some ((isub .i64 (el Z28 a0 (irem (iadd .i64 a1 1) (len a0))).2.1 (el Z28 a0 a1).2.1), (isub .i64 (el Z28 a0 a1).1 (el Z28 a0 (irem (iadd .i64 a1 1) (len a0))).1), ()))
noncomputable def sat_Normal.sp (k : Nat) : Go.Sx.Spec := ⟨(.pair T23 (.pair T2 .unit)), (.one (.dp T28)), fun x => sat_Normal k x.1 x.2.1, false⟩
noncomputable def sat_Normal.cx (k : Nat) : Go.Sx.Ctx := ⟨tys, [], eqs, 39, false⟩
theorem sat_Normal.cok (k : Nat) : CtxOk PR (sat_Normal.cx k) := ctx_ok tysOk eqsOk FnsOk.nil
noncomputable def sat_Normal.c1p (a0 : (List V28)) (a1 : Int) : SL := ⟨[(0, (.val T23 a0)), (1, (.val T2 a1)), (4, (.val .ptr ⟨0, 0, (0 : Int), 0, 0⟩))], [(0, .cells T28 ((0 : Int), (0 : Int), ()))]⟩
noncomputable def sat_Normal.c1q (a0 : (List V28)) (a1 : Int) (o : Bool) : SL := (fun v => ⟨[(0, (.val T23 a0)), (1, (.val T2 a1)), (4, (.val .ptr ⟨0, 0, (0 : Int), 0, 0⟩)), (14, (.val T4 v))], [(0, .cells T28 ((0 : Int), (0 : Int), ()))]⟩) o
noncomputable def sat_Normal.c1x (o : Bool) : Ex := (fun _ => .normal) o
noncomputable def sat_Normal.c1n (o : Bool) : Nat := (fun _ => 1) o
theorem sat_Normal.c1_ok (k : Nat) (a0 : (List V28)) (a1 : Int) : Owp (sat_Normal.c1 k a0 a1) fun o => Triple PR (sat_Normal.cx k) (sub sat_Normal.code [1, 0, 0]) 1 (sat_Normal.c1p a0 a1) (sat_Normal.c1x o) (sat_Normal.c1n o) (sat_Normal.c1q a0 a1 o) := by
  unfold sat_Normal.c1; exact
   Owp.bif (fun e1 =>
   Owp.some (triple_way (sat_Normal.cok k) hmix [.dec true, .dec true, .dec true, .dec true, .dec true] [] [(0, 0)] (via (finP (And.intro (And.intro (And.intro (And.intro (And.intro trivial e1) e1) e1) e1) e1) .normal [(0, 0)] (sat_Normal.c1q a0 a1 true)) (by kernel_rfl)))) (fun e1 =>
   Owp.some (triple_way (sat_Normal.cok k) hmix [.dec false, .dec false, .dec false, .dec false, .dec false] [] [(0, 0)] (via (finP (And.intro (And.intro (And.intro (And.intro (And.intro trivial e1) e1) e1) e1) e1) .normal [(0, 0)] (sat_Normal.c1q a0 a1 (ige a1 (len a0)))) (by kernel_rfl))))
theorem sat_Normal.way (k : Nat) (a0 : (List V28)) (a1 : Int) : Owp (sat_Normal k a0 a1) fun y => ∃ answers cmds, exec PR (sat_Normal.cx k) sat_Normal.code 0 (entry (.pair T23 (.pair T2 .unit)) (a0, a1, ())).st answers (Ret (sat_Normal.cx k) Try.f22 cmds (.one (.dp T28)) y) := by
  unfold sat_Normal; exact
   Owp.bnd fun o2 e3 =>
   Owp.bif (fun e4 =>
   Owp.some (⟨[.cutR 1 ⟨[], [(0, 0)], (sat_Normal.c1p a0 a1), 1, .normal, (sat_Normal.c1q a0 a1 o2), 1⟩, .dec true], [], via (cutP trivial [(0, 0)] (sat_Normal.c1p a0 a1) (((sat_Normal.c1_ok k a0 a1).ap e3)) (retP (And.intro trivial e4) (.one (.dp T28)) (((0 : Int), (0 : Int), ()) : V28))) (by kernel_rfl)⟩)) (fun e4 =>
   Owp.req fun h5 =>
    Owp.req fun h6 =>
    Owp.req fun h7 =>
    Owp.some (⟨[.cutR 1 ⟨[], [(0, 0)], (sat_Normal.c1p a0 a1), 1, .normal, (sat_Normal.c1q a0 a1 o2), 1⟩, .dec false], [], via (cutP trivial [(0, 0)] (sat_Normal.c1p a0 a1) (((sat_Normal.c1_ok k a0 a1).ap e3)) (retP (And.intro (And.intro (And.intro (And.intro trivial e4) h5) h6) h7) (.one (.dp T28)) (((isub .i64 (el Z28 a0 (irem (iadd .i64 a1 (1 : Int)) (len a0))).2.1 (el Z28 a0 a1).2.1), (isub .i64 (el Z28 a0 a1).1 (el Z28 a0 (irem (iadd .i64 a1 (1 : Int)) (len a0))).1), ()) : V28))) (by kernel_rfl)⟩))
theorem sat_Normal.ok (k : Nat) : FnOk PR 22 (sat_Normal.sp k) :=
  fn_ok (sat_Normal.cok k) hmix Try.func22 (code := sat_Normal.code) (by kernel_rfl) (by kernel_rfl) (by kernel_rfl) rfl (by kernel_rfl) (by kernel_rfl) (by kernel_rfl) (fun x => Nat.le_of_ble_eq_true (by kernel_rfl)) fun x y hy => (sat_Normal.way k x.1 x.2.1).ap hy

/-! tourney/sat.deep -/
noncomputable def sat_deep.code : Code := Func.cd Try.f48
def sat_deep.c2 (k : Nat) (a0 : (List V28)) (a1 : (List V28)) (a2 : Int) (v3 : Int) (v4 : Int) (y1 : V28) : Option (Bool) :=
  bif' (ieq v4 0)
  (some true)
  (some (igt (iadd .i64 (imul .i64 y1.1 (isub .i64 (el Z28 a0 a2).1 (el Z28 a1 v4).1)) (imul .i64 y1.2.1 (isub .i64 (el Z28 a0 a2).2.1 (el Z28 a1 v4).2.1))) v3))
def sat_deep.c1 (k : Nat) (a0 : (List V28)) (a1 : (List V28)) (a2 : Int) (y1 : V28) : Nat → Int → Int → Option (Int)
  | 0, _, _ => none
  | n + 1, v3, v4 =>
   bif' (ilt v4 (len a1))
   (req (inL v4 a1) <|
    req (inL a2 a0) <|
    bnd (sat_deep.c2 k a0 a1 a2 v3 v4 y1) fun o9 =>
    bif' o9
    (sat_deep.c1 k a0 a1 a2 y1 n (iadd .i64 (imul .i64 y1.1 (isub .i64 (el Z28 a0 a2).1 (el Z28 a1 v4).1)) (imul .i64 y1.2.1 (isub .i64 (el Z28 a0 a2).2.1 (el Z28 a1 v4).2.1))) (iadd .i64 v4 1))
    (sat_deep.c1 k a0 a1 a2 y1 n v3 (iadd .i64 v4 1)))
   (some v3)
def sat_deep (k : Nat) (a0 : (List V28)) (a1 : (List V28)) (a2 : Int) : Option Int :=
  bnd (sat_Normal k a0 a2) fun y1 =>
  bnd (sat_deep.c1 k a0 a1 a2 y1 k 0 0) fun o12 =>
  some o12
noncomputable def sat_deep.sp (k : Nat) : Go.Sx.Spec := ⟨(.pair T23 (.pair T23 (.pair T2 .unit))), (.one (.dp T2)), fun x => sat_deep k x.1 x.2.1 x.2.2.1, false⟩
noncomputable def sat_deep.cx (k : Nat) : Go.Sx.Ctx := ⟨tys, [(22, sat_Normal.sp k)], eqs, 55, false⟩
theorem sat_deep.cok (k : Nat) : CtxOk PR (sat_deep.cx k) := ctx_ok tysOk eqsOk (FnsOk.cons (sat_Normal.ok k) FnsOk.nil)
noncomputable def sat_deep.c2p (a0 : (List V28)) (a1 : (List V28)) (a2 : Int) (v3 : Int) (v4 : Int) (y1 : V28) : SL := ⟨[(0, (.val T23 a0)), (2, (.val T2 a2)), (7, (.val .ptr ⟨0, 0, (0 : Int), 0, 0⟩)), (8, (.val T2 v3)), (9, (.val T2 v4)), (11, (.val T2 (iadd .i64 (imul .i64 y1.1 (isub .i64 (el Z28 a0 a2).1 (el Z28 a1 v4).1)) (imul .i64 y1.2.1 (isub .i64 (el Z28 a0 a2).2.1 (el Z28 a1 v4).2.1))))), (15, (.val T23 a1)), (16, (.val T2 (len a1))), (17, (.val T2 v4))], [(0, .cells T28 y1)]⟩
noncomputable def sat_deep.c2q (a0 : (List V28)) (a1 : (List V28)) (a2 : Int) (v3 : Int) (v4 : Int) (y1 : V28) (o : Bool) : SL := (fun v => ⟨[(0, (.val T23 a0)), (2, (.val T2 a2)), (7, (.val .ptr ⟨0, 0, (0 : Int), 0, 0⟩)), (8, (.val T2 v3)), (11, (.val T2 (iadd .i64 (imul .i64 y1.1 (isub .i64 (el Z28 a0 a2).1 (el Z28 a1 v4).1)) (imul .i64 y1.2.1 (isub .i64 (el Z28 a0 a2).2.1 (el Z28 a1 v4).2.1))))), (15, (.val T23 a1)), (16, (.val T2 (len a1))), (17, (.val T2 v4)), (51, (.val T4 v))], [(0, .cells T28 y1)]⟩) o
noncomputable def sat_deep.c2x (o : Bool) : Ex := (fun _ => .normal) o
noncomputable def sat_deep.c2n (o : Bool) : Nat := (fun _ => 1) o
theorem sat_deep.c2_ok (k : Nat) (a0 : (List V28)) (a1 : (List V28)) (a2 : Int) (v3 : Int) (v4 : Int) (y1 : V28) : Owp (sat_deep.c2 k a0 a1 a2 v3 v4 y1) fun o => Triple PR (sat_deep.cx k) (sub sat_deep.code [1, 1, 1, 0, 1, 0, 0, 1, 1, 0, 0, 1, 1, 0]) 1 (sat_deep.c2p a0 a1 a2 v3 v4 y1) (sat_deep.c2x o) (sat_deep.c2n o) (sat_deep.c2q a0 a1 a2 v3 v4 y1 o) := by
  unfold sat_deep.c2; exact
   Owp.bif (fun e8 =>
   Owp.some (triple_way (sat_deep.cok k) hmix [.dec true, .dec true, .dec true, .dec true] [] [(0, 0)] (via (finP (And.intro (And.intro (And.intro (And.intro trivial e8) e8) e8) e8) .normal [(0, 0)] (sat_deep.c2q a0 a1 a2 v3 v4 y1 true)) (by kernel_rfl)))) (fun e8 =>
   Owp.some (triple_way (sat_deep.cok k) hmix [.dec false, .dec false, .dec false, .dec false] [] [(0, 0)] (via (finP (And.intro (And.intro (And.intro (And.intro trivial e8) e8) e8) e8) .normal [(0, 0)] (sat_deep.c2q a0 a1 a2 v3 v4 y1 (igt (iadd .i64 (imul .i64 y1.1 (isub .i64 (el Z28 a0 a2).1 (el Z28 a1 v4).1)) (imul .i64 y1.2.1 (isub .i64 (el Z28 a0 a2).2.1 (el Z28 a1 v4).2.1))) v3))) (by kernel_rfl))))
noncomputable def sat_deep.c1p (a0 : (List V28)) (a1 : (List V28)) (a2 : Int) (y1 : V28) (v3 : Int) (v4 : Int) : SL := ⟨[(0, (.val T23 a0)), (2, (.val T2 a2)), (7, (.val .ptr ⟨0, 0, (0 : Int), 0, 0⟩)), (8, (.val T2 v3)), (15, (.val T23 a1)), (16, (.val T2 (len a1))), (17, (.val T2 v4))], [(0, .cells T28 y1)]⟩
noncomputable def sat_deep.c1q (o : Int) : SL := (fun v => ⟨[(8, (.val T2 v))], []⟩) o
noncomputable def sat_deep.c1x (o : Int) : Ex := (fun _ => (.exit 0)) o
noncomputable def sat_deep.c1n (o : Int) : Nat := (fun _ => 0) o
theorem sat_deep.c1_ok (k : Nat) (a0 : (List V28)) (a1 : (List V28)) (a2 : Int) (y1 : V28) : ∀ (n : Nat) (v3 : Int) (v4 : Int), Owp (sat_deep.c1 k a0 a1 a2 y1 n v3 v4) fun o => LTriple PR (sat_deep.cx k) (sub sat_deep.code [1, 1, 1, 0, 1, 0, 0]) 1 (sat_deep.c1p a0 a1 a2 y1 v3 v4) (sat_deep.c1x o) (sat_deep.c1n o) (sat_deep.c1q o)
  | 0, _, _ => fun _ h => nomatch h
  | n + 1, v3, v4 => Owp.of (sat_deep.c1.eq_2 ..) (
   Owp.bif (fun e5 =>
   Owp.req fun h6 =>
    Owp.req fun h7 =>
    Owp.bnd fun o9 e10 =>
    Owp.bif (fun e11 =>
    fun y hy => loop_back (sat_deep.cok k) hmix 1 (sat_deep.c1p a0 a1 a2 y1 (iadd .i64 (imul .i64 y1.1 (isub .i64 (el Z28 a0 a2).1 (el Z28 a1 v4).1)) (imul .i64 y1.2.1 (isub .i64 (el Z28 a0 a2).2.1 (el Z28 a1 v4).2.1))) (iadd .i64 v4 (1 : Int))) [.dec true, .cutR 7 ⟨[], [(0, 0)], (sat_deep.c2p a0 a1 a2 v3 v4 y1), 1, .normal, (sat_deep.c2q a0 a1 a2 v3 v4 y1 o9), 1⟩, .dec true] [] [(0, 0)] (via (cutP (And.intro (And.intro (And.intro (And.intro trivial e5) h6) h7) h7) [(0, 0)] (sat_deep.c2p a0 a1 a2 v3 v4 y1) (((sat_deep.c2_ok k a0 a1 a2 v3 v4 y1).ap e10)) (finP (And.intro trivial e11) .normal [(0, 0)] (sat_deep.c1p a0 a1 a2 y1 (iadd .i64 (imul .i64 y1.1 (isub .i64 (el Z28 a0 a2).1 (el Z28 a1 v4).1)) (imul .i64 y1.2.1 (isub .i64 (el Z28 a0 a2).2.1 (el Z28 a1 v4).2.1))) (iadd .i64 v4 (1 : Int))))) (by kernel_rfl)) ((sat_deep.c1_ok k a0 a1 a2 y1 n (iadd .i64 (imul .i64 y1.1 (isub .i64 (el Z28 a0 a2).1 (el Z28 a1 v4).1)) (imul .i64 y1.2.1 (isub .i64 (el Z28 a0 a2).2.1 (el Z28 a1 v4).2.1))) (iadd .i64 v4 (1 : Int))).ap hy)) (fun e11 =>
    fun y hy => loop_back (sat_deep.cok k) hmix 1 (sat_deep.c1p a0 a1 a2 y1 v3 (iadd .i64 v4 (1 : Int))) [.dec true, .cutR 7 ⟨[], [(0, 0)], (sat_deep.c2p a0 a1 a2 v3 v4 y1), 1, .normal, (sat_deep.c2q a0 a1 a2 v3 v4 y1 o9), 1⟩, .dec false] [] [(0, 0)] (via (cutP (And.intro (And.intro (And.intro (And.intro trivial e5) h6) h7) h7) [(0, 0)] (sat_deep.c2p a0 a1 a2 v3 v4 y1) (((sat_deep.c2_ok k a0 a1 a2 v3 v4 y1).ap e10)) (finP (And.intro trivial e11) .normal [(0, 0)] (sat_deep.c1p a0 a1 a2 y1 v3 (iadd .i64 v4 (1 : Int))))) (by kernel_rfl)) ((sat_deep.c1_ok k a0 a1 a2 y1 n v3 (iadd .i64 v4 (1 : Int))).ap hy))) (fun e5 =>
   Owp.some (loop_exit (sat_deep.cok k) hmix [.dec false] [] [] (exne 0) (via (finP (And.intro trivial e5) (.exit 0) [] (sat_deep.c1q v3)) (by kernel_rfl)))))
theorem sat_deep.way (k : Nat) (a0 : (List V28)) (a1 : (List V28)) (a2 : Int) : Owp (sat_deep k a0 a1 a2) fun y => ∃ answers cmds, exec PR (sat_deep.cx k) sat_deep.code 0 (entry (.pair T23 (.pair T23 (.pair T2 .unit))) (a0, a1, a2, ())).st answers (Ret (sat_deep.cx k) Try.f48 cmds (.one (.dp T2)) y) := by
  unfold sat_deep; exact
   Owp.bnd fun y1 e2 =>
   Owp.bnd fun o12 e13 =>
   Owp.some (⟨[.res (.one (.dp T28)) y1, .cut ⟨[], [(0, 4)], (sat_deep.c1p a0 a1 a2 y1 (0 : Int) (0 : Int)), 1, (.exit 0), (sat_deep.c1q o12), 0⟩], [], via (cutP (And.intro trivial e2) [(0, 4)] (sat_deep.c1p a0 a1 a2 y1 (0 : Int) (0 : Int)) (((sat_deep.c1_ok k a0 a1 a2 y1 k (0 : Int) (0 : Int)).ap e13).triple) (retP trivial (.one (.dp T2)) (o12 : Int))) (by kernel_rfl)⟩)
theorem sat_deep.ok (k : Nat) : FnOk PR 48 (sat_deep.sp k) :=
  fn_ok (sat_deep.cok k) hmix Try.func48 (code := sat_deep.code) (by kernel_rfl) (by kernel_rfl) (by kernel_rfl) rfl (by kernel_rfl) (by kernel_rfl) (by kernel_rfl) (fun x => Nat.le_of_ble_eq_true (by kernel_rfl)) fun x y hy => (sat_deep.way k x.1 x.2.1 x.2.2.1).ap hy

/-! tourney/sat.root -/
noncomputable def sat_root.code : Code := Func.cd Try.f52
def sat_root.c1 (k : Nat) (a0 : Int) : Nat → Int → Int → Option (Int)
  | 0, _, _ => none
  | n + 1, v1, v2 =>
   bif' (igt (isub .i64 v2 v1) 1)
   (bif' (ile (imul .i64 (iquo .i64 (iadd .i64 v1 v2) 2) (iquo .i64 (iadd .i64 v1 v2) 2)) a0)
    (sat_root.c1 k a0 n (iquo .i64 (iadd .i64 v1 v2) 2) v2)
    (sat_root.c1 k a0 n v1 (iquo .i64 (iadd .i64 v1 v2) 2)))
   (some v1)
def sat_root (k : Nat) (a0 : Int) : Option Int :=
  bnd (sat_root.c1 k a0 k 0 2147483648) fun o5 =>
  some o5
noncomputable def sat_root.sp (k : Nat) : Go.Sx.Spec := ⟨(.pair T2 .unit), (.one (.dp T2)), fun x => sat_root k x.1, false⟩
noncomputable def sat_root.cx (k : Nat) : Go.Sx.Ctx := ⟨tys, [], eqs, 22, false⟩
theorem sat_root.cok (k : Nat) : CtxOk PR (sat_root.cx k) := ctx_ok tysOk eqsOk FnsOk.nil
noncomputable def sat_root.c1p (a0 : Int) (v1 : Int) (v2 : Int) : SL := ⟨[(0, (.val T2 a0)), (3, (.val T2 v1)), (4, (.val T2 v2))], []⟩
noncomputable def sat_root.c1q (o : Int) : SL := (fun v => ⟨[(3, (.val T2 v))], []⟩) o
noncomputable def sat_root.c1x (o : Int) : Ex := (fun _ => (.exit 0)) o
noncomputable def sat_root.c1n (o : Int) : Nat := (fun _ => 0) o
theorem sat_root.c1_ok (k : Nat) (a0 : Int) : ∀ (n : Nat) (v1 : Int) (v2 : Int), Owp (sat_root.c1 k a0 n v1 v2) fun o => LTriple PR (sat_root.cx k) (sub sat_root.code [1, 1, 0, 0, 0]) 0 (sat_root.c1p a0 v1 v2) (sat_root.c1x o) (sat_root.c1n o) (sat_root.c1q o)
  | 0, _, _ => fun _ h => nomatch h
  | n + 1, v1, v2 => Owp.of (sat_root.c1.eq_2 ..) (
   Owp.bif (fun e3 =>
   Owp.bif (fun e4 =>
    fun y hy => loop_back (sat_root.cok k) hmix 0 (sat_root.c1p a0 (iquo .i64 (iadd .i64 v1 v2) (2 : Int)) v2) [.dec true, .dec true] [] [] (via (finP (And.intro (And.intro (And.intro trivial e3) (by decide : nz (2 : Int))) e4) .normal [] (sat_root.c1p a0 (iquo .i64 (iadd .i64 v1 v2) (2 : Int)) v2)) (by kernel_rfl)) ((sat_root.c1_ok k a0 n (iquo .i64 (iadd .i64 v1 v2) (2 : Int)) v2).ap hy)) (fun e4 =>
    fun y hy => loop_back (sat_root.cok k) hmix 0 (sat_root.c1p a0 v1 (iquo .i64 (iadd .i64 v1 v2) (2 : Int))) [.dec true, .dec false] [] [] (via (finP (And.intro (And.intro (And.intro trivial e3) (by decide : nz (2 : Int))) e4) .normal [] (sat_root.c1p a0 v1 (iquo .i64 (iadd .i64 v1 v2) (2 : Int)))) (by kernel_rfl)) ((sat_root.c1_ok k a0 n v1 (iquo .i64 (iadd .i64 v1 v2) (2 : Int))).ap hy))) (fun e3 =>
   Owp.some (loop_exit (sat_root.cok k) hmix [.dec false] [] [] (exne 0) (via (finP (And.intro trivial e3) (.exit 0) [] (sat_root.c1q v1)) (by kernel_rfl)))))
theorem sat_root.way (k : Nat) (a0 : Int) : Owp (sat_root k a0) fun y => ∃ answers cmds, exec PR (sat_root.cx k) sat_root.code 0 (entry (.pair T2 .unit) (a0, ())).st answers (Ret (sat_root.cx k) Try.f52 cmds (.one (.dp T2)) y) := by
  unfold sat_root; exact
   Owp.bnd fun o5 e6 =>
   Owp.some (⟨[.cut ⟨[], [], (sat_root.c1p a0 (0 : Int) (2147483648 : Int)), 0, (.exit 0), (sat_root.c1q o5), 0⟩], [], via (cutP trivial [] (sat_root.c1p a0 (0 : Int) (2147483648 : Int)) (((sat_root.c1_ok k a0 k (0 : Int) (2147483648 : Int)).ap e6).triple) (retP trivial (.one (.dp T2)) (o5 : Int))) (by kernel_rfl)⟩)
theorem sat_root.ok (k : Nat) : FnOk PR 52 (sat_root.sp k) :=
  fn_ok (sat_root.cok k) hmix Try.func52 (code := sat_root.code) (by kernel_rfl) (by kernel_rfl) (by kernel_rfl) rfl (by kernel_rfl) (by kernel_rfl) (by kernel_rfl) (fun x => Nat.le_of_ble_eq_true (by kernel_rfl)) fun x y hy => (sat_root.way k x.1).ap hy

/-! tourney/sat.Length -/
noncomputable def sat_Length.code : Code := Func.cd Try.f29
def sat_Length (k : Nat) (a0 : V28) : Option Int :=
  bnd (sat_root k (iadd .i64 (imul .i64 a0.1 a0.1) (imul .i64 a0.2.1 a0.2.1))) fun y1 =>
  some y1
noncomputable def sat_Length.sp (k : Nat) : Go.Sx.Spec := ⟨(.pair T28 .unit), (.one (.dp T2)), fun x => sat_Length k x.1, false⟩
noncomputable def sat_Length.cx (k : Nat) : Go.Sx.Ctx := ⟨tys, [(52, sat_root.sp k)], eqs, 15, false⟩
theorem sat_Length.cok (k : Nat) : CtxOk PR (sat_Length.cx k) := ctx_ok tysOk eqsOk (FnsOk.cons (sat_root.ok k) FnsOk.nil)
theorem sat_Length.way (k : Nat) (a0 : V28) : Owp (sat_Length k a0) fun y => ∃ answers cmds, exec PR (sat_Length.cx k) sat_Length.code 0 (entry (.pair T28 .unit) (a0, ())).st answers (Ret (sat_Length.cx k) Try.f29 cmds (.one (.dp T2)) y) := by
  unfold sat_Length; exact
   Owp.bnd fun y1 e2 =>
   Owp.some (⟨[.res (.one (.dp T2)) y1], [], via (retP (And.intro trivial e2) (.one (.dp T2)) (y1 : Int)) (by kernel_rfl)⟩)
theorem sat_Length.ok (k : Nat) : FnOk PR 29 (sat_Length.sp k) :=
  fn_ok (sat_Length.cok k) hmix Try.func29 (code := sat_Length.code) (by kernel_rfl) (by kernel_rfl) (by kernel_rfl) rfl (by kernel_rfl) (by kernel_rfl) (by kernel_rfl) (fun x => Nat.le_of_ble_eq_true (by kernel_rfl)) fun x y hy => (sat_Length.way k x.1).ap hy

/-! tourney/sat.Least -/
noncomputable def sat_Least.code : Code := Func.cd Try.f21
def sat_Least.c3 (k : Nat) (v11 : Bool) (v15 : Int) (y26 : (Int × Int)) : Option (Bool) :=
  bif' v11
  (some (ilt y26.1 v15))
  (some true)
def sat_Least.c2 (k : Nat) (a0 : (List V28)) (a1 : (List V28)) (v5 : Int) : Nat → Bool → Int → Bool → Int → Int → Option (Unit ⊕ (Bool × (Bool × (Int × Int))))
  | 0, _, _, _, _, _ => none
  | n + 1, v11, v12, v13, v14, v15 =>
   bif' (ilt v12 (len (el ([] : (List V28)) (el (List.replicate 2 []) [[a0, a1], [a1, a0]] v5) 0)))
   (bnd (sat_deep k (el ([] : (List V28)) (el (List.replicate 2 []) [[a0, a1], [a1, a0]] v5) 0) (el ([] : (List V28)) (el (List.replicate 2 []) [[a0, a1], [a1, a0]] v5) 1) v12) fun y17 =>
    bif' (ilt y17 0)
    (some (.inl ()))
    (bnd (sat_Normal k (el ([] : (List V28)) (el (List.replicate 2 []) [[a0, a1], [a1, a0]] v5) 0) v12) fun y20 =>
     bnd (poly_Times k y17 1) fun y22 =>
     bnd (sat_Length k y20) fun y24 =>
     bnd (poly_Wide_Over k y22 y24) fun y26 =>
     bnd (sat_Least.c3 k v11 v15 y26) fun o29 =>
     bif' o29
     (sat_Least.c2 k a0 a1 v5 n true (iadd .i64 v12 1) (ieq v5 1) v12 y26.1)
     (sat_Least.c2 k a0 a1 v5 n v11 (iadd .i64 v12 1) v13 v14 v15)))
   (some (.inr (v11, v13, v14, v15)))
def sat_Least.c1 (k : Nat) (a0 : (List V28)) (a1 : (List V28)) : Nat → Bool → Int → Bool → Int → Int → Option (Unit ⊕ (Bool × (Int × Int)))
  | 0, _, _, _, _, _ => none
  | n + 1, v4, v5, v6, v7, v8 =>
   bif' (ilt v5 (len [[a0, a1], [a1, a0]]))
   (req (inL v5 [[a0, a1], [a1, a0]]) <|
    bnd (sat_Least.c2 k a0 a1 v5 k v4 0 v6 v7 v8) fun o32 =>
    two o32 (fun y34 =>
    some (.inl ())) (fun y36 =>
    sat_Least.c1 k a0 a1 n y36.1 (iadd .i64 v5 1) y36.2.1 y36.2.2.1 y36.2.2.2))
   (some (.inr (v6, v7, v8)))
def sat_Least (k : Nat) (a0 : (List V28)) (a1 : (List V28)) : Option ((Bool × V28) × (Bool × Int)) :=
  bnd (sat_both k a0 a1) fun y1 =>
  bif' (ine y1 0)
  (some ((false, 0, 0, ()), false, y1))
  (bnd (sat_Least.c1 k a0 a1 k false 0 false 0 0) fun o38 =>
   two o38 (fun y40 =>
   some ((false, 0, 0, ()), false, 0)) (fun y42 =>
   some ((y42.1, y42.2.1, y42.2.2, ()), true, 0)))
noncomputable def sat_Least.sp (k : Nat) : Go.Sx.Spec := ⟨(.pair T23 (.pair T23 .unit)), (.more (.dp (.pair T4 T28)) (.more (.dp T4) (.one (.dp T2)))), fun x => sat_Least k x.1 x.2.1, false⟩
noncomputable def sat_Least.cx (k : Nat) : Go.Sx.Ctx := ⟨tys, [(47, sat_both.sp k), (48, sat_deep.sp k), (22, sat_Normal.sp k), (27, poly_Times.sp k), (29, sat_Length.sp k), (28, poly_Wide_Over.sp k)], eqs, 80, false⟩
theorem sat_Least.cok (k : Nat) : CtxOk PR (sat_Least.cx k) := ctx_ok tysOk eqsOk (FnsOk.cons (sat_both.ok k) (FnsOk.cons (sat_deep.ok k) (FnsOk.cons (sat_Normal.ok k) (FnsOk.cons (poly_Times.ok k) (FnsOk.cons (sat_Length.ok k) (FnsOk.cons (poly_Wide_Over.ok k) FnsOk.nil))))))
noncomputable def sat_Least.c3p (a0 : (List V28)) (a1 : (List V28)) (v5 : Int) (v11 : Bool) (v12 : Int) (v13 : Bool) (v14 : Int) (v15 : Int) (y26 : (Int × Int)) : SL := ⟨[(4, (.val .ptr ⟨0, 0, (0 : Int), 0, 0⟩)), (8, (.val .ptr ⟨1, 0, (0 : Int), 0, 0⟩)), (9, (.val T4 v11)), (10, (.val T2 v5)), (11, (.val .ptr ⟨2, 0, (0 : Int), 0, 0⟩)), (12, (.val T2 v12)), (15, (.val T2 y26.1)), (30, (.val .own (3 : Nat))), (31, (.val T2 (len [[a0, a1], [a1, a0]]))), (32, (.val T2 v5)), (39, (.val T2 (len (el ([] : (List V28)) (el (List.replicate 2 []) [[a0, a1], [a1, a0]] v5) (0 : Int))))), (40, (.val T2 v12))], [(0, .cells (.pair T4 T28) (false, (0 : Int), (0 : Int), ())), (1, .cells (.pair T4 T28) (v13, v14, v15, ())), (2, .cells (.arr 2 T23) (el (List.replicate 2 []) [[a0, a1], [a1, a0]] v5)), (3, .row (.arr 2 T23) [[a0, a1], [a1, a0]] 90)]⟩
noncomputable def sat_Least.c3q (a0 : (List V28)) (a1 : (List V28)) (v5 : Int) (v11 : Bool) (v12 : Int) (v13 : Bool) (v14 : Int) (v15 : Int) (y26 : (Int × Int)) (o : Bool) : SL := (fun v => ⟨[(4, (.val .ptr ⟨0, 0, (0 : Int), 0, 0⟩)), (8, (.val .ptr ⟨1, 0, (0 : Int), 0, 0⟩)), (9, (.val T4 v11)), (10, (.val T2 v5)), (11, (.val .ptr ⟨2, 0, (0 : Int), 0, 0⟩)), (12, (.val T2 v12)), (15, (.val T2 y26.1)), (30, (.val .own (3 : Nat))), (31, (.val T2 (len [[a0, a1], [a1, a0]]))), (32, (.val T2 v5)), (39, (.val T2 (len (el ([] : (List V28)) (el (List.replicate 2 []) [[a0, a1], [a1, a0]] v5) (0 : Int))))), (40, (.val T2 v12)), (71, (.val T4 v))], [(0, .cells (.pair T4 T28) (false, (0 : Int), (0 : Int), ())), (1, .cells (.pair T4 T28) (v13, v14, v15, ())), (2, .cells (.arr 2 T23) (el (List.replicate 2 []) [[a0, a1], [a1, a0]] v5)), (3, .row (.arr 2 T23) [[a0, a1], [a1, a0]] 90)]⟩) o
noncomputable def sat_Least.c3x (o : Bool) : Ex := (fun _ => .normal) o
noncomputable def sat_Least.c3n (o : Bool) : Nat := (fun _ => 4) o
theorem sat_Least.c3_ok (k : Nat) (a0 : (List V28)) (a1 : (List V28)) (v5 : Int) (v11 : Bool) (v12 : Int) (v13 : Bool) (v14 : Int) (v15 : Int) (y26 : (Int × Int)) : Owp (sat_Least.c3 k v11 v15 y26) fun o => Triple PR (sat_Least.cx k) (sub sat_Least.code [1, 1, 1, 1, 0, 1, 0, 0, 1, 1, 0, 0, 1, 1, 0, 0, 1, 1, 0, 0, 1, 1, 1, 1, 1, 0]) 4 (sat_Least.c3p a0 a1 v5 v11 v12 v13 v14 v15 y26) (sat_Least.c3x o) (sat_Least.c3n o) (sat_Least.c3q a0 a1 v5 v11 v12 v13 v14 v15 y26 o) := by
  unfold sat_Least.c3; exact
   Owp.bif (fun e28 =>
   Owp.some (triple_way (sat_Least.cok k) hmix [.dec false, .dec false, .dec false, .dec false, .dec false] [] [(0, 0), (1, 1), (2, 2), (3, 3)] (via (finP (And.intro (And.intro (And.intro (And.intro (And.intro trivial (congrArg not e28)) (congrArg not e28)) (congrArg not e28)) (congrArg not e28)) (congrArg not e28)) .normal [(0, 0), (1, 1), (2, 2), (3, 3)] (sat_Least.c3q a0 a1 v5 v11 v12 v13 v14 v15 y26 (ilt y26.1 v15))) (by kernel_rfl)))) (fun e28 =>
   Owp.some (triple_way (sat_Least.cok k) hmix [.dec true, .dec true, .dec true, .dec true, .dec true] [] [(0, 0), (1, 1), (2, 2), (3, 3)] (via (finP (And.intro (And.intro (And.intro (And.intro (And.intro trivial (congrArg not e28)) (congrArg not e28)) (congrArg not e28)) (congrArg not e28)) (congrArg not e28)) .normal [(0, 0), (1, 1), (2, 2), (3, 3)] (sat_Least.c3q a0 a1 v5 v11 v12 v13 v14 v15 y26 true)) (by kernel_rfl))))
noncomputable def sat_Least.c2p (a0 : (List V28)) (a1 : (List V28)) (v5 : Int) (v11 : Bool) (v12 : Int) (v13 : Bool) (v14 : Int) (v15 : Int) : SL := ⟨[(4, (.val .ptr ⟨0, 0, (0 : Int), 0, 0⟩)), (8, (.val .ptr ⟨1, 0, (0 : Int), 0, 0⟩)), (9, (.val T4 v11)), (10, (.val T2 v5)), (11, (.val .ptr ⟨2, 0, (0 : Int), 0, 0⟩)), (30, (.val .own (3 : Nat))), (31, (.val T2 (len [[a0, a1], [a1, a0]]))), (32, (.val T2 v5)), (39, (.val T2 (len (el ([] : (List V28)) (el (List.replicate 2 []) [[a0, a1], [a1, a0]] v5) (0 : Int))))), (40, (.val T2 v12))], [(0, .cells (.pair T4 T28) (false, (0 : Int), (0 : Int), ())), (1, .cells (.pair T4 T28) (v13, v14, v15, ())), (2, .cells (.arr 2 T23) (el (List.replicate 2 []) [[a0, a1], [a1, a0]] v5)), (3, .row (.arr 2 T23) [[a0, a1], [a1, a0]] 90)]⟩
noncomputable def sat_Least.c2q (a0 : (List V28)) (a1 : (List V28)) (v5 : Int) (o : Unit ⊕ (Bool × (Bool × (Int × Int)))) : SL := (fun o => two o (fun v => ⟨[(4, (.val .ptr ⟨0, 0, (0 : Int), 0, 0⟩)), (5, (.val T4 false)), (6, (.val T2 (0 : Int)))], [(0, .cells (.pair T4 T28) (false, (0 : Int), (0 : Int), ()))]⟩) (fun v => ⟨[(4, (.val .ptr ⟨0, 0, (0 : Int), 0, 0⟩)), (8, (.val .ptr ⟨1, 0, (0 : Int), 0, 0⟩)), (9, (.val T4 v.1)), (30, (.val .own (2 : Nat))), (31, (.val T2 (len [[a0, a1], [a1, a0]]))), (32, (.val T2 v5))], [(0, .cells (.pair T4 T28) (false, (0 : Int), (0 : Int), ())), (1, .cells (.pair T4 T28) (v.2.1, v.2.2.1, v.2.2.2, ())), (2, .row (.arr 2 T23) [[a0, a1], [a1, a0]] 90)]⟩)) o
noncomputable def sat_Least.c2x (o : Unit ⊕ (Bool × (Bool × (Int × Int)))) : Ex := (fun o => two o (fun _ => .ret) (fun _ => (.exit 2))) o
noncomputable def sat_Least.c2n (o : Unit ⊕ (Bool × (Bool × (Int × Int)))) : Nat := (fun o => two o (fun _ => 1) (fun _ => 3)) o
theorem sat_Least.c2_ok (k : Nat) (a0 : (List V28)) (a1 : (List V28)) (v5 : Int) : ∀ (n : Nat) (v11 : Bool) (v12 : Int) (v13 : Bool) (v14 : Int) (v15 : Int), Owp (sat_Least.c2 k a0 a1 v5 n v11 v12 v13 v14 v15) fun o => LTriple PR (sat_Least.cx k) (sub sat_Least.code [1, 1, 1, 1, 0, 1, 0, 0, 1, 1, 0, 0, 1, 1, 0, 0]) 4 (sat_Least.c2p a0 a1 v5 v11 v12 v13 v14 v15) (sat_Least.c2x o) (sat_Least.c2n o) (sat_Least.c2q a0 a1 v5 o)
  | 0, _, _, _, _, _ => fun _ h => nomatch h
  | n + 1, v11, v12, v13, v14, v15 => Owp.of (sat_Least.c2.eq_2 ..) (
   Owp.bif (fun e16 =>
   Owp.bnd fun y17 e18 =>
    Owp.bif (fun e19 =>
    Owp.some (loop_exit (sat_Least.cok k) hmix [.dec true, .res (.one (.dp T2)) y17, .dec true] [] [(0, 0)] exne_ret (via (finP (And.intro (And.intro (And.intro (And.intro (And.intro (And.intro (And.intro trivial e16) (by decide : inR (0 : Int) 2)) (by decide : inR (0 : Int) 2)) (by decide : inR (1 : Int) 2)) (by decide : inR (1 : Int) 2)) e18) e19) .ret [(0, 0)] (sat_Least.c2q a0 a1 v5 (.inl ()))) (by kernel_rfl)))) (fun e19 =>
    Owp.bnd fun y20 e21 =>
     Owp.bnd fun y22 e23 =>
     Owp.bnd fun y24 e25 =>
     Owp.bnd fun y26 e27 =>
     Owp.bnd fun o29 e30 =>
     Owp.bif (fun e31 =>
     fun y hy => loop_back (sat_Least.cok k) hmix 4 (sat_Least.c2p a0 a1 v5 true (iadd .i64 v12 (1 : Int)) (ieq v5 (1 : Int)) v12 y26.1) [.dec true, .res (.one (.dp T2)) y17, .dec false, .res (.one (.dp T28)) y20, .res (.one (.dp T63)) y22, .res (.one (.dp T2)) y24, .res (.more (.dp T2) (.one (.dp T2))) y26, .cutR 17 ⟨[], [(0, 0), (1, 1), (2, 2), (3, 3)], (sat_Least.c3p a0 a1 v5 v11 v12 v13 v14 v15 y26), 4, .normal, (sat_Least.c3q a0 a1 v5 v11 v12 v13 v14 v15 y26 o29), 4⟩, .dec true] [] [(0, 0), (1, 1), (2, 2), (3, 3)] (via (cutP (And.intro (And.intro (And.intro (And.intro (And.intro (And.intro (And.intro (And.intro (And.intro (And.intro (And.intro (And.intro (And.intro trivial e16) (by decide : inR (0 : Int) 2)) (by decide : inR (0 : Int) 2)) (by decide : inR (1 : Int) 2)) (by decide : inR (1 : Int) 2)) e18) e19) (by decide : inR (0 : Int) 2)) (by decide : inR (0 : Int) 2)) e21) e23) e25) e27) [(0, 0), (1, 1), (2, 2), (3, 3)] (sat_Least.c3p a0 a1 v5 v11 v12 v13 v14 v15 y26) (((sat_Least.c3_ok k a0 a1 v5 v11 v12 v13 v14 v15 y26).ap e30)) (finP (And.intro trivial e31) .normal [(0, 0), (1, 1), (2, 2), (3, 3)] (sat_Least.c2p a0 a1 v5 true (iadd .i64 v12 (1 : Int)) (ieq v5 (1 : Int)) v12 y26.1))) (by kernel_rfl)) ((sat_Least.c2_ok k a0 a1 v5 n true (iadd .i64 v12 (1 : Int)) (ieq v5 (1 : Int)) v12 y26.1).ap hy)) (fun e31 =>
     fun y hy => loop_back (sat_Least.cok k) hmix 4 (sat_Least.c2p a0 a1 v5 v11 (iadd .i64 v12 (1 : Int)) v13 v14 v15) [.dec true, .res (.one (.dp T2)) y17, .dec false, .res (.one (.dp T28)) y20, .res (.one (.dp T63)) y22, .res (.one (.dp T2)) y24, .res (.more (.dp T2) (.one (.dp T2))) y26, .cutR 17 ⟨[], [(0, 0), (1, 1), (2, 2), (3, 3)], (sat_Least.c3p a0 a1 v5 v11 v12 v13 v14 v15 y26), 4, .normal, (sat_Least.c3q a0 a1 v5 v11 v12 v13 v14 v15 y26 o29), 4⟩, .dec false] [] [(0, 0), (1, 1), (2, 2), (3, 3)] (via (cutP (And.intro (And.intro (And.intro (And.intro (And.intro (And.intro (And.intro (And.intro (And.intro (And.intro (And.intro (And.intro (And.intro trivial e16) (by decide : inR (0 : Int) 2)) (by decide : inR (0 : Int) 2)) (by decide : inR (1 : Int) 2)) (by decide : inR (1 : Int) 2)) e18) e19) (by decide : inR (0 : Int) 2)) (by decide : inR (0 : Int) 2)) e21) e23) e25) e27) [(0, 0), (1, 1), (2, 2), (3, 3)] (sat_Least.c3p a0 a1 v5 v11 v12 v13 v14 v15 y26) (((sat_Least.c3_ok k a0 a1 v5 v11 v12 v13 v14 v15 y26).ap e30)) (finP (And.intro trivial e31) .normal [(0, 0), (1, 1), (2, 2), (3, 3)] (sat_Least.c2p a0 a1 v5 v11 (iadd .i64 v12 (1 : Int)) v13 v14 v15))) (by kernel_rfl)) ((sat_Least.c2_ok k a0 a1 v5 n v11 (iadd .i64 v12 (1 : Int)) v13 v14 v15).ap hy)))) (fun e16 =>
   Owp.some (loop_exit (sat_Least.cok k) hmix [.dec false] [] [(0, 0), (1, 1), (2, 3)] (exne 2) (via (finP (And.intro trivial e16) (.exit 2) [(0, 0), (1, 1), (2, 3)] (sat_Least.c2q a0 a1 v5 (.inr (v11, v13, v14, v15)))) (by kernel_rfl)))))
noncomputable def sat_Least.c1p (a0 : (List V28)) (a1 : (List V28)) (v4 : Bool) (v5 : Int) (v6 : Bool) (v7 : Int) (v8 : Int) : SL := ⟨[(4, (.val .ptr ⟨0, 0, (0 : Int), 0, 0⟩)), (8, (.val .ptr ⟨1, 0, (0 : Int), 0, 0⟩)), (9, (.val T4 v4)), (30, (.val .own (2 : Nat))), (31, (.val T2 (len [[a0, a1], [a1, a0]]))), (32, (.val T2 v5))], [(0, .cells (.pair T4 T28) (false, (0 : Int), (0 : Int), ())), (1, .cells (.pair T4 T28) (v6, v7, v8, ())), (2, .row (.arr 2 T23) [[a0, a1], [a1, a0]] 90)]⟩
noncomputable def sat_Least.c1q (o : Unit ⊕ (Bool × (Int × Int))) : SL := (fun o => two o (fun v => ⟨[(4, (.val .ptr ⟨0, 0, (0 : Int), 0, 0⟩)), (5, (.val T4 false)), (6, (.val T2 (0 : Int)))], [(0, .cells (.pair T4 T28) (false, (0 : Int), (0 : Int), ()))]⟩) (fun v => ⟨[(4, (.val .ptr ⟨0, 0, (0 : Int), 0, 0⟩)), (8, (.val .ptr ⟨1, 0, (0 : Int), 0, 0⟩))], [(0, .cells (.pair T4 T28) (false, (0 : Int), (0 : Int), ())), (1, .cells (.pair T4 T28) (v.1, v.2.1, v.2.2, ()))]⟩)) o
noncomputable def sat_Least.c1x (o : Unit ⊕ (Bool × (Int × Int))) : Ex := (fun o => two o (fun _ => .ret) (fun _ => (.exit 0))) o
noncomputable def sat_Least.c1n (o : Unit ⊕ (Bool × (Int × Int))) : Nat := (fun o => two o (fun _ => 1) (fun _ => 2)) o
theorem sat_Least.c1_ok (k : Nat) (a0 : (List V28)) (a1 : (List V28)) : ∀ (n : Nat) (v4 : Bool) (v5 : Int) (v6 : Bool) (v7 : Int) (v8 : Int), Owp (sat_Least.c1 k a0 a1 n v4 v5 v6 v7 v8) fun o => LTriple PR (sat_Least.cx k) (sub sat_Least.code [1, 1, 1, 1, 0, 1, 0, 0]) 3 (sat_Least.c1p a0 a1 v4 v5 v6 v7 v8) (sat_Least.c1x o) (sat_Least.c1n o) (sat_Least.c1q o)
  | 0, _, _, _, _, _ => fun _ h => nomatch h
  | n + 1, v4, v5, v6, v7, v8 => Owp.of (sat_Least.c1.eq_2 ..) (
   Owp.bif (fun e9 =>
   Owp.req fun h10 =>
    Owp.bnd fun o32 e33 =>
    Owp.two (fun y34 e35 =>
    Owp.some (loop_exit (sat_Least.cok k) hmix [.dec true, .cut ⟨[], [(0, 0), (1, 1), (2, 7), (3, 2)], (sat_Least.c2p a0 a1 v5 v4 (0 : Int) v6 v7 v8), 4, .ret, (sat_Least.c2q a0 a1 v5 (.inl ())), 1⟩] [] [(0, 0)] exne_ret (via (cutP (And.intro (And.intro (And.intro (And.intro (And.intro trivial e9) h10) h10) (by decide : inR (0 : Int) 2)) (by decide : inR (0 : Int) 2)) [(0, 0), (1, 1), (2, 7), (3, 2)] (sat_Least.c2p a0 a1 v5 v4 (0 : Int) v6 v7 v8) (((sat_Least.c2_ok k a0 a1 v5 k v4 (0 : Int) v6 v7 v8).ap (e33.trans (congrArg some e35))).triple) (finP trivial .ret [(0, 0)] (sat_Least.c1q (.inl ())))) (by kernel_rfl)))) (fun y36 e37 =>
    fun y hy => loop_back (sat_Least.cok k) hmix 3 (sat_Least.c1p a0 a1 y36.1 (iadd .i64 v5 (1 : Int)) y36.2.1 y36.2.2.1 y36.2.2.2) [.dec true, .cut ⟨[], [(0, 0), (1, 1), (2, 7), (3, 2)], (sat_Least.c2p a0 a1 v5 v4 (0 : Int) v6 v7 v8), 4, (.exit 2), (sat_Least.c2q a0 a1 v5 (.inr y36)), 3⟩] [] [(0, 0), (1, 1), (2, 2)] (via (cutP (And.intro (And.intro (And.intro (And.intro (And.intro trivial e9) h10) h10) (by decide : inR (0 : Int) 2)) (by decide : inR (0 : Int) 2)) [(0, 0), (1, 1), (2, 7), (3, 2)] (sat_Least.c2p a0 a1 v5 v4 (0 : Int) v6 v7 v8) (((sat_Least.c2_ok k a0 a1 v5 k v4 (0 : Int) v6 v7 v8).ap (e33.trans (congrArg some e37))).triple) (finP trivial .normal [(0, 0), (1, 1), (2, 2)] (sat_Least.c1p a0 a1 y36.1 (iadd .i64 v5 (1 : Int)) y36.2.1 y36.2.2.1 y36.2.2.2))) (by kernel_rfl)) ((sat_Least.c1_ok k a0 a1 n y36.1 (iadd .i64 v5 (1 : Int)) y36.2.1 y36.2.2.1 y36.2.2.2).ap hy))) (fun e9 =>
   Owp.some (loop_exit (sat_Least.cok k) hmix [.dec false] [] [(0, 0), (1, 1)] (exne 0) (via (finP (And.intro trivial e9) (.exit 0) [(0, 0), (1, 1)] (sat_Least.c1q (.inr (v6, v7, v8)))) (by kernel_rfl)))))
theorem sat_Least.way (k : Nat) (a0 : (List V28)) (a1 : (List V28)) : Owp (sat_Least k a0 a1) fun y => ∃ answers cmds, exec PR (sat_Least.cx k) sat_Least.code 0 (entry (.pair T23 (.pair T23 .unit)) (a0, a1, ())).st answers (Ret (sat_Least.cx k) Try.f21 cmds (.more (.dp (.pair T4 T28)) (.more (.dp T4) (.one (.dp T2)))) y) := by
  unfold sat_Least; exact
   Owp.bnd fun y1 e2 =>
   Owp.bif (fun e3 =>
   Owp.some (⟨[.res (.one (.dp T2)) y1, .dec true], [], via (retP (And.intro (And.intro trivial e2) e3) (.more (.dp (.pair T4 T28)) (.more (.dp T4) (.one (.dp T2)))) (((false, (0 : Int), (0 : Int), ()), false, y1) : ((Bool × V28) × (Bool × Int)))) (by kernel_rfl)⟩)) (fun e3 =>
   Owp.bnd fun o38 e39 =>
    Owp.two (fun y40 e41 =>
    Owp.some (⟨[.res (.one (.dp T2)) y1, .dec false, .dec true, .cut ⟨[], [(0, 0), (1, 9), (2, 17)], (sat_Least.c1p a0 a1 false (0 : Int) false (0 : Int) (0 : Int)), 3, .ret, (sat_Least.c1q (.inl ())), 1⟩], [], via (cutP (And.intro (And.intro trivial e2) e3) [(0, 0), (1, 9), (2, 17)] (sat_Least.c1p a0 a1 false (0 : Int) false (0 : Int) (0 : Int)) (((sat_Least.c1_ok k a0 a1 k false (0 : Int) false (0 : Int) (0 : Int)).ap (e39.trans (congrArg some e41))).triple) (retP trivial (.more (.dp (.pair T4 T28)) (.more (.dp T4) (.one (.dp T2)))) (((false, (0 : Int), (0 : Int), ()), false, (0 : Int)) : ((Bool × V28) × (Bool × Int))))) (by kernel_rfl)⟩)) (fun y42 e43 =>
    Owp.some (⟨[.res (.one (.dp T2)) y1, .dec false, .dec true, .cut ⟨[], [(0, 0), (1, 9), (2, 17)], (sat_Least.c1p a0 a1 false (0 : Int) false (0 : Int) (0 : Int)), 3, (.exit 0), (sat_Least.c1q (.inr y42)), 2⟩], [], via (cutP (And.intro (And.intro trivial e2) e3) [(0, 0), (1, 9), (2, 17)] (sat_Least.c1p a0 a1 false (0 : Int) false (0 : Int) (0 : Int)) (((sat_Least.c1_ok k a0 a1 k false (0 : Int) false (0 : Int) (0 : Int)).ap (e39.trans (congrArg some e43))).triple) (retP trivial (.more (.dp (.pair T4 T28)) (.more (.dp T4) (.one (.dp T2)))) (((y42.1, y42.2.1, y42.2.2, ()), true, (0 : Int)) : ((Bool × V28) × (Bool × Int))))) (by kernel_rfl)⟩)))
theorem sat_Least.ok (k : Nat) : FnOk PR 21 (sat_Least.sp k) :=
  fn_ok (sat_Least.cok k) hmix Try.func21 (code := sat_Least.code) (by kernel_rfl) (by kernel_rfl) (by kernel_rfl) rfl (by kernel_rfl) (by kernel_rfl) (by kernel_rfl) (fun x => Nat.le_of_ble_eq_true (by kernel_rfl)) fun x y hy => (sat_Least.way k x.1 x.2.1).ap hy

/-! tourney/sat.Test -/
noncomputable def sat_Test.code : Code := Func.cd Try.f7
def sat_Test.c1 (k : Nat) (y1 : ((Bool × V28) × (Bool × Int))) : Option (Bool) :=
  bif' (ine y1.2.2 0)
  (some true)
  (some (!y1.2.1))
def sat_Test (k : Nat) (a0 : (List V28)) (a1 : (List V28)) : Option (Bool × (Int × V28)) :=
  bnd (sat_Least k a0 a1) fun y1 =>
  bnd (sat_Test.c1 k y1) fun o4 =>
  bif' o4
  (some (false, 0, (0, 0, ())))
  (bif' y1.1.1
   (bnd (sat_Normal k a1 y1.1.2.1) fun y8 =>
    bnd (vec_Unit k ((ineg .i64 y8.1), (ineg .i64 y8.2.1), ())) fun y10 =>
    some (true, y1.1.2.2.1, y10))
   (bnd (sat_Normal k a0 y1.1.2.1) fun y12 =>
    bnd (vec_Unit k y12) fun y14 =>
    some (true, y1.1.2.2.1, y14)))
noncomputable def sat_Test.sp (k : Nat) : Go.Sx.Spec := ⟨(.pair T23 (.pair T23 .unit)), (.more (.dp T4) (.more (.dp T2) (.one (.dp T28)))), fun x => sat_Test k x.1 x.2.1, false⟩
noncomputable def sat_Test.cx (k : Nat) : Go.Sx.Ctx := ⟨tys, [(21, sat_Least.sp k), (22, sat_Normal.sp k), (32, vec_Unit.sp k)], eqs, 48, false⟩
theorem sat_Test.cok (k : Nat) : CtxOk PR (sat_Test.cx k) := ctx_ok tysOk eqsOk (FnsOk.cons (sat_Least.ok k) (FnsOk.cons (sat_Normal.ok k) (FnsOk.cons (vec_Unit.ok k) FnsOk.nil)))
noncomputable def sat_Test.c1p (a0 : (List V28)) (a1 : (List V28)) (y1 : ((Bool × V28) × (Bool × Int))) : SL := ⟨[(0, (.val T23 a0)), (1, (.val T23 a1)), (6, (.val .ptr ⟨0, 0, (0 : Int), 0, 0⟩)), (7, (.val .ptr ⟨1, 0, (0 : Int), 0, 0⟩)), (8, (.val T4 y1.2.1)), (9, (.val T2 y1.2.2))], [(0, .cells T28 ((0 : Int), (0 : Int), ())), (1, .cells (.pair T4 T28) y1.1)]⟩
noncomputable def sat_Test.c1q (a0 : (List V28)) (a1 : (List V28)) (y1 : ((Bool × V28) × (Bool × Int))) (o : Bool) : SL := (fun v => ⟨[(0, (.val T23 a0)), (1, (.val T23 a1)), (6, (.val .ptr ⟨0, 0, (0 : Int), 0, 0⟩)), (7, (.val .ptr ⟨1, 0, (0 : Int), 0, 0⟩)), (23, (.val T4 v))], [(0, .cells T28 ((0 : Int), (0 : Int), ())), (1, .cells (.pair T4 T28) y1.1)]⟩) o
noncomputable def sat_Test.c1x (o : Bool) : Ex := (fun _ => .normal) o
noncomputable def sat_Test.c1n (o : Bool) : Nat := (fun _ => 2) o
theorem sat_Test.c1_ok (k : Nat) (a0 : (List V28)) (a1 : (List V28)) (y1 : ((Bool × V28) × (Bool × Int))) : Owp (sat_Test.c1 k y1) fun o => Triple PR (sat_Test.cx k) (sub sat_Test.code [1, 1, 0, 0]) 2 (sat_Test.c1p a0 a1 y1) (sat_Test.c1x o) (sat_Test.c1n o) (sat_Test.c1q a0 a1 y1 o) := by
  unfold sat_Test.c1; exact
   Owp.bif (fun e3 =>
   Owp.some (triple_way (sat_Test.cok k) hmix [.dec true, .dec true, .dec true] [] [(0, 0), (1, 1)] (via (finP (And.intro (And.intro (And.intro trivial e3) e3) e3) .normal [(0, 0), (1, 1)] (sat_Test.c1q a0 a1 y1 true)) (by kernel_rfl)))) (fun e3 =>
   Owp.some (triple_way (sat_Test.cok k) hmix [.dec false, .dec false, .dec false] [] [(0, 0), (1, 1)] (via (finP (And.intro (And.intro (And.intro trivial e3) e3) e3) .normal [(0, 0), (1, 1)] (sat_Test.c1q a0 a1 y1 (!y1.2.1))) (by kernel_rfl))))
theorem sat_Test.way (k : Nat) (a0 : (List V28)) (a1 : (List V28)) : Owp (sat_Test k a0 a1) fun y => ∃ answers cmds, exec PR (sat_Test.cx k) sat_Test.code 0 (entry (.pair T23 (.pair T23 .unit)) (a0, a1, ())).st answers (Ret (sat_Test.cx k) Try.f7 cmds (.more (.dp T4) (.more (.dp T2) (.one (.dp T28)))) y) := by
  unfold sat_Test; exact
   Owp.bnd fun y1 e2 =>
   Owp.bnd fun o4 e5 =>
   Owp.bif (fun e6 =>
   Owp.some (⟨[.res (.more (.dp (.pair T4 T28)) (.more (.dp T4) (.one (.dp T2)))) y1, .cutR 2 ⟨[], [(0, 2), (1, 10)], (sat_Test.c1p a0 a1 y1), 2, .normal, (sat_Test.c1q a0 a1 y1 o4), 2⟩, .dec true], [], via (cutP (And.intro trivial e2) [(0, 2), (1, 10)] (sat_Test.c1p a0 a1 y1) (((sat_Test.c1_ok k a0 a1 y1).ap e5)) (retP (And.intro trivial e6) (.more (.dp T4) (.more (.dp T2) (.one (.dp T28)))) ((false, (0 : Int), ((0 : Int), (0 : Int), ())) : (Bool × (Int × V28))))) (by kernel_rfl)⟩)) (fun e6 =>
   Owp.bif (fun e7 =>
    Owp.bnd fun y8 e9 =>
     Owp.bnd fun y10 e11 =>
     Owp.some (⟨[.res (.more (.dp (.pair T4 T28)) (.more (.dp T4) (.one (.dp T2)))) y1, .cutR 2 ⟨[], [(0, 2), (1, 10)], (sat_Test.c1p a0 a1 y1), 2, .normal, (sat_Test.c1q a0 a1 y1 o4), 2⟩, .dec false, .dec true, .res (.one (.dp T28)) y8, .res (.one (.dp T28)) y10], [], via (cutP (And.intro trivial e2) [(0, 2), (1, 10)] (sat_Test.c1p a0 a1 y1) (((sat_Test.c1_ok k a0 a1 y1).ap e5)) (retP (And.intro (And.intro (And.intro (And.intro trivial e6) e7) e9) e11) (.more (.dp T4) (.more (.dp T2) (.one (.dp T28)))) ((true, y1.1.2.2.1, y10) : (Bool × (Int × V28))))) (by kernel_rfl)⟩)) (fun e7 =>
    Owp.bnd fun y12 e13 =>
     Owp.bnd fun y14 e15 =>
     Owp.some (⟨[.res (.more (.dp (.pair T4 T28)) (.more (.dp T4) (.one (.dp T2)))) y1, .cutR 2 ⟨[], [(0, 2), (1, 10)], (sat_Test.c1p a0 a1 y1), 2, .normal, (sat_Test.c1q a0 a1 y1 o4), 2⟩, .dec false, .dec false, .res (.one (.dp T28)) y12, .res (.one (.dp T28)) y14], [], via (cutP (And.intro trivial e2) [(0, 2), (1, 10)] (sat_Test.c1p a0 a1 y1) (((sat_Test.c1_ok k a0 a1 y1).ap e5)) (retP (And.intro (And.intro (And.intro (And.intro trivial e6) e7) e13) e15) (.more (.dp T4) (.more (.dp T2) (.one (.dp T28)))) ((true, y1.1.2.2.1, y14) : (Bool × (Int × V28))))) (by kernel_rfl)⟩)))
theorem sat_Test.ok (k : Nat) : FnOk PR 7 (sat_Test.sp k) :=
  fn_ok (sat_Test.cok k) hmix Try.func7 (code := sat_Test.code) (by kernel_rfl) (by kernel_rfl) (by kernel_rfl) rfl (by kernel_rfl) (by kernel_rfl) (by kernel_rfl) (fun x => Nat.le_of_ble_eq_true (by kernel_rfl)) fun x y hy => (sat_Test.way k x.1 x.2.1).ap hy

/-! tourney/tourkeep2.square -/
noncomputable def tourkeep2_square.code : Code := Func.cd Try.f8
def tourkeep2_square (k : Nat) (a0 : Int) (a1 : Int) (a2 : Int) : Option (List V28) :=
  some [((isub .i64 (imul .i64 a0 65536) (imul .i64 a2 65536)), (isub .i64 (imul .i64 a1 65536) (imul .i64 a2 65536)), ()), ((iadd .i64 (imul .i64 a0 65536) (imul .i64 a2 65536)), (isub .i64 (imul .i64 a1 65536) (imul .i64 a2 65536)), ()), ((iadd .i64 (imul .i64 a0 65536) (imul .i64 a2 65536)), (iadd .i64 (imul .i64 a1 65536) (imul .i64 a2 65536)), ()), ((isub .i64 (imul .i64 a0 65536) (imul .i64 a2 65536)), (iadd .i64 (imul .i64 a1 65536) (imul .i64 a2 65536)), ())]
noncomputable def tourkeep2_square.sp (k : Nat) : Go.Sx.Spec := ⟨(.pair T2 T28), (.one (.ow T28 29)), fun x => tourkeep2_square k x.1 x.2.1 x.2.2.1, false⟩
noncomputable def tourkeep2_square.cx (k : Nat) : Go.Sx.Ctx := ⟨tys, [], eqs, 42, false⟩
theorem tourkeep2_square.cok (k : Nat) : CtxOk PR (tourkeep2_square.cx k) := ctx_ok tysOk eqsOk FnsOk.nil
theorem tourkeep2_square.way (k : Nat) (a0 : Int) (a1 : Int) (a2 : Int) : Owp (tourkeep2_square k a0 a1 a2) fun y => ∃ answers cmds, exec PR (tourkeep2_square.cx k) tourkeep2_square.code 0 (entry (.pair T2 T28) (a0, a1, a2, ())).st answers (Ret (tourkeep2_square.cx k) Try.f8 cmds (.one (.ow T28 29)) y) := by
  unfold tourkeep2_square; exact
   Owp.some (⟨[.dec true], [], via (retP trivial (.one (.ow T28 29)) ([((isub .i64 (imul .i64 a0 (65536 : Int)) (imul .i64 a2 (65536 : Int))), (isub .i64 (imul .i64 a1 (65536 : Int)) (imul .i64 a2 (65536 : Int))), ()), ((iadd .i64 (imul .i64 a0 (65536 : Int)) (imul .i64 a2 (65536 : Int))), (isub .i64 (imul .i64 a1 (65536 : Int)) (imul .i64 a2 (65536 : Int))), ()), ((iadd .i64 (imul .i64 a0 (65536 : Int)) (imul .i64 a2 (65536 : Int))), (iadd .i64 (imul .i64 a1 (65536 : Int)) (imul .i64 a2 (65536 : Int))), ()), ((isub .i64 (imul .i64 a0 (65536 : Int)) (imul .i64 a2 (65536 : Int))), (iadd .i64 (imul .i64 a1 (65536 : Int)) (imul .i64 a2 (65536 : Int))), ())] : (List V28))) (by kernel_rfl)⟩)
theorem tourkeep2_square.ok (k : Nat) : FnOk PR 8 (tourkeep2_square.sp k) :=
  fn_ok (tourkeep2_square.cok k) hmix Try.func8 (code := tourkeep2_square.code) (by kernel_rfl) (by kernel_rfl) (by kernel_rfl) rfl (by kernel_rfl) (by kernel_rfl) (by kernel_rfl) (fun x => Nat.le_of_ble_eq_true (by kernel_rfl)) fun x y hy => (tourkeep2_square.way k x.1 x.2.1 x.2.2.1).ap hy

end Go.Proofs.T1
