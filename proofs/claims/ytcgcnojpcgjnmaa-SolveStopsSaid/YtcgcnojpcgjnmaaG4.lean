import Derived.Test.YtcgcnojpcgjnmaaG0
import Derived.Test.YtcgcnojpcgjnmaaG1
import Derived.Test.YtcgcnojpcgjnmaaG2
import Derived.Test.YtcgcnojpcgjnmaaG3
namespace Go.Proofs.T1
open Go Go.Sx Go.Proofs
set_option maxRecDepth 100000
set_option linter.unusedVariables false
/-! tourney/tourmake.Poly -/
noncomputable def tourmake_Poly.code : Code := Func.cd Try.f134
def tourmake_Poly (k : Nat) (a0 : (List Int)) : Option (List V22) :=
  bnd (tourmake_poly k (a0, ())) fun y1 =>
  some y1.2
noncomputable def tourmake_Poly.sp (k : Nat) : Go.Sx.Spec := ⟨(.pair T49 .unit), (.one (.dp T24)), fun x => tourmake_Poly k x.1, false⟩
noncomputable def tourmake_Poly.cx (k : Nat) : Go.Sx.Ctx := ⟨tys, [(167, tourmake_poly.sp k)], eqs, 7, 0, [], false⟩
theorem tourmake_Poly.cok (k : Nat) : CtxOk PR (tourmake_Poly.cx k) := ctx_ok tysOk eqsOk (FnsOk.cons (tourmake_poly.ok k) FnsOk.nil) HsOk.nil
theorem tourmake_Poly.way (k : Nat) (a0 : (List Int)) : Owp (tourmake_Poly k a0) fun y => ∃ answers cmds, exec PR (tourmake_Poly.cx k) tourmake_Poly.code 0 (entry (.pair T49 .unit) (a0, ())).st answers (Ret (tourmake_Poly.cx k) Try.f134 cmds (.one (.dp T24)) y) := by
  unfold tourmake_Poly; exact
   Owp.bnd fun y1 e2 =>
   Owp.some (⟨[.res (.more (.dp (.pair T49 .unit)) (.one (.dp T24))) y1], [], via (retP (And.intro trivial e2) (.one (.dp T24)) (y1.2 : (List V22))) (by kernel_rfl)⟩)
theorem tourmake_Poly.ok (k : Nat) : FnOk PR 134 (tourmake_Poly.sp k) :=
  fn_ok (tourmake_Poly.cok k) hmix Try.func134 (code := tourmake_Poly.code) (by kernel_rfl) (by kernel_rfl) (by kernel_rfl) rfl rfl (by kernel_rfl) (by kernel_rfl) (by kernel_rfl) (fun x => Nat.le_of_ble_eq_true (by kernel_rfl)) fun x y hy => (tourmake_Poly.way k x.1).ap hy

/-! tourney/tourkeep2.place -/
noncomputable def tourkeep2_place.code : Code := Func.cd Try.f61
def tourkeep2_place (k : Nat) (a0 : Int) (a1 : Int) : Option V22 :=
  bnd (tourmake_Below k a0 1572864) fun y1 =>
  bnd (tourmake_Below k a1 1572864) fun y3 =>
  some ((isub .i64 y1 786432), (isub .i64 y3 786432), ())
noncomputable def tourkeep2_place.sp (k : Nat) : Go.Sx.Spec := ⟨T22, (.one (.dp T22)), fun x => tourkeep2_place k x.1 x.2.1, false⟩
noncomputable def tourkeep2_place.cx (k : Nat) : Go.Sx.Ctx := ⟨tys, [(57, tourmake_Below.sp k)], eqs, 12, 0, [], false⟩
theorem tourkeep2_place.cok (k : Nat) : CtxOk PR (tourkeep2_place.cx k) := ctx_ok tysOk eqsOk (FnsOk.cons (tourmake_Below.ok k) FnsOk.nil) HsOk.nil
theorem tourkeep2_place.way (k : Nat) (a0 : Int) (a1 : Int) : Owp (tourkeep2_place k a0 a1) fun y => ∃ answers cmds, exec PR (tourkeep2_place.cx k) tourkeep2_place.code 0 (entry T22 (a0, a1, ())).st answers (Ret (tourkeep2_place.cx k) Try.f61 cmds (.one (.dp T22)) y) := by
  unfold tourkeep2_place; exact
   Owp.bnd fun y1 e2 =>
   Owp.bnd fun y3 e4 =>
   Owp.some (⟨[.res (.one (.dp T2)) y1, .res (.one (.dp T2)) y3], [], via (retP (And.intro (And.intro trivial e2) e4) (.one (.dp T22)) (((isub .i64 y1 (786432 : Int)), (isub .i64 y3 (786432 : Int)), ()) : V22)) (by kernel_rfl)⟩)
theorem tourkeep2_place.ok (k : Nat) : FnOk PR 61 (tourkeep2_place.sp k) :=
  fn_ok (tourkeep2_place.cok k) hmix Try.func61 (code := tourkeep2_place.code) (by kernel_rfl) (by kernel_rfl) (by kernel_rfl) rfl rfl (by kernel_rfl) (by kernel_rfl) (by kernel_rfl) (fun x => Nat.le_of_ble_eq_true (by kernel_rfl)) fun x y hy => (tourkeep2_place.way k x.1 x.2.1).ap hy

/-! tourney/tourkeep2.moved -/
noncomputable def tourkeep2_moved.code : Code := Func.cd Try.f62
def tourkeep2_moved.c1 (k : Nat) (a0 : (List V22)) (a1 : V22) : Nat → Int → (List V22) → Option ((List V22))
  | 0, _, _ => none
  | n + 1, v1, v2 =>
   bif' (ilt v1 (len a0))
   (req (inL v1 a0) <|
    req (room 16 v2 [((iadd .i64 (el Z22 a0 v1).1 a1.1), (iadd .i64 (el Z22 a0 v1).2.1 a1.2.1), ())]) <|
    tourkeep2_moved.c1 k a0 a1 n (iadd .i64 v1 1) (v2 ++ [((iadd .i64 (el Z22 a0 v1).1 a1.1), (iadd .i64 (el Z22 a0 v1).2.1 a1.2.1), ())]))
   (some v2)
def tourkeep2_moved (k : Nat) (a0 : (List V22)) (a1 : V22) : Option (List V22) :=
  bnd (tourkeep2_moved.c1 k a0 a1 k 0 []) fun o6 =>
  some o6
noncomputable def tourkeep2_moved.sp (k : Nat) : Go.Sx.Spec := ⟨(.pair T24 (.pair T22 .unit)), (.one (.ow T22 23)), fun x => tourkeep2_moved k x.1 x.2.1, false⟩
noncomputable def tourkeep2_moved.cx (k : Nat) : Go.Sx.Ctx := ⟨tys, [], eqs, 30, 0, [], false⟩
theorem tourkeep2_moved.cok (k : Nat) : CtxOk PR (tourkeep2_moved.cx k) := ctx_ok tysOk eqsOk FnsOk.nil HsOk.nil
noncomputable def tourkeep2_moved.c1p (a0 : (List V22)) (a1 : V22) (v1 : Int) (v2 : (List V22)) : SL := ⟨[(3, (.val .ptr ⟨0, 0, (0 : Int), 0, 0⟩)), (5, (.val .own (1 : Nat))), (8, (.val T24 a0)), (9, (.val T2 (len a0))), (10, (.val T2 v1))], [(0, .cells T22 a1), (1, .row T22 v2 23)]⟩
noncomputable def tourkeep2_moved.c1q (o : (List V22)) : SL := (fun v => ⟨[(5, (.val .own (0 : Nat)))], [(0, .row T22 v 23)]⟩) o
noncomputable def tourkeep2_moved.c1x (o : (List V22)) : Ex := (fun _ => (.exit 0)) o
noncomputable def tourkeep2_moved.c1n (o : (List V22)) : Nat := (fun _ => 1) o
theorem tourkeep2_moved.c1_ok (k : Nat) (a0 : (List V22)) (a1 : V22) : ∀ (n : Nat) (v1 : Int) (v2 : (List V22)), Owp (tourkeep2_moved.c1 k a0 a1 n v1 v2) fun o => LTriple PR (tourkeep2_moved.cx k) (sub tourkeep2_moved.code [1, 1, 0, 1, 0, 0]) 2 (tourkeep2_moved.c1p a0 a1 v1 v2) (tourkeep2_moved.c1x o) (tourkeep2_moved.c1n o) (tourkeep2_moved.c1q o)
  | 0, _, _ => fun _ h => nomatch h
  | n + 1, v1, v2 => Owp.of (tourkeep2_moved.c1.eq_2 ..) (
   Owp.bif (fun e3 =>
   Owp.req fun h4 =>
    Owp.req fun h5 =>
    fun y hy => loop_back (tourkeep2_moved.cok k) hmix 2 (tourkeep2_moved.c1p a0 a1 (iadd .i64 v1 (1 : Int)) (v2 ++ [((iadd .i64 (el Z22 a0 v1).1 a1.1), (iadd .i64 (el Z22 a0 v1).2.1 a1.2.1), ())])) [.dec true, .dec true] [] [(0, 0), (1, 20)] (via (finP (And.intro (And.intro (And.intro trivial e3) h4) h5) .normal [(0, 0), (1, 20)] (tourkeep2_moved.c1p a0 a1 (iadd .i64 v1 (1 : Int)) (v2 ++ [((iadd .i64 (el Z22 a0 v1).1 a1.1), (iadd .i64 (el Z22 a0 v1).2.1 a1.2.1), ())]))) (by kernel_rfl)) ((tourkeep2_moved.c1_ok k a0 a1 n (iadd .i64 v1 (1 : Int)) (v2 ++ [((iadd .i64 (el Z22 a0 v1).1 a1.1), (iadd .i64 (el Z22 a0 v1).2.1 a1.2.1), ())])).ap hy)) (fun e3 =>
   Owp.some (loop_exit (tourkeep2_moved.cok k) hmix [.dec false] [] [(0, 1)] (exne 0) (via (finP (And.intro trivial e3) (.exit 0) [(0, 1)] (tourkeep2_moved.c1q v2)) (by kernel_rfl)))))
theorem tourkeep2_moved.way (k : Nat) (a0 : (List V22)) (a1 : V22) : Owp (tourkeep2_moved k a0 a1) fun y => ∃ answers cmds, exec PR (tourkeep2_moved.cx k) tourkeep2_moved.code 0 (entry (.pair T24 (.pair T22 .unit)) (a0, a1, ())).st answers (Ret (tourkeep2_moved.cx k) Try.f62 cmds (.one (.ow T22 23)) y) := by
  unfold tourkeep2_moved; exact
   Owp.bnd fun o6 e7 =>
   Owp.some (⟨[.cut ⟨[.own 5 T22 23], [(0, 0), (1, 6)], (tourkeep2_moved.c1p a0 a1 (0 : Int) []), 2, (.exit 0), (tourkeep2_moved.c1q o6), 1⟩], [], via (cutP trivial [(0, 0), (1, 6)] (tourkeep2_moved.c1p a0 a1 (0 : Int) []) (((tourkeep2_moved.c1_ok k a0 a1 k (0 : Int) []).ap e7).triple) (retP trivial (.one (.ow T22 23)) (o6 : (List V22)))) (by kernel_rfl)⟩)
theorem tourkeep2_moved.ok (k : Nat) : FnOk PR 62 (tourkeep2_moved.sp k) :=
  fn_ok (tourkeep2_moved.cok k) hmix Try.func62 (code := tourkeep2_moved.code) (by kernel_rfl) (by kernel_rfl) (by kernel_rfl) rfl rfl (by kernel_rfl) (by kernel_rfl) (by kernel_rfl) (fun x => Nat.le_of_ble_eq_true (by kernel_rfl)) fun x y hy => (tourkeep2_moved.way k x.1 x.2.1).ap hy

/-! tourney/tourkeep2.pair -/
noncomputable def tourkeep2_pair.code : Code := Func.cd Try.f60
def tourkeep2_pair (k : Nat) (a0 : (List Int)) (a1 : (List Int)) (a2 : Int) (a3 : Int) : Option ((List V22) × (List V22)) :=
  bnd (tourmake_Poly k a0) fun y1 =>
  bnd (tourmake_Poly k a1) fun y3 =>
  bnd (tourkeep2_place k a2 a3) fun y5 =>
  bnd (tourkeep2_moved k y3 y5) fun y7 =>
  some (y1, y7)
noncomputable def tourkeep2_pair.sp (k : Nat) : Go.Sx.Spec := ⟨(.pair T49 (.pair T49 T22)), (.more (.dp T24) (.one (.ow T22 23))), fun x => tourkeep2_pair k x.1 x.2.1 x.2.2.1 x.2.2.2.1, false⟩
noncomputable def tourkeep2_pair.cx (k : Nat) : Go.Sx.Ctx := ⟨tys, [(134, tourmake_Poly.sp k), (61, tourkeep2_place.sp k), (62, tourkeep2_moved.sp k)], eqs, 18, 0, [], false⟩
theorem tourkeep2_pair.cok (k : Nat) : CtxOk PR (tourkeep2_pair.cx k) := ctx_ok tysOk eqsOk (FnsOk.cons (tourmake_Poly.ok k) (FnsOk.cons (tourkeep2_place.ok k) (FnsOk.cons (tourkeep2_moved.ok k) FnsOk.nil))) HsOk.nil
theorem tourkeep2_pair.way (k : Nat) (a0 : (List Int)) (a1 : (List Int)) (a2 : Int) (a3 : Int) : Owp (tourkeep2_pair k a0 a1 a2 a3) fun y => ∃ answers cmds, exec PR (tourkeep2_pair.cx k) tourkeep2_pair.code 0 (entry (.pair T49 (.pair T49 T22)) (a0, a1, a2, a3, ())).st answers (Ret (tourkeep2_pair.cx k) Try.f60 cmds (.more (.dp T24) (.one (.ow T22 23))) y) := by
  unfold tourkeep2_pair; exact
   Owp.bnd fun y1 e2 =>
   Owp.bnd fun y3 e4 =>
   Owp.bnd fun y5 e6 =>
   Owp.bnd fun y7 e8 =>
   Owp.some (⟨[.res (.one (.dp T24)) y1, .res (.one (.dp T24)) y3, .res (.one (.dp T22)) y5, .res (.one (.ow T22 23)) y7], [], via (retP (And.intro (And.intro (And.intro (And.intro trivial e2) e4) e6) e8) (.more (.dp T24) (.one (.ow T22 23))) ((y1, y7) : ((List V22) × (List V22)))) (by kernel_rfl)⟩)
theorem tourkeep2_pair.ok (k : Nat) : FnOk PR 60 (tourkeep2_pair.sp k) :=
  fn_ok (tourkeep2_pair.cok k) hmix Try.func60 (code := tourkeep2_pair.code) (by kernel_rfl) (by kernel_rfl) (by kernel_rfl) rfl rfl (by kernel_rfl) (by kernel_rfl) (by kernel_rfl) (fun x => Nat.le_of_ble_eq_true (by kernel_rfl)) fun x y hy => (tourkeep2_pair.way k x.1 x.2.1 x.2.2.1 x.2.2.2.1).ap hy

/-! tourney/sat.both -/
noncomputable def sat_both.code : Code := Func.cd Try.f94
def sat_both (k : Nat) (a0 : (List V22)) (a1 : (List V22)) : Option Int :=
  bnd (poly_Check k a0) fun y1 =>
  bif' (ine y1 0)
  (some y1)
  (bnd (poly_Check k a1) fun y4 =>
   some y4)
noncomputable def sat_both.sp (k : Nat) : Go.Sx.Spec := ⟨(.pair T24 (.pair T24 .unit)), (.one (.dp T2)), fun x => sat_both k x.1 x.2.1, false⟩
noncomputable def sat_both.cx (k : Nat) : Go.Sx.Ctx := ⟨tys, [(39, poly_Check.sp k)], eqs, 13, 0, [], false⟩
theorem sat_both.cok (k : Nat) : CtxOk PR (sat_both.cx k) := ctx_ok tysOk eqsOk (FnsOk.cons (poly_Check.ok k) FnsOk.nil) HsOk.nil
theorem sat_both.way (k : Nat) (a0 : (List V22)) (a1 : (List V22)) : Owp (sat_both k a0 a1) fun y => ∃ answers cmds, exec PR (sat_both.cx k) sat_both.code 0 (entry (.pair T24 (.pair T24 .unit)) (a0, a1, ())).st answers (Ret (sat_both.cx k) Try.f94 cmds (.one (.dp T2)) y) := by
  unfold sat_both; exact
   Owp.bnd fun y1 e2 =>
   Owp.bif (fun e3 =>
   Owp.some (⟨[.res (.one (.dp T2)) y1, .dec true], [], via (retP (And.intro (And.intro trivial e2) e3) (.one (.dp T2)) (y1 : Int)) (by kernel_rfl)⟩)) (fun e3 =>
   Owp.bnd fun y4 e5 =>
    Owp.some (⟨[.res (.one (.dp T2)) y1, .dec false, .res (.one (.dp T2)) y4], [], via (retP (And.intro (And.intro (And.intro trivial e2) e3) e5) (.one (.dp T2)) (y4 : Int)) (by kernel_rfl)⟩))
theorem sat_both.ok (k : Nat) : FnOk PR 94 (sat_both.sp k) :=
  fn_ok (sat_both.cok k) hmix Try.func94 (code := sat_both.code) (by kernel_rfl) (by kernel_rfl) (by kernel_rfl) rfl rfl (by kernel_rfl) (by kernel_rfl) (by kernel_rfl) (fun x => Nat.le_of_ble_eq_true (by kernel_rfl)) fun x y hy => (sat_both.way k x.1 x.2.1).ap hy

/-! tourney/sat.Normal -/
noncomputable def sat_Normal.code : Code := Func.cd Try.f31
def sat_Normal.c1 (k : Nat) (a0 : (List V22)) (a1 : Int) : Option (Bool) :=
  bif' (ilt a1 0)
  (some true)
  (some (ige a1 (len a0)))
def sat_Normal (k : Nat) (a0 : (List V22)) (a1 : Int) : Option V22 :=
  bnd (sat_Normal.c1 k a0 a1) fun o2 =>
  bif' o2
  (some (0, 0, ()))
  (req (inL a1 a0) <|
   req (nz (len a0)) <|
   req (inL (irem (iadd .i64 a1 1) (len a0)) a0) <|
   some ((isub .i64 (el Z22 a0 (irem (iadd .i64 a1 1) (len a0))).2.1 (el Z22 a0 a1).2.1), (isub .i64 (el Z22 a0 a1).1 (el Z22 a0 (irem (iadd .i64 a1 1) (len a0))).1), ()))
noncomputable def sat_Normal.sp (k : Nat) : Go.Sx.Spec := ⟨(.pair T24 (.pair T2 .unit)), (.one (.dp T22)), fun x => sat_Normal k x.1 x.2.1, false⟩
noncomputable def sat_Normal.cx (k : Nat) : Go.Sx.Ctx := ⟨tys, [], eqs, 39, 0, [], false⟩
theorem sat_Normal.cok (k : Nat) : CtxOk PR (sat_Normal.cx k) := ctx_ok tysOk eqsOk FnsOk.nil HsOk.nil
noncomputable def sat_Normal.c1p (a0 : (List V22)) (a1 : Int) : SL := ⟨[(0, (.val T24 a0)), (1, (.val T2 a1)), (4, (.val .ptr ⟨0, 0, (0 : Int), 0, 0⟩))], [(0, .cells T22 ((0 : Int), (0 : Int), ()))]⟩
noncomputable def sat_Normal.c1q (a0 : (List V22)) (a1 : Int) (o : Bool) : SL := (fun v => ⟨[(0, (.val T24 a0)), (1, (.val T2 a1)), (4, (.val .ptr ⟨0, 0, (0 : Int), 0, 0⟩)), (14, (.val T4 v))], [(0, .cells T22 ((0 : Int), (0 : Int), ()))]⟩) o
noncomputable def sat_Normal.c1x (o : Bool) : Ex := (fun _ => .normal) o
noncomputable def sat_Normal.c1n (o : Bool) : Nat := (fun _ => 1) o
theorem sat_Normal.c1_ok (k : Nat) (a0 : (List V22)) (a1 : Int) : Owp (sat_Normal.c1 k a0 a1) fun o => Triple PR (sat_Normal.cx k) (sub sat_Normal.code [1, 0, 0]) 1 (sat_Normal.c1p a0 a1) (sat_Normal.c1x o) (sat_Normal.c1n o) (sat_Normal.c1q a0 a1 o) := by
  unfold sat_Normal.c1; exact
   Owp.bif (fun e1 =>
   Owp.some (triple_way (sat_Normal.cok k) hmix [.dec true, .dec true, .dec true, .dec true, .dec true] [] [(0, 0)] (via (finP (And.intro (And.intro (And.intro (And.intro (And.intro trivial e1) e1) e1) e1) e1) .normal [(0, 0)] (sat_Normal.c1q a0 a1 true)) (by kernel_rfl)))) (fun e1 =>
   Owp.some (triple_way (sat_Normal.cok k) hmix [.dec false, .dec false, .dec false, .dec false, .dec false] [] [(0, 0)] (via (finP (And.intro (And.intro (And.intro (And.intro (And.intro trivial e1) e1) e1) e1) e1) .normal [(0, 0)] (sat_Normal.c1q a0 a1 (ige a1 (len a0)))) (by kernel_rfl))))
theorem sat_Normal.way (k : Nat) (a0 : (List V22)) (a1 : Int) : Owp (sat_Normal k a0 a1) fun y => ∃ answers cmds, exec PR (sat_Normal.cx k) sat_Normal.code 0 (entry (.pair T24 (.pair T2 .unit)) (a0, a1, ())).st answers (Ret (sat_Normal.cx k) Try.f31 cmds (.one (.dp T22)) y) := by
  unfold sat_Normal; exact
   Owp.bnd fun o2 e3 =>
   Owp.bif (fun e4 =>
   Owp.some (⟨[.cutR 1 ⟨[], [(0, 0)], (sat_Normal.c1p a0 a1), 1, .normal, (sat_Normal.c1q a0 a1 o2), 1⟩, .dec true], [], via (cutP trivial [(0, 0)] (sat_Normal.c1p a0 a1) (((sat_Normal.c1_ok k a0 a1).ap e3)) (retP (And.intro trivial e4) (.one (.dp T22)) (((0 : Int), (0 : Int), ()) : V22))) (by kernel_rfl)⟩)) (fun e4 =>
   Owp.req fun h5 =>
    Owp.req fun h6 =>
    Owp.req fun h7 =>
    Owp.some (⟨[.cutR 1 ⟨[], [(0, 0)], (sat_Normal.c1p a0 a1), 1, .normal, (sat_Normal.c1q a0 a1 o2), 1⟩, .dec false], [], via (cutP trivial [(0, 0)] (sat_Normal.c1p a0 a1) (((sat_Normal.c1_ok k a0 a1).ap e3)) (retP (And.intro (And.intro (And.intro (And.intro trivial e4) h5) h6) h7) (.one (.dp T22)) (((isub .i64 (el Z22 a0 (irem (iadd .i64 a1 (1 : Int)) (len a0))).2.1 (el Z22 a0 a1).2.1), (isub .i64 (el Z22 a0 a1).1 (el Z22 a0 (irem (iadd .i64 a1 (1 : Int)) (len a0))).1), ()) : V22))) (by kernel_rfl)⟩))
theorem sat_Normal.ok (k : Nat) : FnOk PR 31 (sat_Normal.sp k) :=
  fn_ok (sat_Normal.cok k) hmix Try.func31 (code := sat_Normal.code) (by kernel_rfl) (by kernel_rfl) (by kernel_rfl) rfl rfl (by kernel_rfl) (by kernel_rfl) (by kernel_rfl) (fun x => Nat.le_of_ble_eq_true (by kernel_rfl)) fun x y hy => (sat_Normal.way k x.1 x.2.1).ap hy

/-! tourney/sat.deep -/
noncomputable def sat_deep.code : Code := Func.cd Try.f95
def sat_deep.c2 (k : Nat) (a0 : (List V22)) (a1 : (List V22)) (a2 : Int) (v3 : Int) (v4 : Int) (y1 : V22) : Option (Bool) :=
  bif' (ieq v4 0)
  (some true)
  (some (igt (iadd .i64 (imul .i64 y1.1 (isub .i64 (el Z22 a0 a2).1 (el Z22 a1 v4).1)) (imul .i64 y1.2.1 (isub .i64 (el Z22 a0 a2).2.1 (el Z22 a1 v4).2.1))) v3))
def sat_deep.c1 (k : Nat) (a0 : (List V22)) (a1 : (List V22)) (a2 : Int) (y1 : V22) : Nat → Int → Int → Option (Int)
  | 0, _, _ => none
  | n + 1, v3, v4 =>
   bif' (ilt v4 (len a1))
   (req (inL v4 a1) <|
    req (inL a2 a0) <|
    bnd (sat_deep.c2 k a0 a1 a2 v3 v4 y1) fun o9 =>
    bif' o9
    (sat_deep.c1 k a0 a1 a2 y1 n (iadd .i64 (imul .i64 y1.1 (isub .i64 (el Z22 a0 a2).1 (el Z22 a1 v4).1)) (imul .i64 y1.2.1 (isub .i64 (el Z22 a0 a2).2.1 (el Z22 a1 v4).2.1))) (iadd .i64 v4 1))
    (sat_deep.c1 k a0 a1 a2 y1 n v3 (iadd .i64 v4 1)))
   (some v3)
def sat_deep (k : Nat) (a0 : (List V22)) (a1 : (List V22)) (a2 : Int) : Option Int :=
  bnd (sat_Normal k a0 a2) fun y1 =>
  bnd (sat_deep.c1 k a0 a1 a2 y1 k 0 0) fun o12 =>
  some o12
noncomputable def sat_deep.sp (k : Nat) : Go.Sx.Spec := ⟨(.pair T24 (.pair T24 (.pair T2 .unit))), (.one (.dp T2)), fun x => sat_deep k x.1 x.2.1 x.2.2.1, false⟩
noncomputable def sat_deep.cx (k : Nat) : Go.Sx.Ctx := ⟨tys, [(31, sat_Normal.sp k)], eqs, 55, 0, [], false⟩
theorem sat_deep.cok (k : Nat) : CtxOk PR (sat_deep.cx k) := ctx_ok tysOk eqsOk (FnsOk.cons (sat_Normal.ok k) FnsOk.nil) HsOk.nil
noncomputable def sat_deep.c2p (a0 : (List V22)) (a1 : (List V22)) (a2 : Int) (v3 : Int) (v4 : Int) (y1 : V22) : SL := ⟨[(0, (.val T24 a0)), (2, (.val T2 a2)), (7, (.val .ptr ⟨0, 0, (0 : Int), 0, 0⟩)), (8, (.val T2 v3)), (9, (.val T2 v4)), (11, (.val T2 (iadd .i64 (imul .i64 y1.1 (isub .i64 (el Z22 a0 a2).1 (el Z22 a1 v4).1)) (imul .i64 y1.2.1 (isub .i64 (el Z22 a0 a2).2.1 (el Z22 a1 v4).2.1))))), (15, (.val T24 a1)), (16, (.val T2 (len a1))), (17, (.val T2 v4))], [(0, .cells T22 y1)]⟩
noncomputable def sat_deep.c2q (a0 : (List V22)) (a1 : (List V22)) (a2 : Int) (v3 : Int) (v4 : Int) (y1 : V22) (o : Bool) : SL := (fun v => ⟨[(0, (.val T24 a0)), (2, (.val T2 a2)), (7, (.val .ptr ⟨0, 0, (0 : Int), 0, 0⟩)), (8, (.val T2 v3)), (11, (.val T2 (iadd .i64 (imul .i64 y1.1 (isub .i64 (el Z22 a0 a2).1 (el Z22 a1 v4).1)) (imul .i64 y1.2.1 (isub .i64 (el Z22 a0 a2).2.1 (el Z22 a1 v4).2.1))))), (15, (.val T24 a1)), (16, (.val T2 (len a1))), (17, (.val T2 v4)), (51, (.val T4 v))], [(0, .cells T22 y1)]⟩) o
noncomputable def sat_deep.c2x (o : Bool) : Ex := (fun _ => .normal) o
noncomputable def sat_deep.c2n (o : Bool) : Nat := (fun _ => 1) o
theorem sat_deep.c2_ok (k : Nat) (a0 : (List V22)) (a1 : (List V22)) (a2 : Int) (v3 : Int) (v4 : Int) (y1 : V22) : Owp (sat_deep.c2 k a0 a1 a2 v3 v4 y1) fun o => Triple PR (sat_deep.cx k) (sub sat_deep.code [1, 1, 1, 0, 1, 0, 0, 1, 1, 0, 0, 1, 1, 0]) 1 (sat_deep.c2p a0 a1 a2 v3 v4 y1) (sat_deep.c2x o) (sat_deep.c2n o) (sat_deep.c2q a0 a1 a2 v3 v4 y1 o) := by
  unfold sat_deep.c2; exact
   Owp.bif (fun e8 =>
   Owp.some (triple_way (sat_deep.cok k) hmix [.dec true, .dec true, .dec true, .dec true] [] [(0, 0)] (via (finP (And.intro (And.intro (And.intro (And.intro trivial e8) e8) e8) e8) .normal [(0, 0)] (sat_deep.c2q a0 a1 a2 v3 v4 y1 true)) (by kernel_rfl)))) (fun e8 =>
   Owp.some (triple_way (sat_deep.cok k) hmix [.dec false, .dec false, .dec false, .dec false] [] [(0, 0)] (via (finP (And.intro (And.intro (And.intro (And.intro trivial e8) e8) e8) e8) .normal [(0, 0)] (sat_deep.c2q a0 a1 a2 v3 v4 y1 (igt (iadd .i64 (imul .i64 y1.1 (isub .i64 (el Z22 a0 a2).1 (el Z22 a1 v4).1)) (imul .i64 y1.2.1 (isub .i64 (el Z22 a0 a2).2.1 (el Z22 a1 v4).2.1))) v3))) (by kernel_rfl))))
noncomputable def sat_deep.c1p (a0 : (List V22)) (a1 : (List V22)) (a2 : Int) (y1 : V22) (v3 : Int) (v4 : Int) : SL := ⟨[(0, (.val T24 a0)), (2, (.val T2 a2)), (7, (.val .ptr ⟨0, 0, (0 : Int), 0, 0⟩)), (8, (.val T2 v3)), (15, (.val T24 a1)), (16, (.val T2 (len a1))), (17, (.val T2 v4))], [(0, .cells T22 y1)]⟩
noncomputable def sat_deep.c1q (o : Int) : SL := (fun v => ⟨[(8, (.val T2 v))], []⟩) o
noncomputable def sat_deep.c1x (o : Int) : Ex := (fun _ => (.exit 0)) o
noncomputable def sat_deep.c1n (o : Int) : Nat := (fun _ => 0) o
theorem sat_deep.c1_ok (k : Nat) (a0 : (List V22)) (a1 : (List V22)) (a2 : Int) (y1 : V22) : ∀ (n : Nat) (v3 : Int) (v4 : Int), Owp (sat_deep.c1 k a0 a1 a2 y1 n v3 v4) fun o => LTriple PR (sat_deep.cx k) (sub sat_deep.code [1, 1, 1, 0, 1, 0, 0]) 1 (sat_deep.c1p a0 a1 a2 y1 v3 v4) (sat_deep.c1x o) (sat_deep.c1n o) (sat_deep.c1q o)
  | 0, _, _ => fun _ h => nomatch h
  | n + 1, v3, v4 => Owp.of (sat_deep.c1.eq_2 ..) (
   Owp.bif (fun e5 =>
   Owp.req fun h6 =>
    Owp.req fun h7 =>
    Owp.bnd fun o9 e10 =>
    Owp.bif (fun e11 =>
    fun y hy => loop_back (sat_deep.cok k) hmix 1 (sat_deep.c1p a0 a1 a2 y1 (iadd .i64 (imul .i64 y1.1 (isub .i64 (el Z22 a0 a2).1 (el Z22 a1 v4).1)) (imul .i64 y1.2.1 (isub .i64 (el Z22 a0 a2).2.1 (el Z22 a1 v4).2.1))) (iadd .i64 v4 (1 : Int))) [.dec true, .cutR 7 ⟨[], [(0, 0)], (sat_deep.c2p a0 a1 a2 v3 v4 y1), 1, .normal, (sat_deep.c2q a0 a1 a2 v3 v4 y1 o9), 1⟩, .dec true] [] [(0, 0)] (via (cutP (And.intro (And.intro (And.intro (And.intro trivial e5) h6) h7) h7) [(0, 0)] (sat_deep.c2p a0 a1 a2 v3 v4 y1) (((sat_deep.c2_ok k a0 a1 a2 v3 v4 y1).ap e10)) (finP (And.intro trivial e11) .normal [(0, 0)] (sat_deep.c1p a0 a1 a2 y1 (iadd .i64 (imul .i64 y1.1 (isub .i64 (el Z22 a0 a2).1 (el Z22 a1 v4).1)) (imul .i64 y1.2.1 (isub .i64 (el Z22 a0 a2).2.1 (el Z22 a1 v4).2.1))) (iadd .i64 v4 (1 : Int))))) (by kernel_rfl)) ((sat_deep.c1_ok k a0 a1 a2 y1 n (iadd .i64 (imul .i64 y1.1 (isub .i64 (el Z22 a0 a2).1 (el Z22 a1 v4).1)) (imul .i64 y1.2.1 (isub .i64 (el Z22 a0 a2).2.1 (el Z22 a1 v4).2.1))) (iadd .i64 v4 (1 : Int))).ap hy)) (fun e11 =>
    fun y hy => loop_back (sat_deep.cok k) hmix 1 (sat_deep.c1p a0 a1 a2 y1 v3 (iadd .i64 v4 (1 : Int))) [.dec true, .cutR 7 ⟨[], [(0, 0)], (sat_deep.c2p a0 a1 a2 v3 v4 y1), 1, .normal, (sat_deep.c2q a0 a1 a2 v3 v4 y1 o9), 1⟩, .dec false] [] [(0, 0)] (via (cutP (And.intro (And.intro (And.intro (And.intro trivial e5) h6) h7) h7) [(0, 0)] (sat_deep.c2p a0 a1 a2 v3 v4 y1) (((sat_deep.c2_ok k a0 a1 a2 v3 v4 y1).ap e10)) (finP (And.intro trivial e11) .normal [(0, 0)] (sat_deep.c1p a0 a1 a2 y1 v3 (iadd .i64 v4 (1 : Int))))) (by kernel_rfl)) ((sat_deep.c1_ok k a0 a1 a2 y1 n v3 (iadd .i64 v4 (1 : Int))).ap hy))) (fun e5 =>
   Owp.some (loop_exit (sat_deep.cok k) hmix [.dec false] [] [] (exne 0) (via (finP (And.intro trivial e5) (.exit 0) [] (sat_deep.c1q v3)) (by kernel_rfl)))))
theorem sat_deep.way (k : Nat) (a0 : (List V22)) (a1 : (List V22)) (a2 : Int) : Owp (sat_deep k a0 a1 a2) fun y => ∃ answers cmds, exec PR (sat_deep.cx k) sat_deep.code 0 (entry (.pair T24 (.pair T24 (.pair T2 .unit))) (a0, a1, a2, ())).st answers (Ret (sat_deep.cx k) Try.f95 cmds (.one (.dp T2)) y) := by
  unfold sat_deep; exact
   Owp.bnd fun y1 e2 =>
   Owp.bnd fun o12 e13 =>
   Owp.some (⟨[.res (.one (.dp T22)) y1, .cut ⟨[], [(0, 4)], (sat_deep.c1p a0 a1 a2 y1 (0 : Int) (0 : Int)), 1, (.exit 0), (sat_deep.c1q o12), 0⟩], [], via (cutP (And.intro trivial e2) [(0, 4)] (sat_deep.c1p a0 a1 a2 y1 (0 : Int) (0 : Int)) (((sat_deep.c1_ok k a0 a1 a2 y1 k (0 : Int) (0 : Int)).ap e13).triple) (retP trivial (.one (.dp T2)) (o12 : Int))) (by kernel_rfl)⟩)
theorem sat_deep.ok (k : Nat) : FnOk PR 95 (sat_deep.sp k) :=
  fn_ok (sat_deep.cok k) hmix Try.func95 (code := sat_deep.code) (by kernel_rfl) (by kernel_rfl) (by kernel_rfl) rfl rfl (by kernel_rfl) (by kernel_rfl) (by kernel_rfl) (fun x => Nat.le_of_ble_eq_true (by kernel_rfl)) fun x y hy => (sat_deep.way k x.1 x.2.1 x.2.2.1).ap hy

/-! tourney/sat.root -/
noncomputable def sat_root.code : Code := Func.cd Try.f99
def sat_root.c1 (k : Nat) (a0 : Int) : Nat → Int → Int → Option (Int)
  | 0, _, _ => none
  | n + 1, v1, v2 =>
   bif' (igt (isub .i64 v2 v1) 1)
   (bif' (ile (imul .i64 (iquo .i64 (iadd .i64 v1 v2) 2) (iquo .i64 (iadd .i64 v1 v2) 2)) a0)
    (sat_root.c1 k a0 n (iquo .i64 (iadd .i64 v1 v2) 2) v2)
    (sat_root.c1 k a0 n v1 (iquo .i64 (iadd .i64 v1 v2) 2)))
   (some v1)
def sat_root (k : Nat) (a0 : Int) : Option Int :=
  bnd (sat_root.c1 k a0 k 0 2147483648) fun o5 =>
  some o5
noncomputable def sat_root.sp (k : Nat) : Go.Sx.Spec := ⟨(.pair T2 .unit), (.one (.dp T2)), fun x => sat_root k x.1, false⟩
noncomputable def sat_root.cx (k : Nat) : Go.Sx.Ctx := ⟨tys, [], eqs, 22, 0, [], false⟩
theorem sat_root.cok (k : Nat) : CtxOk PR (sat_root.cx k) := ctx_ok tysOk eqsOk FnsOk.nil HsOk.nil
noncomputable def sat_root.c1p (a0 : Int) (v1 : Int) (v2 : Int) : SL := ⟨[(0, (.val T2 a0)), (3, (.val T2 v1)), (4, (.val T2 v2))], []⟩
noncomputable def sat_root.c1q (o : Int) : SL := (fun v => ⟨[(3, (.val T2 v))], []⟩) o
noncomputable def sat_root.c1x (o : Int) : Ex := (fun _ => (.exit 0)) o
noncomputable def sat_root.c1n (o : Int) : Nat := (fun _ => 0) o
theorem sat_root.c1_ok (k : Nat) (a0 : Int) : ∀ (n : Nat) (v1 : Int) (v2 : Int), Owp (sat_root.c1 k a0 n v1 v2) fun o => LTriple PR (sat_root.cx k) (sub sat_root.code [1, 1, 0, 0, 0]) 0 (sat_root.c1p a0 v1 v2) (sat_root.c1x o) (sat_root.c1n o) (sat_root.c1q o)
  | 0, _, _ => fun _ h => nomatch h
  | n + 1, v1, v2 => Owp.of (sat_root.c1.eq_2 ..) (
   Owp.bif (fun e3 =>
   Owp.bif (fun e4 =>
    fun y hy => loop_back (sat_root.cok k) hmix 0 (sat_root.c1p a0 (iquo .i64 (iadd .i64 v1 v2) (2 : Int)) v2) [.dec true, .dec true] [] [] (via (finP (And.intro (And.intro (And.intro trivial e3) (by decide : nz (2 : Int))) e4) .normal [] (sat_root.c1p a0 (iquo .i64 (iadd .i64 v1 v2) (2 : Int)) v2)) (by kernel_rfl)) ((sat_root.c1_ok k a0 n (iquo .i64 (iadd .i64 v1 v2) (2 : Int)) v2).ap hy)) (fun e4 =>
    fun y hy => loop_back (sat_root.cok k) hmix 0 (sat_root.c1p a0 v1 (iquo .i64 (iadd .i64 v1 v2) (2 : Int))) [.dec true, .dec false] [] [] (via (finP (And.intro (And.intro (And.intro trivial e3) (by decide : nz (2 : Int))) e4) .normal [] (sat_root.c1p a0 v1 (iquo .i64 (iadd .i64 v1 v2) (2 : Int)))) (by kernel_rfl)) ((sat_root.c1_ok k a0 n v1 (iquo .i64 (iadd .i64 v1 v2) (2 : Int))).ap hy))) (fun e3 =>
   Owp.some (loop_exit (sat_root.cok k) hmix [.dec false] [] [] (exne 0) (via (finP (And.intro trivial e3) (.exit 0) [] (sat_root.c1q v1)) (by kernel_rfl)))))
theorem sat_root.way (k : Nat) (a0 : Int) : Owp (sat_root k a0) fun y => ∃ answers cmds, exec PR (sat_root.cx k) sat_root.code 0 (entry (.pair T2 .unit) (a0, ())).st answers (Ret (sat_root.cx k) Try.f99 cmds (.one (.dp T2)) y) := by
  unfold sat_root; exact
   Owp.bnd fun o5 e6 =>
   Owp.some (⟨[.cut ⟨[], [], (sat_root.c1p a0 (0 : Int) (2147483648 : Int)), 0, (.exit 0), (sat_root.c1q o5), 0⟩], [], via (cutP trivial [] (sat_root.c1p a0 (0 : Int) (2147483648 : Int)) (((sat_root.c1_ok k a0 k (0 : Int) (2147483648 : Int)).ap e6).triple) (retP trivial (.one (.dp T2)) (o5 : Int))) (by kernel_rfl)⟩)
theorem sat_root.ok (k : Nat) : FnOk PR 99 (sat_root.sp k) :=
  fn_ok (sat_root.cok k) hmix Try.func99 (code := sat_root.code) (by kernel_rfl) (by kernel_rfl) (by kernel_rfl) rfl rfl (by kernel_rfl) (by kernel_rfl) (by kernel_rfl) (fun x => Nat.le_of_ble_eq_true (by kernel_rfl)) fun x y hy => (sat_root.way k x.1).ap hy

/-! tourney/sat.Length -/
noncomputable def sat_Length.code : Code := Func.cd Try.f27
def sat_Length (k : Nat) (a0 : V22) : Option Int :=
  bnd (sat_root k (iadd .i64 (imul .i64 a0.1 a0.1) (imul .i64 a0.2.1 a0.2.1))) fun y1 =>
  some y1
noncomputable def sat_Length.sp (k : Nat) : Go.Sx.Spec := ⟨(.pair T22 .unit), (.one (.dp T2)), fun x => sat_Length k x.1, false⟩
noncomputable def sat_Length.cx (k : Nat) : Go.Sx.Ctx := ⟨tys, [(99, sat_root.sp k)], eqs, 15, 0, [], false⟩
theorem sat_Length.cok (k : Nat) : CtxOk PR (sat_Length.cx k) := ctx_ok tysOk eqsOk (FnsOk.cons (sat_root.ok k) FnsOk.nil) HsOk.nil
theorem sat_Length.way (k : Nat) (a0 : V22) : Owp (sat_Length k a0) fun y => ∃ answers cmds, exec PR (sat_Length.cx k) sat_Length.code 0 (entry (.pair T22 .unit) (a0, ())).st answers (Ret (sat_Length.cx k) Try.f27 cmds (.one (.dp T2)) y) := by
  unfold sat_Length; exact
   Owp.bnd fun y1 e2 =>
   Owp.some (⟨[.res (.one (.dp T2)) y1], [], via (retP (And.intro trivial e2) (.one (.dp T2)) (y1 : Int)) (by kernel_rfl)⟩)
theorem sat_Length.ok (k : Nat) : FnOk PR 27 (sat_Length.sp k) :=
  fn_ok (sat_Length.cok k) hmix Try.func27 (code := sat_Length.code) (by kernel_rfl) (by kernel_rfl) (by kernel_rfl) rfl rfl (by kernel_rfl) (by kernel_rfl) (by kernel_rfl) (fun x => Nat.le_of_ble_eq_true (by kernel_rfl)) fun x y hy => (sat_Length.way k x.1).ap hy

/-! tourney/sat.Least -/
noncomputable def sat_Least.code : Code := Func.cd Try.f24
def sat_Least.c3 (k : Nat) (v11 : Bool) (v15 : Int) (y26 : (Int × Int)) : Option (Bool) :=
  bif' v11
  (some (ilt y26.1 v15))
  (some true)
def sat_Least.c2 (k : Nat) (a0 : (List V22)) (a1 : (List V22)) (v5 : Int) : Nat → Bool → Int → Bool → Int → Int → Option (Unit ⊕ (Bool × (Bool × (Int × Int))))
  | 0, _, _, _, _, _ => none
  | n + 1, v11, v12, v13, v14, v15 =>
   bif' (ilt v12 (len (el ([] : (List V22)) (el (List.replicate 2 []) [[a0, a1], [a1, a0]] v5) 0)))
   (bnd (sat_deep k (el ([] : (List V22)) (el (List.replicate 2 []) [[a0, a1], [a1, a0]] v5) 0) (el ([] : (List V22)) (el (List.replicate 2 []) [[a0, a1], [a1, a0]] v5) 1) v12) fun y17 =>
    bif' (ilt y17 0)
    (some (.inl ()))
    (bnd (sat_Normal k (el ([] : (List V22)) (el (List.replicate 2 []) [[a0, a1], [a1, a0]] v5) 0) v12) fun y20 =>
     bnd (poly_Times k y17 1) fun y22 =>
     bnd (sat_Length k y20) fun y24 =>
     bnd (poly_Wide_Over k y22 y24) fun y26 =>
     bnd (sat_Least.c3 k v11 v15 y26) fun o29 =>
     bif' o29
     (sat_Least.c2 k a0 a1 v5 n true (iadd .i64 v12 1) (ieq v5 1) v12 y26.1)
     (sat_Least.c2 k a0 a1 v5 n v11 (iadd .i64 v12 1) v13 v14 v15)))
   (some (.inr (v11, v13, v14, v15)))
def sat_Least.c1 (k : Nat) (a0 : (List V22)) (a1 : (List V22)) : Nat → Bool → Int → Bool → Int → Int → Option (Unit ⊕ (Bool × (Int × Int)))
  | 0, _, _, _, _, _ => none
  | n + 1, v4, v5, v6, v7, v8 =>
   bif' (ilt v5 (len [[a0, a1], [a1, a0]]))
   (req (inL v5 [[a0, a1], [a1, a0]]) <|
    bnd (sat_Least.c2 k a0 a1 v5 k v4 0 v6 v7 v8) fun o32 =>
    two o32 (fun y34 =>
    some (.inl ())) (fun y36 =>
    sat_Least.c1 k a0 a1 n y36.1 (iadd .i64 v5 1) y36.2.1 y36.2.2.1 y36.2.2.2))
   (some (.inr (v6, v7, v8)))
def sat_Least (k : Nat) (a0 : (List V22)) (a1 : (List V22)) : Option ((Bool × V22) × (Bool × Int)) :=
  bnd (sat_both k a0 a1) fun y1 =>
  bif' (ine y1 0)
  (some ((false, 0, 0, ()), false, y1))
  (bnd (sat_Least.c1 k a0 a1 k false 0 false 0 0) fun o38 =>
   two o38 (fun y40 =>
   some ((false, 0, 0, ()), false, 0)) (fun y42 =>
   some ((y42.1, y42.2.1, y42.2.2, ()), true, 0)))
noncomputable def sat_Least.sp (k : Nat) : Go.Sx.Spec := ⟨(.pair T24 (.pair T24 .unit)), (.more (.dp (.pair T4 T22)) (.more (.dp T4) (.one (.dp T2)))), fun x => sat_Least k x.1 x.2.1, false⟩
noncomputable def sat_Least.cx (k : Nat) : Go.Sx.Ctx := ⟨tys, [(94, sat_both.sp k), (95, sat_deep.sp k), (31, sat_Normal.sp k), (96, poly_Times.sp k), (27, sat_Length.sp k), (97, poly_Wide_Over.sp k)], eqs, 80, 0, [], false⟩
theorem sat_Least.cok (k : Nat) : CtxOk PR (sat_Least.cx k) := ctx_ok tysOk eqsOk (FnsOk.cons (sat_both.ok k) (FnsOk.cons (sat_deep.ok k) (FnsOk.cons (sat_Normal.ok k) (FnsOk.cons (poly_Times.ok k) (FnsOk.cons (sat_Length.ok k) (FnsOk.cons (poly_Wide_Over.ok k) FnsOk.nil)))))) HsOk.nil
noncomputable def sat_Least.c3p (a0 : (List V22)) (a1 : (List V22)) (v5 : Int) (v11 : Bool) (v12 : Int) (v13 : Bool) (v14 : Int) (v15 : Int) (y26 : (Int × Int)) : SL := ⟨[(4, (.val .ptr ⟨0, 0, (0 : Int), 0, 0⟩)), (8, (.val .ptr ⟨1, 0, (0 : Int), 0, 0⟩)), (9, (.val T4 v11)), (10, (.val T2 v5)), (11, (.val .ptr ⟨2, 0, (0 : Int), 0, 0⟩)), (12, (.val T2 v12)), (15, (.val T2 y26.1)), (30, (.val .own (3 : Nat))), (31, (.val T2 (len [[a0, a1], [a1, a0]]))), (32, (.val T2 v5)), (39, (.val T2 (len (el ([] : (List V22)) (el (List.replicate 2 []) [[a0, a1], [a1, a0]] v5) (0 : Int))))), (40, (.val T2 v12))], [(0, .cells (.pair T4 T22) (false, (0 : Int), (0 : Int), ())), (1, .cells (.pair T4 T22) (v13, v14, v15, ())), (2, .cells (.arr 2 T24) (el (List.replicate 2 []) [[a0, a1], [a1, a0]] v5)), (3, .row (.arr 2 T24) [[a0, a1], [a1, a0]] 115)]⟩
noncomputable def sat_Least.c3q (a0 : (List V22)) (a1 : (List V22)) (v5 : Int) (v11 : Bool) (v12 : Int) (v13 : Bool) (v14 : Int) (v15 : Int) (y26 : (Int × Int)) (o : Bool) : SL := (fun v => ⟨[(4, (.val .ptr ⟨0, 0, (0 : Int), 0, 0⟩)), (8, (.val .ptr ⟨1, 0, (0 : Int), 0, 0⟩)), (9, (.val T4 v11)), (10, (.val T2 v5)), (11, (.val .ptr ⟨2, 0, (0 : Int), 0, 0⟩)), (12, (.val T2 v12)), (15, (.val T2 y26.1)), (30, (.val .own (3 : Nat))), (31, (.val T2 (len [[a0, a1], [a1, a0]]))), (32, (.val T2 v5)), (39, (.val T2 (len (el ([] : (List V22)) (el (List.replicate 2 []) [[a0, a1], [a1, a0]] v5) (0 : Int))))), (40, (.val T2 v12)), (71, (.val T4 v))], [(0, .cells (.pair T4 T22) (false, (0 : Int), (0 : Int), ())), (1, .cells (.pair T4 T22) (v13, v14, v15, ())), (2, .cells (.arr 2 T24) (el (List.replicate 2 []) [[a0, a1], [a1, a0]] v5)), (3, .row (.arr 2 T24) [[a0, a1], [a1, a0]] 115)]⟩) o
noncomputable def sat_Least.c3x (o : Bool) : Ex := (fun _ => .normal) o
noncomputable def sat_Least.c3n (o : Bool) : Nat := (fun _ => 4) o
theorem sat_Least.c3_ok (k : Nat) (a0 : (List V22)) (a1 : (List V22)) (v5 : Int) (v11 : Bool) (v12 : Int) (v13 : Bool) (v14 : Int) (v15 : Int) (y26 : (Int × Int)) : Owp (sat_Least.c3 k v11 v15 y26) fun o => Triple PR (sat_Least.cx k) (sub sat_Least.code [1, 1, 1, 1, 0, 1, 0, 0, 1, 1, 0, 0, 1, 1, 0, 0, 1, 1, 0, 0, 1, 1, 1, 1, 1, 0]) 4 (sat_Least.c3p a0 a1 v5 v11 v12 v13 v14 v15 y26) (sat_Least.c3x o) (sat_Least.c3n o) (sat_Least.c3q a0 a1 v5 v11 v12 v13 v14 v15 y26 o) := by
  unfold sat_Least.c3; exact
   Owp.bif (fun e28 =>
   Owp.some (triple_way (sat_Least.cok k) hmix [.dec false, .dec false, .dec false, .dec false, .dec false] [] [(0, 0), (1, 1), (2, 2), (3, 3)] (via (finP (And.intro (And.intro (And.intro (And.intro (And.intro trivial (congrArg not e28)) (congrArg not e28)) (congrArg not e28)) (congrArg not e28)) (congrArg not e28)) .normal [(0, 0), (1, 1), (2, 2), (3, 3)] (sat_Least.c3q a0 a1 v5 v11 v12 v13 v14 v15 y26 (ilt y26.1 v15))) (by kernel_rfl)))) (fun e28 =>
   Owp.some (triple_way (sat_Least.cok k) hmix [.dec true, .dec true, .dec true, .dec true, .dec true] [] [(0, 0), (1, 1), (2, 2), (3, 3)] (via (finP (And.intro (And.intro (And.intro (And.intro (And.intro trivial (congrArg not e28)) (congrArg not e28)) (congrArg not e28)) (congrArg not e28)) (congrArg not e28)) .normal [(0, 0), (1, 1), (2, 2), (3, 3)] (sat_Least.c3q a0 a1 v5 v11 v12 v13 v14 v15 y26 true)) (by kernel_rfl))))
noncomputable def sat_Least.c2p (a0 : (List V22)) (a1 : (List V22)) (v5 : Int) (v11 : Bool) (v12 : Int) (v13 : Bool) (v14 : Int) (v15 : Int) : SL := ⟨[(4, (.val .ptr ⟨0, 0, (0 : Int), 0, 0⟩)), (8, (.val .ptr ⟨1, 0, (0 : Int), 0, 0⟩)), (9, (.val T4 v11)), (10, (.val T2 v5)), (11, (.val .ptr ⟨2, 0, (0 : Int), 0, 0⟩)), (30, (.val .own (3 : Nat))), (31, (.val T2 (len [[a0, a1], [a1, a0]]))), (32, (.val T2 v5)), (39, (.val T2 (len (el ([] : (List V22)) (el (List.replicate 2 []) [[a0, a1], [a1, a0]] v5) (0 : Int))))), (40, (.val T2 v12))], [(0, .cells (.pair T4 T22) (false, (0 : Int), (0 : Int), ())), (1, .cells (.pair T4 T22) (v13, v14, v15, ())), (2, .cells (.arr 2 T24) (el (List.replicate 2 []) [[a0, a1], [a1, a0]] v5)), (3, .row (.arr 2 T24) [[a0, a1], [a1, a0]] 115)]⟩
noncomputable def sat_Least.c2q (a0 : (List V22)) (a1 : (List V22)) (v5 : Int) (o : Unit ⊕ (Bool × (Bool × (Int × Int)))) : SL := (fun o => two o (fun v => ⟨[(4, (.val .ptr ⟨0, 0, (0 : Int), 0, 0⟩)), (5, (.val T4 false)), (6, (.val T2 (0 : Int)))], [(0, .cells (.pair T4 T22) (false, (0 : Int), (0 : Int), ()))]⟩) (fun v => ⟨[(4, (.val .ptr ⟨0, 0, (0 : Int), 0, 0⟩)), (8, (.val .ptr ⟨1, 0, (0 : Int), 0, 0⟩)), (9, (.val T4 v.1)), (30, (.val .own (2 : Nat))), (31, (.val T2 (len [[a0, a1], [a1, a0]]))), (32, (.val T2 v5))], [(0, .cells (.pair T4 T22) (false, (0 : Int), (0 : Int), ())), (1, .cells (.pair T4 T22) (v.2.1, v.2.2.1, v.2.2.2, ())), (2, .row (.arr 2 T24) [[a0, a1], [a1, a0]] 115)]⟩)) o
noncomputable def sat_Least.c2x (o : Unit ⊕ (Bool × (Bool × (Int × Int)))) : Ex := (fun o => two o (fun _ => .ret) (fun _ => (.exit 2))) o
noncomputable def sat_Least.c2n (o : Unit ⊕ (Bool × (Bool × (Int × Int)))) : Nat := (fun o => two o (fun _ => 1) (fun _ => 3)) o
theorem sat_Least.c2_ok (k : Nat) (a0 : (List V22)) (a1 : (List V22)) (v5 : Int) : ∀ (n : Nat) (v11 : Bool) (v12 : Int) (v13 : Bool) (v14 : Int) (v15 : Int), Owp (sat_Least.c2 k a0 a1 v5 n v11 v12 v13 v14 v15) fun o => LTriple PR (sat_Least.cx k) (sub sat_Least.code [1, 1, 1, 1, 0, 1, 0, 0, 1, 1, 0, 0, 1, 1, 0, 0]) 4 (sat_Least.c2p a0 a1 v5 v11 v12 v13 v14 v15) (sat_Least.c2x o) (sat_Least.c2n o) (sat_Least.c2q a0 a1 v5 o)
  | 0, _, _, _, _, _ => fun _ h => nomatch h
  | n + 1, v11, v12, v13, v14, v15 => Owp.of (sat_Least.c2.eq_2 ..) (
   Owp.bif (fun e16 =>
   Owp.bnd fun y17 e18 =>
    Owp.bif (fun e19 =>
    Owp.some (loop_exit (sat_Least.cok k) hmix [.dec true, .res (.one (.dp T2)) y17, .dec true] [] [(0, 0)] exne_ret (via (finP (And.intro (And.intro (And.intro (And.intro (And.intro (And.intro (And.intro trivial e16) (by decide : inR (0 : Int) 2)) (by decide : inR (0 : Int) 2)) (by decide : inR (1 : Int) 2)) (by decide : inR (1 : Int) 2)) e18) e19) .ret [(0, 0)] (sat_Least.c2q a0 a1 v5 (.inl ()))) (by kernel_rfl)))) (fun e19 =>
    Owp.bnd fun y20 e21 =>
     Owp.bnd fun y22 e23 =>
     Owp.bnd fun y24 e25 =>
     Owp.bnd fun y26 e27 =>
     Owp.bnd fun o29 e30 =>
     Owp.bif (fun e31 =>
     fun y hy => loop_back (sat_Least.cok k) hmix 4 (sat_Least.c2p a0 a1 v5 true (iadd .i64 v12 (1 : Int)) (ieq v5 (1 : Int)) v12 y26.1) [.dec true, .res (.one (.dp T2)) y17, .dec false, .res (.one (.dp T22)) y20, .res (.one (.dp T90)) y22, .res (.one (.dp T2)) y24, .res (.more (.dp T2) (.one (.dp T2))) y26, .cutR 17 ⟨[], [(0, 0), (1, 1), (2, 2), (3, 3)], (sat_Least.c3p a0 a1 v5 v11 v12 v13 v14 v15 y26), 4, .normal, (sat_Least.c3q a0 a1 v5 v11 v12 v13 v14 v15 y26 o29), 4⟩, .dec true] [] [(0, 0), (1, 1), (2, 2), (3, 3)] (via (cutP (And.intro (And.intro (And.intro (And.intro (And.intro (And.intro (And.intro (And.intro (And.intro (And.intro (And.intro (And.intro (And.intro trivial e16) (by decide : inR (0 : Int) 2)) (by decide : inR (0 : Int) 2)) (by decide : inR (1 : Int) 2)) (by decide : inR (1 : Int) 2)) e18) e19) (by decide : inR (0 : Int) 2)) (by decide : inR (0 : Int) 2)) e21) e23) e25) e27) [(0, 0), (1, 1), (2, 2), (3, 3)] (sat_Least.c3p a0 a1 v5 v11 v12 v13 v14 v15 y26) (((sat_Least.c3_ok k a0 a1 v5 v11 v12 v13 v14 v15 y26).ap e30)) (finP (And.intro trivial e31) .normal [(0, 0), (1, 1), (2, 2), (3, 3)] (sat_Least.c2p a0 a1 v5 true (iadd .i64 v12 (1 : Int)) (ieq v5 (1 : Int)) v12 y26.1))) (by kernel_rfl)) ((sat_Least.c2_ok k a0 a1 v5 n true (iadd .i64 v12 (1 : Int)) (ieq v5 (1 : Int)) v12 y26.1).ap hy)) (fun e31 =>
     fun y hy => loop_back (sat_Least.cok k) hmix 4 (sat_Least.c2p a0 a1 v5 v11 (iadd .i64 v12 (1 : Int)) v13 v14 v15) [.dec true, .res (.one (.dp T2)) y17, .dec false, .res (.one (.dp T22)) y20, .res (.one (.dp T90)) y22, .res (.one (.dp T2)) y24, .res (.more (.dp T2) (.one (.dp T2))) y26, .cutR 17 ⟨[], [(0, 0), (1, 1), (2, 2), (3, 3)], (sat_Least.c3p a0 a1 v5 v11 v12 v13 v14 v15 y26), 4, .normal, (sat_Least.c3q a0 a1 v5 v11 v12 v13 v14 v15 y26 o29), 4⟩, .dec false] [] [(0, 0), (1, 1), (2, 2), (3, 3)] (via (cutP (And.intro (And.intro (And.intro (And.intro (And.intro (And.intro (And.intro (And.intro (And.intro (And.intro (And.intro (And.intro (And.intro trivial e16) (by decide : inR (0 : Int) 2)) (by decide : inR (0 : Int) 2)) (by decide : inR (1 : Int) 2)) (by decide : inR (1 : Int) 2)) e18) e19) (by decide : inR (0 : Int) 2)) (by decide : inR (0 : Int) 2)) e21) e23) e25) e27) [(0, 0), (1, 1), (2, 2), (3, 3)] (sat_Least.c3p a0 a1 v5 v11 v12 v13 v14 v15 y26) (((sat_Least.c3_ok k a0 a1 v5 v11 v12 v13 v14 v15 y26).ap e30)) (finP (And.intro trivial e31) .normal [(0, 0), (1, 1), (2, 2), (3, 3)] (sat_Least.c2p a0 a1 v5 v11 (iadd .i64 v12 (1 : Int)) v13 v14 v15))) (by kernel_rfl)) ((sat_Least.c2_ok k a0 a1 v5 n v11 (iadd .i64 v12 (1 : Int)) v13 v14 v15).ap hy)))) (fun e16 =>
   Owp.some (loop_exit (sat_Least.cok k) hmix [.dec false] [] [(0, 0), (1, 1), (2, 3)] (exne 2) (via (finP (And.intro trivial e16) (.exit 2) [(0, 0), (1, 1), (2, 3)] (sat_Least.c2q a0 a1 v5 (.inr (v11, v13, v14, v15)))) (by kernel_rfl)))))
noncomputable def sat_Least.c1p (a0 : (List V22)) (a1 : (List V22)) (v4 : Bool) (v5 : Int) (v6 : Bool) (v7 : Int) (v8 : Int) : SL := ⟨[(4, (.val .ptr ⟨0, 0, (0 : Int), 0, 0⟩)), (8, (.val .ptr ⟨1, 0, (0 : Int), 0, 0⟩)), (9, (.val T4 v4)), (30, (.val .own (2 : Nat))), (31, (.val T2 (len [[a0, a1], [a1, a0]]))), (32, (.val T2 v5))], [(0, .cells (.pair T4 T22) (false, (0 : Int), (0 : Int), ())), (1, .cells (.pair T4 T22) (v6, v7, v8, ())), (2, .row (.arr 2 T24) [[a0, a1], [a1, a0]] 115)]⟩
noncomputable def sat_Least.c1q (o : Unit ⊕ (Bool × (Int × Int))) : SL := (fun o => two o (fun v => ⟨[(4, (.val .ptr ⟨0, 0, (0 : Int), 0, 0⟩)), (5, (.val T4 false)), (6, (.val T2 (0 : Int)))], [(0, .cells (.pair T4 T22) (false, (0 : Int), (0 : Int), ()))]⟩) (fun v => ⟨[(4, (.val .ptr ⟨0, 0, (0 : Int), 0, 0⟩)), (8, (.val .ptr ⟨1, 0, (0 : Int), 0, 0⟩))], [(0, .cells (.pair T4 T22) (false, (0 : Int), (0 : Int), ())), (1, .cells (.pair T4 T22) (v.1, v.2.1, v.2.2, ()))]⟩)) o
noncomputable def sat_Least.c1x (o : Unit ⊕ (Bool × (Int × Int))) : Ex := (fun o => two o (fun _ => .ret) (fun _ => (.exit 0))) o
noncomputable def sat_Least.c1n (o : Unit ⊕ (Bool × (Int × Int))) : Nat := (fun o => two o (fun _ => 1) (fun _ => 2)) o
theorem sat_Least.c1_ok (k : Nat) (a0 : (List V22)) (a1 : (List V22)) : ∀ (n : Nat) (v4 : Bool) (v5 : Int) (v6 : Bool) (v7 : Int) (v8 : Int), Owp (sat_Least.c1 k a0 a1 n v4 v5 v6 v7 v8) fun o => LTriple PR (sat_Least.cx k) (sub sat_Least.code [1, 1, 1, 1, 0, 1, 0, 0]) 3 (sat_Least.c1p a0 a1 v4 v5 v6 v7 v8) (sat_Least.c1x o) (sat_Least.c1n o) (sat_Least.c1q o)
  | 0, _, _, _, _, _ => fun _ h => nomatch h
  | n + 1, v4, v5, v6, v7, v8 => Owp.of (sat_Least.c1.eq_2 ..) (
   Owp.bif (fun e9 =>
   Owp.req fun h10 =>
    Owp.bnd fun o32 e33 =>
    Owp.two (fun y34 e35 =>
    Owp.some (loop_exit (sat_Least.cok k) hmix [.dec true, .cut ⟨[], [(0, 0), (1, 1), (2, 7), (3, 2)], (sat_Least.c2p a0 a1 v5 v4 (0 : Int) v6 v7 v8), 4, .ret, (sat_Least.c2q a0 a1 v5 (.inl ())), 1⟩] [] [(0, 0)] exne_ret (via (cutP (And.intro (And.intro (And.intro (And.intro (And.intro trivial e9) h10) h10) (by decide : inR (0 : Int) 2)) (by decide : inR (0 : Int) 2)) [(0, 0), (1, 1), (2, 7), (3, 2)] (sat_Least.c2p a0 a1 v5 v4 (0 : Int) v6 v7 v8) (((sat_Least.c2_ok k a0 a1 v5 k v4 (0 : Int) v6 v7 v8).ap (e33.trans (congrArg some e35))).triple) (finP trivial .ret [(0, 0)] (sat_Least.c1q (.inl ())))) (by kernel_rfl)))) (fun y36 e37 =>
    fun y hy => loop_back (sat_Least.cok k) hmix 3 (sat_Least.c1p a0 a1 y36.1 (iadd .i64 v5 (1 : Int)) y36.2.1 y36.2.2.1 y36.2.2.2) [.dec true, .cut ⟨[], [(0, 0), (1, 1), (2, 7), (3, 2)], (sat_Least.c2p a0 a1 v5 v4 (0 : Int) v6 v7 v8), 4, (.exit 2), (sat_Least.c2q a0 a1 v5 (.inr y36)), 3⟩] [] [(0, 0), (1, 1), (2, 2)] (via (cutP (And.intro (And.intro (And.intro (And.intro (And.intro trivial e9) h10) h10) (by decide : inR (0 : Int) 2)) (by decide : inR (0 : Int) 2)) [(0, 0), (1, 1), (2, 7), (3, 2)] (sat_Least.c2p a0 a1 v5 v4 (0 : Int) v6 v7 v8) (((sat_Least.c2_ok k a0 a1 v5 k v4 (0 : Int) v6 v7 v8).ap (e33.trans (congrArg some e37))).triple) (finP trivial .normal [(0, 0), (1, 1), (2, 2)] (sat_Least.c1p a0 a1 y36.1 (iadd .i64 v5 (1 : Int)) y36.2.1 y36.2.2.1 y36.2.2.2))) (by kernel_rfl)) ((sat_Least.c1_ok k a0 a1 n y36.1 (iadd .i64 v5 (1 : Int)) y36.2.1 y36.2.2.1 y36.2.2.2).ap hy))) (fun e9 =>
   Owp.some (loop_exit (sat_Least.cok k) hmix [.dec false] [] [(0, 0), (1, 1)] (exne 0) (via (finP (And.intro trivial e9) (.exit 0) [(0, 0), (1, 1)] (sat_Least.c1q (.inr (v6, v7, v8)))) (by kernel_rfl)))))
theorem sat_Least.way (k : Nat) (a0 : (List V22)) (a1 : (List V22)) : Owp (sat_Least k a0 a1) fun y => ∃ answers cmds, exec PR (sat_Least.cx k) sat_Least.code 0 (entry (.pair T24 (.pair T24 .unit)) (a0, a1, ())).st answers (Ret (sat_Least.cx k) Try.f24 cmds (.more (.dp (.pair T4 T22)) (.more (.dp T4) (.one (.dp T2)))) y) := by
  unfold sat_Least; exact
   Owp.bnd fun y1 e2 =>
   Owp.bif (fun e3 =>
   Owp.some (⟨[.res (.one (.dp T2)) y1, .dec true], [], via (retP (And.intro (And.intro trivial e2) e3) (.more (.dp (.pair T4 T22)) (.more (.dp T4) (.one (.dp T2)))) (((false, (0 : Int), (0 : Int), ()), false, y1) : ((Bool × V22) × (Bool × Int)))) (by kernel_rfl)⟩)) (fun e3 =>
   Owp.bnd fun o38 e39 =>
    Owp.two (fun y40 e41 =>
    Owp.some (⟨[.res (.one (.dp T2)) y1, .dec false, .dec true, .cut ⟨[], [(0, 0), (1, 9), (2, 17)], (sat_Least.c1p a0 a1 false (0 : Int) false (0 : Int) (0 : Int)), 3, .ret, (sat_Least.c1q (.inl ())), 1⟩], [], via (cutP (And.intro (And.intro trivial e2) e3) [(0, 0), (1, 9), (2, 17)] (sat_Least.c1p a0 a1 false (0 : Int) false (0 : Int) (0 : Int)) (((sat_Least.c1_ok k a0 a1 k false (0 : Int) false (0 : Int) (0 : Int)).ap (e39.trans (congrArg some e41))).triple) (retP trivial (.more (.dp (.pair T4 T22)) (.more (.dp T4) (.one (.dp T2)))) (((false, (0 : Int), (0 : Int), ()), false, (0 : Int)) : ((Bool × V22) × (Bool × Int))))) (by kernel_rfl)⟩)) (fun y42 e43 =>
    Owp.some (⟨[.res (.one (.dp T2)) y1, .dec false, .dec true, .cut ⟨[], [(0, 0), (1, 9), (2, 17)], (sat_Least.c1p a0 a1 false (0 : Int) false (0 : Int) (0 : Int)), 3, (.exit 0), (sat_Least.c1q (.inr y42)), 2⟩], [], via (cutP (And.intro (And.intro trivial e2) e3) [(0, 0), (1, 9), (2, 17)] (sat_Least.c1p a0 a1 false (0 : Int) false (0 : Int) (0 : Int)) (((sat_Least.c1_ok k a0 a1 k false (0 : Int) false (0 : Int) (0 : Int)).ap (e39.trans (congrArg some e43))).triple) (retP trivial (.more (.dp (.pair T4 T22)) (.more (.dp T4) (.one (.dp T2)))) (((y42.1, y42.2.1, y42.2.2, ()), true, (0 : Int)) : ((Bool × V22) × (Bool × Int))))) (by kernel_rfl)⟩)))
theorem sat_Least.ok (k : Nat) : FnOk PR 24 (sat_Least.sp k) :=
  fn_ok (sat_Least.cok k) hmix Try.func24 (code := sat_Least.code) (by kernel_rfl) (by kernel_rfl) (by kernel_rfl) rfl rfl (by kernel_rfl) (by kernel_rfl) (by kernel_rfl) (fun x => Nat.le_of_ble_eq_true (by kernel_rfl)) fun x y hy => (sat_Least.way k x.1 x.2.1).ap hy

/-! tourney/sat.Test -/
noncomputable def sat_Test.code : Code := Func.cd Try.f25
def sat_Test.c1 (k : Nat) (y1 : ((Bool × V22) × (Bool × Int))) : Option (Bool) :=
  bif' (ine y1.2.2 0)
  (some true)
  (some (!y1.2.1))
def sat_Test (k : Nat) (a0 : (List V22)) (a1 : (List V22)) : Option (Bool × (Int × V22)) :=
  bnd (sat_Least k a0 a1) fun y1 =>
  bnd (sat_Test.c1 k y1) fun o4 =>
  bif' o4
  (some (false, 0, (0, 0, ())))
  (bif' y1.1.1
   (bnd (sat_Normal k a1 y1.1.2.1) fun y8 =>
    bnd (vec_Unit k ((ineg .i64 y8.1), (ineg .i64 y8.2.1), ())) fun y10 =>
    some (true, y1.1.2.2.1, y10))
   (bnd (sat_Normal k a0 y1.1.2.1) fun y12 =>
    bnd (vec_Unit k y12) fun y14 =>
    some (true, y1.1.2.2.1, y14)))
noncomputable def sat_Test.sp (k : Nat) : Go.Sx.Spec := ⟨(.pair T24 (.pair T24 .unit)), (.more (.dp T4) (.more (.dp T2) (.one (.dp T22)))), fun x => sat_Test k x.1 x.2.1, false⟩
noncomputable def sat_Test.cx (k : Nat) : Go.Sx.Ctx := ⟨tys, [(24, sat_Least.sp k), (31, sat_Normal.sp k), (98, vec_Unit.sp k)], eqs, 48, 0, [], false⟩
theorem sat_Test.cok (k : Nat) : CtxOk PR (sat_Test.cx k) := ctx_ok tysOk eqsOk (FnsOk.cons (sat_Least.ok k) (FnsOk.cons (sat_Normal.ok k) (FnsOk.cons (vec_Unit.ok k) FnsOk.nil))) HsOk.nil
noncomputable def sat_Test.c1p (a0 : (List V22)) (a1 : (List V22)) (y1 : ((Bool × V22) × (Bool × Int))) : SL := ⟨[(0, (.val T24 a0)), (1, (.val T24 a1)), (6, (.val .ptr ⟨0, 0, (0 : Int), 0, 0⟩)), (7, (.val .ptr ⟨1, 0, (0 : Int), 0, 0⟩)), (8, (.val T4 y1.2.1)), (9, (.val T2 y1.2.2))], [(0, .cells T22 ((0 : Int), (0 : Int), ())), (1, .cells (.pair T4 T22) y1.1)]⟩
noncomputable def sat_Test.c1q (a0 : (List V22)) (a1 : (List V22)) (y1 : ((Bool × V22) × (Bool × Int))) (o : Bool) : SL := (fun v => ⟨[(0, (.val T24 a0)), (1, (.val T24 a1)), (6, (.val .ptr ⟨0, 0, (0 : Int), 0, 0⟩)), (7, (.val .ptr ⟨1, 0, (0 : Int), 0, 0⟩)), (23, (.val T4 v))], [(0, .cells T22 ((0 : Int), (0 : Int), ())), (1, .cells (.pair T4 T22) y1.1)]⟩) o
noncomputable def sat_Test.c1x (o : Bool) : Ex := (fun _ => .normal) o
noncomputable def sat_Test.c1n (o : Bool) : Nat := (fun _ => 2) o
theorem sat_Test.c1_ok (k : Nat) (a0 : (List V22)) (a1 : (List V22)) (y1 : ((Bool × V22) × (Bool × Int))) : Owp (sat_Test.c1 k y1) fun o => Triple PR (sat_Test.cx k) (sub sat_Test.code [1, 1, 0, 0]) 2 (sat_Test.c1p a0 a1 y1) (sat_Test.c1x o) (sat_Test.c1n o) (sat_Test.c1q a0 a1 y1 o) := by
  unfold sat_Test.c1; exact
   Owp.bif (fun e3 =>
   Owp.some (triple_way (sat_Test.cok k) hmix [.dec true, .dec true, .dec true] [] [(0, 0), (1, 1)] (via (finP (And.intro (And.intro (And.intro trivial e3) e3) e3) .normal [(0, 0), (1, 1)] (sat_Test.c1q a0 a1 y1 true)) (by kernel_rfl)))) (fun e3 =>
   Owp.some (triple_way (sat_Test.cok k) hmix [.dec false, .dec false, .dec false] [] [(0, 0), (1, 1)] (via (finP (And.intro (And.intro (And.intro trivial e3) e3) e3) .normal [(0, 0), (1, 1)] (sat_Test.c1q a0 a1 y1 (!y1.2.1))) (by kernel_rfl))))
theorem sat_Test.way (k : Nat) (a0 : (List V22)) (a1 : (List V22)) : Owp (sat_Test k a0 a1) fun y => ∃ answers cmds, exec PR (sat_Test.cx k) sat_Test.code 0 (entry (.pair T24 (.pair T24 .unit)) (a0, a1, ())).st answers (Ret (sat_Test.cx k) Try.f25 cmds (.more (.dp T4) (.more (.dp T2) (.one (.dp T22)))) y) := by
  unfold sat_Test; exact
   Owp.bnd fun y1 e2 =>
   Owp.bnd fun o4 e5 =>
   Owp.bif (fun e6 =>
   Owp.some (⟨[.res (.more (.dp (.pair T4 T22)) (.more (.dp T4) (.one (.dp T2)))) y1, .cutR 2 ⟨[], [(0, 2), (1, 10)], (sat_Test.c1p a0 a1 y1), 2, .normal, (sat_Test.c1q a0 a1 y1 o4), 2⟩, .dec true], [], via (cutP (And.intro trivial e2) [(0, 2), (1, 10)] (sat_Test.c1p a0 a1 y1) (((sat_Test.c1_ok k a0 a1 y1).ap e5)) (retP (And.intro trivial e6) (.more (.dp T4) (.more (.dp T2) (.one (.dp T22)))) ((false, (0 : Int), ((0 : Int), (0 : Int), ())) : (Bool × (Int × V22))))) (by kernel_rfl)⟩)) (fun e6 =>
   Owp.bif (fun e7 =>
    Owp.bnd fun y8 e9 =>
     Owp.bnd fun y10 e11 =>
     Owp.some (⟨[.res (.more (.dp (.pair T4 T22)) (.more (.dp T4) (.one (.dp T2)))) y1, .cutR 2 ⟨[], [(0, 2), (1, 10)], (sat_Test.c1p a0 a1 y1), 2, .normal, (sat_Test.c1q a0 a1 y1 o4), 2⟩, .dec false, .dec true, .res (.one (.dp T22)) y8, .res (.one (.dp T22)) y10], [], via (cutP (And.intro trivial e2) [(0, 2), (1, 10)] (sat_Test.c1p a0 a1 y1) (((sat_Test.c1_ok k a0 a1 y1).ap e5)) (retP (And.intro (And.intro (And.intro (And.intro trivial e6) e7) e9) e11) (.more (.dp T4) (.more (.dp T2) (.one (.dp T22)))) ((true, y1.1.2.2.1, y10) : (Bool × (Int × V22))))) (by kernel_rfl)⟩)) (fun e7 =>
    Owp.bnd fun y12 e13 =>
     Owp.bnd fun y14 e15 =>
     Owp.some (⟨[.res (.more (.dp (.pair T4 T22)) (.more (.dp T4) (.one (.dp T2)))) y1, .cutR 2 ⟨[], [(0, 2), (1, 10)], (sat_Test.c1p a0 a1 y1), 2, .normal, (sat_Test.c1q a0 a1 y1 o4), 2⟩, .dec false, .dec false, .res (.one (.dp T22)) y12, .res (.one (.dp T22)) y14], [], via (cutP (And.intro trivial e2) [(0, 2), (1, 10)] (sat_Test.c1p a0 a1 y1) (((sat_Test.c1_ok k a0 a1 y1).ap e5)) (retP (And.intro (And.intro (And.intro (And.intro trivial e6) e7) e13) e15) (.more (.dp T4) (.more (.dp T2) (.one (.dp T22)))) ((true, y1.1.2.2.1, y14) : (Bool × (Int × V22))))) (by kernel_rfl)⟩)))
theorem sat_Test.ok (k : Nat) : FnOk PR 25 (sat_Test.sp k) :=
  fn_ok (sat_Test.cok k) hmix Try.func25 (code := sat_Test.code) (by kernel_rfl) (by kernel_rfl) (by kernel_rfl) rfl rfl (by kernel_rfl) (by kernel_rfl) (by kernel_rfl) (fun x => Nat.le_of_ble_eq_true (by kernel_rfl)) fun x y hy => (sat_Test.way k x.1 x.2.1).ap hy

/-! tourney/tourkeep2.square -/
noncomputable def tourkeep2_square.code : Code := Func.cd Try.f107
def tourkeep2_square (k : Nat) (a0 : Int) (a1 : Int) (a2 : Int) : Option (List V22) :=
  some [((isub .i64 (imul .i64 a0 65536) (imul .i64 a2 65536)), (isub .i64 (imul .i64 a1 65536) (imul .i64 a2 65536)), ()), ((iadd .i64 (imul .i64 a0 65536) (imul .i64 a2 65536)), (isub .i64 (imul .i64 a1 65536) (imul .i64 a2 65536)), ()), ((iadd .i64 (imul .i64 a0 65536) (imul .i64 a2 65536)), (iadd .i64 (imul .i64 a1 65536) (imul .i64 a2 65536)), ()), ((isub .i64 (imul .i64 a0 65536) (imul .i64 a2 65536)), (iadd .i64 (imul .i64 a1 65536) (imul .i64 a2 65536)), ())]
noncomputable def tourkeep2_square.sp (k : Nat) : Go.Sx.Spec := ⟨(.pair T2 T22), (.one (.ow T22 23)), fun x => tourkeep2_square k x.1 x.2.1 x.2.2.1, false⟩
noncomputable def tourkeep2_square.cx (k : Nat) : Go.Sx.Ctx := ⟨tys, [], eqs, 42, 0, [], false⟩
theorem tourkeep2_square.cok (k : Nat) : CtxOk PR (tourkeep2_square.cx k) := ctx_ok tysOk eqsOk FnsOk.nil HsOk.nil
theorem tourkeep2_square.way (k : Nat) (a0 : Int) (a1 : Int) (a2 : Int) : Owp (tourkeep2_square k a0 a1 a2) fun y => ∃ answers cmds, exec PR (tourkeep2_square.cx k) tourkeep2_square.code 0 (entry (.pair T2 T22) (a0, a1, a2, ())).st answers (Ret (tourkeep2_square.cx k) Try.f107 cmds (.one (.ow T22 23)) y) := by
  unfold tourkeep2_square; exact
   Owp.some (⟨[.dec true], [], via (retP trivial (.one (.ow T22 23)) ([((isub .i64 (imul .i64 a0 (65536 : Int)) (imul .i64 a2 (65536 : Int))), (isub .i64 (imul .i64 a1 (65536 : Int)) (imul .i64 a2 (65536 : Int))), ()), ((iadd .i64 (imul .i64 a0 (65536 : Int)) (imul .i64 a2 (65536 : Int))), (isub .i64 (imul .i64 a1 (65536 : Int)) (imul .i64 a2 (65536 : Int))), ()), ((iadd .i64 (imul .i64 a0 (65536 : Int)) (imul .i64 a2 (65536 : Int))), (iadd .i64 (imul .i64 a1 (65536 : Int)) (imul .i64 a2 (65536 : Int))), ()), ((isub .i64 (imul .i64 a0 (65536 : Int)) (imul .i64 a2 (65536 : Int))), (iadd .i64 (imul .i64 a1 (65536 : Int)) (imul .i64 a2 (65536 : Int))), ())] : (List V22))) (by kernel_rfl)⟩)
theorem tourkeep2_square.ok (k : Nat) : FnOk PR 107 (tourkeep2_square.sp k) :=
  fn_ok (tourkeep2_square.cok k) hmix Try.func107 (code := tourkeep2_square.code) (by kernel_rfl) (by kernel_rfl) (by kernel_rfl) rfl rfl (by kernel_rfl) (by kernel_rfl) (by kernel_rfl) (fun x => Nat.le_of_ble_eq_true (by kernel_rfl)) fun x y hy => (tourkeep2_square.way k x.1 x.2.1 x.2.2.1).ap hy

/-! tourney/near.lowest -/
noncomputable def near_lowest.code : Code := Func.cd Try.f137
def near_lowest.c2 (k : Nat) (a0 : (List V22)) (v1 : Int) (v2 : Int) : Option (Bool) :=
  req (inL v1 a0) <|
  bif' (ilt (el Z22 a0 v2).2.1 (el Z22 a0 v1).2.1)
  (some true)
  (bif' (ieq (el Z22 a0 v2).2.1 (el Z22 a0 v1).2.1)
   (some (ilt (el Z22 a0 v2).1 (el Z22 a0 v1).1))
   (some false))
def near_lowest.c1 (k : Nat) (a0 : (List V22)) : Nat → Int → Int → Option (Int)
  | 0, _, _ => none
  | n + 1, v1, v2 =>
   bif' (ilt v2 (len a0))
   (req (inL v2 a0) <|
    bnd (near_lowest.c2 k a0 v1 v2) fun o8 =>
    bif' o8
    (near_lowest.c1 k a0 n v2 (iadd .i64 v2 1))
    (near_lowest.c1 k a0 n v1 (iadd .i64 v2 1)))
   (some v1)
def near_lowest (k : Nat) (a0 : (List V22)) : Option Int :=
  bnd (near_lowest.c1 k a0 k 0 0) fun o11 =>
  some o11
noncomputable def near_lowest.sp (k : Nat) : Go.Sx.Spec := ⟨(.pair T24 .unit), (.one (.dp T2)), fun x => near_lowest k x.1, false⟩
noncomputable def near_lowest.cx (k : Nat) : Go.Sx.Ctx := ⟨tys, [], eqs, 44, 0, [], false⟩
theorem near_lowest.cok (k : Nat) : CtxOk PR (near_lowest.cx k) := ctx_ok tysOk eqsOk FnsOk.nil HsOk.nil
noncomputable def near_lowest.c2p (a0 : (List V22)) (v1 : Int) (v2 : Int) : SL := ⟨[(0, (.val T24 a0)), (3, (.val T2 v1)), (4, (.val T2 v2)), (5, (.val .ptr ⟨0, 0, (0 : Int), 0, 0⟩)), (6, (.val T24 a0)), (7, (.val T2 (len a0))), (8, (.val T2 v2))], [(0, .cells T22 (el Z22 a0 v2))]⟩
noncomputable def near_lowest.c2q (a0 : (List V22)) (v1 : Int) (v2 : Int) (o : Bool) : SL := (fun v => ⟨[(0, (.val T24 a0)), (3, (.val T2 v1)), (4, (.val T2 v2)), (6, (.val T24 a0)), (7, (.val T2 (len a0))), (8, (.val T2 v2)), (40, (.val T4 v))], []⟩) o
noncomputable def near_lowest.c2x (o : Bool) : Ex := (fun _ => .normal) o
noncomputable def near_lowest.c2n (o : Bool) : Nat := (fun _ => 0) o
theorem near_lowest.c2_ok (k : Nat) (a0 : (List V22)) (v1 : Int) (v2 : Int) : Owp (near_lowest.c2 k a0 v1 v2) fun o => Triple PR (near_lowest.cx k) (sub near_lowest.code [1, 1, 0, 1, 0, 0, 1, 1, 0, 0, 1, 0]) 1 (near_lowest.c2p a0 v1 v2) (near_lowest.c2x o) (near_lowest.c2n o) (near_lowest.c2q a0 v1 v2 o) := by
  unfold near_lowest.c2; exact
   Owp.req fun h5 =>
   Owp.bif (fun e6 =>
   Owp.some (triple_way (near_lowest.cok k) hmix [.dec true, .dec true, .dec true, .dec true, .dec true, .dec true, .dec true, .dec true, .dec true, .dec true, .dec true, .dec true, .dec true, .dec true, .dec true, .dec true, .dec true, .dec true, .dec true, .dec true] [] [] (via (finP (And.intro (And.intro (And.intro (And.intro (And.intro (And.intro (And.intro (And.intro (And.intro (And.intro (And.intro (And.intro trivial h5) e6) e6) e6) e6) e6) e6) e6) e6) e6) e6) e6) .normal [] (near_lowest.c2q a0 v1 v2 true)) (by kernel_rfl)))) (fun e6 =>
   Owp.bif (fun e7 =>
    Owp.some (triple_way (near_lowest.cok k) hmix [.dec false, .dec false, .dec false, .dec false, .dec false, .dec false, .dec false, .dec false, .dec false, .dec true, .dec true, .dec true, .dec true, .dec true, .dec true, .dec true, .dec true, .dec false, .dec true, .dec false] [] [] (via (finP (And.intro (And.intro (And.intro (And.intro (And.intro (And.intro (And.intro (And.intro (And.intro (And.intro (And.intro (And.intro (And.intro (And.intro (And.intro (And.intro (And.intro (And.intro (And.intro (And.intro trivial h5) e6) e6) e6) e6) (And.intro e6 h5)) e6) e6) e6) e6) e7) e7) e7) e7) (And.intro e7 h5)) e7) e7) e7) (And.intro e6 e7)) e6) .normal [] (near_lowest.c2q a0 v1 v2 (ilt (el Z22 a0 v2).1 (el Z22 a0 v1).1))) (by kernel_rfl)))) (fun e7 =>
    Owp.some (triple_way (near_lowest.cok k) hmix [.dec false, .dec false, .dec false, .dec false, .dec false, .dec false, .dec false, .dec false, .dec false, .dec false, .dec false, .dec false, .dec false, .dec false, .dec false, .dec false, .dec false, .dec false, .dec false, .dec false] [] [] (via (finP (And.intro (And.intro (And.intro (And.intro (And.intro (And.intro (And.intro (And.intro (And.intro (And.intro (And.intro (And.intro (And.intro (And.intro (And.intro (And.intro (And.intro (And.intro (And.intro (And.intro trivial h5) e6) e6) e6) e6) (And.intro e6 h5)) e6) e6) e6) e6) e7) e7) e7) e7) e7) e7) e7) e7) (And.intro e6 e7)) e6) .normal [] (near_lowest.c2q a0 v1 v2 false)) (by kernel_rfl)))))
noncomputable def near_lowest.c1p (a0 : (List V22)) (v1 : Int) (v2 : Int) : SL := ⟨[(0, (.val T24 a0)), (3, (.val T2 v1)), (6, (.val T24 a0)), (7, (.val T2 (len a0))), (8, (.val T2 v2))], []⟩
noncomputable def near_lowest.c1q (o : Int) : SL := (fun v => ⟨[(3, (.val T2 v))], []⟩) o
noncomputable def near_lowest.c1x (o : Int) : Ex := (fun _ => (.exit 0)) o
noncomputable def near_lowest.c1n (o : Int) : Nat := (fun _ => 0) o
theorem near_lowest.c1_ok (k : Nat) (a0 : (List V22)) : ∀ (n : Nat) (v1 : Int) (v2 : Int), Owp (near_lowest.c1 k a0 n v1 v2) fun o => LTriple PR (near_lowest.cx k) (sub near_lowest.code [1, 1, 0, 1, 0, 0]) 0 (near_lowest.c1p a0 v1 v2) (near_lowest.c1x o) (near_lowest.c1n o) (near_lowest.c1q o)
  | 0, _, _ => fun _ h => nomatch h
  | n + 1, v1, v2 => Owp.of (near_lowest.c1.eq_2 ..) (
   Owp.bif (fun e3 =>
   Owp.req fun h4 =>
    Owp.bnd fun o8 e9 =>
    Owp.bif (fun e10 =>
    fun y hy => loop_back (near_lowest.cok k) hmix 0 (near_lowest.c1p a0 v2 (iadd .i64 v2 (1 : Int))) [.dec true, .cutR 5 ⟨[], [(0, 4)], (near_lowest.c2p a0 v1 v2), 1, .normal, (near_lowest.c2q a0 v1 v2 o8), 0⟩, .dec true] [] [] (via (cutP (And.intro (And.intro trivial e3) h4) [(0, 4)] (near_lowest.c2p a0 v1 v2) (((near_lowest.c2_ok k a0 v1 v2).ap e9)) (finP (And.intro trivial e10) .normal [] (near_lowest.c1p a0 v2 (iadd .i64 v2 (1 : Int))))) (by kernel_rfl)) ((near_lowest.c1_ok k a0 n v2 (iadd .i64 v2 (1 : Int))).ap hy)) (fun e10 =>
    fun y hy => loop_back (near_lowest.cok k) hmix 0 (near_lowest.c1p a0 v1 (iadd .i64 v2 (1 : Int))) [.dec true, .cutR 5 ⟨[], [(0, 4)], (near_lowest.c2p a0 v1 v2), 1, .normal, (near_lowest.c2q a0 v1 v2 o8), 0⟩, .dec false] [] [] (via (cutP (And.intro (And.intro trivial e3) h4) [(0, 4)] (near_lowest.c2p a0 v1 v2) (((near_lowest.c2_ok k a0 v1 v2).ap e9)) (finP (And.intro trivial e10) .normal [] (near_lowest.c1p a0 v1 (iadd .i64 v2 (1 : Int))))) (by kernel_rfl)) ((near_lowest.c1_ok k a0 n v1 (iadd .i64 v2 (1 : Int))).ap hy))) (fun e3 =>
   Owp.some (loop_exit (near_lowest.cok k) hmix [.dec false] [] [] (exne 0) (via (finP (And.intro trivial e3) (.exit 0) [] (near_lowest.c1q v1)) (by kernel_rfl)))))
theorem near_lowest.way (k : Nat) (a0 : (List V22)) : Owp (near_lowest k a0) fun y => ∃ answers cmds, exec PR (near_lowest.cx k) near_lowest.code 0 (entry (.pair T24 .unit) (a0, ())).st answers (Ret (near_lowest.cx k) Try.f137 cmds (.one (.dp T2)) y) := by
  unfold near_lowest; exact
   Owp.bnd fun o11 e12 =>
   Owp.some (⟨[.cut ⟨[], [], (near_lowest.c1p a0 (0 : Int) (0 : Int)), 0, (.exit 0), (near_lowest.c1q o11), 0⟩], [], via (cutP trivial [] (near_lowest.c1p a0 (0 : Int) (0 : Int)) (((near_lowest.c1_ok k a0 k (0 : Int) (0 : Int)).ap e12).triple) (retP trivial (.one (.dp T2)) (o11 : Int))) (by kernel_rfl)⟩)
theorem near_lowest.ok (k : Nat) : FnOk PR 137 (near_lowest.sp k) :=
  fn_ok (near_lowest.cok k) hmix Try.func137 (code := near_lowest.code) (by kernel_rfl) (by kernel_rfl) (by kernel_rfl) rfl rfl (by kernel_rfl) (by kernel_rfl) (by kernel_rfl) (fun x => Nat.le_of_ble_eq_true (by kernel_rfl)) fun x y hy => (near_lowest.way k x.1).ap hy

/-! tourney/near.edge -/
noncomputable def near_edge.code : Code := Func.cd Try.f138
def near_edge (k : Nat) (a0 : (List V22)) (a1 : Int) (a2 : Int) : Option V22 :=
  req (nz (len a0)) <|
  req (inL (irem (iadd .i64 a1 a2) (len a0)) a0) <|
  req (inL (irem (iadd .i64 (iadd .i64 a1 a2) 1) (len a0)) a0) <|
  some ((isub .i64 (el Z22 a0 (irem (iadd .i64 (iadd .i64 a1 a2) 1) (len a0))).1 (el Z22 a0 (irem (iadd .i64 a1 a2) (len a0))).1), (isub .i64 (el Z22 a0 (irem (iadd .i64 (iadd .i64 a1 a2) 1) (len a0))).2.1 (el Z22 a0 (irem (iadd .i64 a1 a2) (len a0))).2.1), ())
noncomputable def near_edge.sp (k : Nat) : Go.Sx.Spec := ⟨(.pair T24 T22), (.one (.dp T22)), fun x => near_edge k x.1 x.2.1 x.2.2.1, false⟩
noncomputable def near_edge.cx (k : Nat) : Go.Sx.Ctx := ⟨tys, [], eqs, 39, 0, [], false⟩
theorem near_edge.cok (k : Nat) : CtxOk PR (near_edge.cx k) := ctx_ok tysOk eqsOk FnsOk.nil HsOk.nil
theorem near_edge.way (k : Nat) (a0 : (List V22)) (a1 : Int) (a2 : Int) : Owp (near_edge k a0 a1 a2) fun y => ∃ answers cmds, exec PR (near_edge.cx k) near_edge.code 0 (entry (.pair T24 T22) (a0, a1, a2, ())).st answers (Ret (near_edge.cx k) Try.f138 cmds (.one (.dp T22)) y) := by
  unfold near_edge; exact
   Owp.req fun h1 =>
   Owp.req fun h2 =>
   Owp.req fun h3 =>
   Owp.some (⟨[], [], via (retP (And.intro (And.intro (And.intro (And.intro trivial h1) h2) h1) h3) (.one (.dp T22)) (((isub .i64 (el Z22 a0 (irem (iadd .i64 (iadd .i64 a1 a2) (1 : Int)) (len a0))).1 (el Z22 a0 (irem (iadd .i64 a1 a2) (len a0))).1), (isub .i64 (el Z22 a0 (irem (iadd .i64 (iadd .i64 a1 a2) (1 : Int)) (len a0))).2.1 (el Z22 a0 (irem (iadd .i64 a1 a2) (len a0))).2.1), ()) : V22)) (by kernel_rfl)⟩)
theorem near_edge.ok (k : Nat) : FnOk PR 138 (near_edge.sp k) :=
  fn_ok (near_edge.cok k) hmix Try.func138 (code := near_edge.code) (by kernel_rfl) (by kernel_rfl) (by kernel_rfl) rfl rfl (by kernel_rfl) (by kernel_rfl) (by kernel_rfl) (fun x => Nat.le_of_ble_eq_true (by kernel_rfl)) fun x y hy => (near_edge.way k x.1 x.2.1 x.2.2.1).ap hy

/-! tourney/near.cross -/
noncomputable def near_cross.code : Code := Func.cd Try.f139
def near_cross (k : Nat) (a0 : V22) (a1 : V22) : Option Int :=
  some (isub .i64 (imul .i64 a0.1 a1.2.1) (imul .i64 a0.2.1 a1.1))
noncomputable def near_cross.sp (k : Nat) : Go.Sx.Spec := ⟨T52, (.one (.dp T2)), fun x => near_cross k x.1 x.2.1, false⟩
noncomputable def near_cross.cx (k : Nat) : Go.Sx.Ctx := ⟨tys, [], eqs, 16, 0, [], false⟩
theorem near_cross.cok (k : Nat) : CtxOk PR (near_cross.cx k) := ctx_ok tysOk eqsOk FnsOk.nil HsOk.nil
theorem near_cross.way (k : Nat) (a0 : V22) (a1 : V22) : Owp (near_cross k a0 a1) fun y => ∃ answers cmds, exec PR (near_cross.cx k) near_cross.code 0 (entry T52 (a0, a1, ())).st answers (Ret (near_cross.cx k) Try.f139 cmds (.one (.dp T2)) y) := by
  unfold near_cross; exact
   Owp.some (⟨[], [], via (retP trivial (.one (.dp T2)) ((isub .i64 (imul .i64 a0.1 a1.2.1) (imul .i64 a0.2.1 a1.1)) : Int)) (by kernel_rfl)⟩)
theorem near_cross.ok (k : Nat) : FnOk PR 139 (near_cross.sp k) :=
  fn_ok (near_cross.cok k) hmix Try.func139 (code := near_cross.code) (by kernel_rfl) (by kernel_rfl) (by kernel_rfl) rfl rfl (by kernel_rfl) (by kernel_rfl) (by kernel_rfl) (fun x => Nat.le_of_ble_eq_true (by kernel_rfl)) fun x y hy => (near_cross.way k x.1 x.2.1).ap hy

end Go.Proofs.T1
