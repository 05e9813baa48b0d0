import Derived.Test.YtolkdkhdkfndfaaG0
import Derived.Test.YtolkdkhdkfndfaaG1
import Derived.Test.YtolkdkhdkfndfaaLay
namespace Go.Proofs.T1
open Go Go.Sx Go.Proofs
set_option maxRecDepth 100000
set_option linter.unusedVariables false
/-! cmp.isNaN[int] -/
noncomputable def cmp_isNaN.code : Code := Func.cd Try.f154
noncomputable def cmp_isNaN (k : Nat) (a0 : Int) : Option Bool :=
  some (ine a0 a0)
noncomputable def cmp_isNaN.sp (k : Nat) : Go.Sx.Spec := ⟨(.pair T2 .unit), (.one (.dp T4)), fun x => cmp_isNaN k x.1, false⟩
noncomputable def cmp_isNaN.cx (k : Nat) : Go.Sx.Ctx := ⟨tys, [], eqs, 6, 0, [], false⟩
theorem cmp_isNaN.cok (k : Nat) : CtxOk PR (cmp_isNaN.cx k) := ctx_ok tysOk eqsOk FnsOk.nil HsOk.nil
theorem cmp_isNaN.way (k : Nat) (a0 : Int) : Owp (cmp_isNaN k a0) fun y => ∃ answers cmds, exec PR (cmp_isNaN.cx k) cmp_isNaN.code 0 (entry (.pair T2 .unit) (a0, ())).st answers (Ret (cmp_isNaN.cx k) Try.f154 cmds (.one (.dp T4)) y) := by
  unfold cmp_isNaN; exact
   Owp.some (⟨[], [], via (retP trivial (.one (.dp T4)) ((ine a0 a0) : Bool)) (by kernel_rfl)⟩)
theorem cmp_isNaN.ok (k : Nat) : FnOk PR 154 (cmp_isNaN.sp k) :=
  fn_ok (cmp_isNaN.cok k) hmix Try.func154 (code := cmp_isNaN.code) (by kernel_rfl) (by kernel_rfl) (by kernel_rfl) rfl rfl (by kernel_rfl) (by kernel_rfl) (by kernel_rfl) (fun x => Nat.le_of_ble_eq_true (by kernel_rfl)) fun x y hy => (cmp_isNaN.way k x.1).ap hy

/-! cmp.Compare[int] -/
noncomputable def cmp_Compare.code : Code := Func.cd Try.f103
noncomputable def cmp_Compare (k : Nat) (a0 : Int) (a1 : Int) : Option Int :=
  bnd (cmp_isNaN k a0) fun y1 =>
  bnd (cmp_isNaN k a1) fun y3 =>
  bif' y1
  (bif' y3
   (some 0)
   (some (-1)))
  (bif' y3
   (some 1)
   (bif' (ilt a0 a1)
    (some (-1))
    (bif' (igt a0 a1)
     (some 1)
     (some 0))))
noncomputable def cmp_Compare.sp (k : Nat) : Go.Sx.Spec := ⟨T27, (.one (.dp T2)), fun x => cmp_Compare k x.1 x.2.1, false⟩
noncomputable def cmp_Compare.cx (k : Nat) : Go.Sx.Ctx := ⟨tys, [(154, cmp_isNaN.sp k)], eqs, 20, 0, [], false⟩
theorem cmp_Compare.cok (k : Nat) : CtxOk PR (cmp_Compare.cx k) := ctx_ok tysOk eqsOk (FnsOk.cons (cmp_isNaN.ok k) FnsOk.nil) HsOk.nil
theorem cmp_Compare.way (k : Nat) (a0 : Int) (a1 : Int) : Owp (cmp_Compare k a0 a1) fun y => ∃ answers cmds, exec PR (cmp_Compare.cx k) cmp_Compare.code 0 (entry T27 (a0, a1, ())).st answers (Ret (cmp_Compare.cx k) Try.f103 cmds (.one (.dp T2)) y) := by
  unfold cmp_Compare; exact
   Owp.bnd fun y1 e2 =>
   Owp.bnd fun y3 e4 =>
   Owp.bif (fun e5 =>
   Owp.bif (fun e6 =>
    Owp.some (⟨[.res (.one (.dp T4)) y1, .res (.one (.dp T4)) y3, .dec true, .dec true], [], via (retP (And.intro (And.intro (And.intro (And.intro trivial e2) e4) e5) e6) (.one (.dp T2)) ((0 : Int) : Int)) (by kernel_rfl)⟩)) (fun e6 =>
    Owp.some (⟨[.res (.one (.dp T4)) y1, .res (.one (.dp T4)) y3, .dec true, .dec false], [], via (retP (And.intro (And.intro (And.intro (And.intro trivial e2) e4) e5) e6) (.one (.dp T2)) ((-1 : Int) : Int)) (by kernel_rfl)⟩))) (fun e5 =>
   Owp.bif (fun e7 =>
    Owp.some (⟨[.res (.one (.dp T4)) y1, .res (.one (.dp T4)) y3, .dec false, .dec true], [], via (retP (And.intro (And.intro (And.intro (And.intro trivial e2) e4) e5) e7) (.one (.dp T2)) ((1 : Int) : Int)) (by kernel_rfl)⟩)) (fun e7 =>
    Owp.bif (fun e8 =>
     Owp.some (⟨[.res (.one (.dp T4)) y1, .res (.one (.dp T4)) y3, .dec false, .dec false, .dec true], [], via (retP (And.intro (And.intro (And.intro (And.intro (And.intro trivial e2) e4) e5) e7) e8) (.one (.dp T2)) ((-1 : Int) : Int)) (by kernel_rfl)⟩)) (fun e8 =>
     Owp.bif (fun e9 =>
      Owp.some (⟨[.res (.one (.dp T4)) y1, .res (.one (.dp T4)) y3, .dec false, .dec false, .dec false, .dec true], [], via (retP (And.intro (And.intro (And.intro (And.intro (And.intro (And.intro trivial e2) e4) e5) e7) e8) e9) (.one (.dp T2)) ((1 : Int) : Int)) (by kernel_rfl)⟩)) (fun e9 =>
      Owp.some (⟨[.res (.one (.dp T4)) y1, .res (.one (.dp T4)) y3, .dec false, .dec false, .dec false, .dec false], [], via (retP (And.intro (And.intro (And.intro (And.intro (And.intro (And.intro trivial e2) e4) e5) e7) e8) e9) (.one (.dp T2)) ((0 : Int) : Int)) (by kernel_rfl)⟩)))))
theorem cmp_Compare.ok (k : Nat) : FnOk PR 103 (cmp_Compare.sp k) :=
  fn_ok (cmp_Compare.cok k) hmix Try.func103 (code := cmp_Compare.code) (by kernel_rfl) (by kernel_rfl) (by kernel_rfl) rfl rfl (by kernel_rfl) (by kernel_rfl) (by kernel_rfl) (fun x => Nat.le_of_ble_eq_true (by kernel_rfl)) fun x y hy => (cmp_Compare.way k x.1 x.2.1).ap hy

/-! tourney/sweep.Pairs$1 -/
noncomputable def sweep_Pairs_1.code : Code := Func.cd Try.f102
noncomputable def sweep_Pairs_1 (k : Nat) (a0 : Int) (a1 : Int) (a2 : (List V41)) : Option Int :=
  req (inL a0 a2) <|
  req (inL a1 a2) <|
  bnd (cmp_Compare k (el Z41 a2 a0).1.1 (el Z41 a2 a1).1.1) fun y3 =>
  some y3
noncomputable def sweep_Pairs_1.sp (k : Nat) : Go.Sx.Spec := ⟨(.pair T2 (.pair T2 (.pair (.ref (.slice T41)) .unit))), (.one (.dp T2)), fun x => sweep_Pairs_1 k x.1 x.2.1 x.2.2.1, false⟩
noncomputable def sweep_Pairs_1.cx (k : Nat) : Go.Sx.Ctx := ⟨tys, [(103, cmp_Compare.sp k)], eqs, 19, 0, [], false⟩
theorem sweep_Pairs_1.cok (k : Nat) : CtxOk PR (sweep_Pairs_1.cx k) := ctx_ok tysOk eqsOk (FnsOk.cons (cmp_Compare.ok k) FnsOk.nil) HsOk.nil
theorem sweep_Pairs_1.way (k : Nat) (a0 : Int) (a1 : Int) (a2 : (List V41)) : Owp (sweep_Pairs_1 k a0 a1 a2) fun y => ∃ answers cmds, exec PR (sweep_Pairs_1.cx k) sweep_Pairs_1.code 0 (entry (.pair T2 (.pair T2 (.pair (.ref (.slice T41)) .unit))) (a0, a1, a2, ())).st answers (Ret (sweep_Pairs_1.cx k) Try.f102 cmds (.one (.dp T2)) y) := by
  unfold sweep_Pairs_1; exact
   Owp.req fun h1 =>
   Owp.req fun h2 =>
   Owp.bnd fun y3 e4 =>
   Owp.some (⟨[.res (.one (.dp T2)) y3], [], via (retP (And.intro (And.intro (And.intro trivial h1) h2) e4) (.one (.dp T2)) (y3 : Int)) (by kernel_rfl)⟩)
theorem sweep_Pairs_1.ok (k : Nat) : FnOk PR 102 (sweep_Pairs_1.sp k) :=
  fn_ok (sweep_Pairs_1.cok k) hmix Try.func102 (code := sweep_Pairs_1.code) (by kernel_rfl) (by kernel_rfl) (by kernel_rfl) rfl rfl (by kernel_rfl) (by kernel_rfl) (by kernel_rfl) (fun x => Nat.le_of_ble_eq_true (by kernel_rfl)) fun x y hy => (sweep_Pairs_1.way k x.1 x.2.1 x.2.2.1).ap hy

/-! slices.SortFunc[[]int,int] -/
noncomputable def slices_SortFunc_101 (k : Nat) (r0 : (List Int)) (c1 : (List V41)) : Option (List Int) := sortG T2 r0 (fun z => sweep_Pairs_1 k z.1 z.2.1 c1)
noncomputable def slices_SortFunc_101.h (k : Nat) : Go.Sx.HSp := sortH1 T2 (.slice T41) 3 102 (fun x => sweep_Pairs_1 k x.1 x.2.1 x.2.2.1)
theorem slices_SortFunc_101.ok (k : Nat) : HOk PR 101 (slices_SortFunc_101.h k) := sortH1_ok sortsAt_101 (by kernel_rfl) (by kernel_rfl) 3 (enters_of Try.func102 (by kernel_rfl) rfl) (sweep_Pairs_1.ok k)

/-! slices.IndexFunc[[]int,int] -/
noncomputable def slices_IndexFunc_124.code : Code := Func.cd Try.f124
noncomputable def slices_IndexFunc_124.c1 (k : Nat) (a0 : (List Int)) (a1 : ((Int × Unit) → Option Bool)) : Nat → Int → Option (Int ⊕ Unit)
  | 0, _ => none
  | n + 1, v1 =>
   bif' (ilt v1 (len a0))
   (req (inL v1 a0) <|
    bnd (a1 ((el 0 a0 v1), ())) fun y4 =>
    bif' y4
    (some (.inl v1))
    (slices_IndexFunc_124.c1 k a0 a1 n (iadd .i64 v1 1)))
   (some (.inr ()))
noncomputable def slices_IndexFunc_124 (k : Nat) (a0 : (List Int)) (a1 : ((Int × Unit) → Option Bool)) : Option Int :=
  bnd (slices_IndexFunc_124.c1 k a0 a1 k 0) fun o7 =>
  two o7 (fun y9 =>
  some y9) (fun y11 =>
  some (-1))
noncomputable def slices_IndexFunc_124.sp (k : Nat) : Go.Sx.Spec := ⟨(.pair T31 (.pair (.fn (.pair T2 .unit) T4) .unit)), (.one (.dp T2)), fun x => slices_IndexFunc_124 k x.1 x.2.1, false⟩
noncomputable def slices_IndexFunc_124.cx (k : Nat) : Go.Sx.Ctx := ⟨tys, [], eqs, 19, 0, [], false⟩
theorem slices_IndexFunc_124.cok (k : Nat) : CtxOk PR (slices_IndexFunc_124.cx k) := ctx_ok tysOk eqsOk FnsOk.nil HsOk.nil
noncomputable def slices_IndexFunc_124.c1p (a0 : (List Int)) (a1 : ((Int × Unit) → Option Bool)) (v1 : Int) : SL := ⟨[(0, (.val T31 a0)), (1, (.val (.fn (.pair T2 .unit) T4) a1)), (7, (.val T2 (len a0))), (8, (.val T2 v1))], []⟩
noncomputable def slices_IndexFunc_124.c1q (o : Int ⊕ Unit) : SL := (fun o => two o (fun v => ⟨[(4, (.val T2 v))], []⟩) (fun v => ⟨[], []⟩)) o
noncomputable def slices_IndexFunc_124.c1x (o : Int ⊕ Unit) : Ex := (fun o => two o (fun _ => .ret) (fun _ => (.exit 0))) o
noncomputable def slices_IndexFunc_124.c1n (o : Int ⊕ Unit) : Nat := (fun o => two o (fun _ => 0) (fun _ => 0)) o
theorem slices_IndexFunc_124.c1_ok (k : Nat) (a0 : (List Int)) (a1 : ((Int × Unit) → Option Bool)) : ∀ (n : Nat) (v1 : Int), Owp (slices_IndexFunc_124.c1 k a0 a1 n v1) fun o => LTriple PR (slices_IndexFunc_124.cx k) (sub slices_IndexFunc_124.code [1, 0, 1, 0, 0]) 0 (slices_IndexFunc_124.c1p a0 a1 v1) (slices_IndexFunc_124.c1x o) (slices_IndexFunc_124.c1n o) (slices_IndexFunc_124.c1q o)
  | 0, _ => fun _ h => nomatch h
  | n + 1, v1 => Owp.of (slices_IndexFunc_124.c1.eq_2 ..) (
   Owp.bif (fun e2 =>
   Owp.req fun h3 =>
    Owp.bnd fun y4 e5 =>
    Owp.bif (fun e6 =>
    Owp.some (loop_exit (slices_IndexFunc_124.cok k) hmix [.dec true, .res (.one (.dp T4)) y4, .dec true] [] [] exne_ret (via (finP (And.intro (And.intro (And.intro (And.intro trivial e2) h3) e5) e6) .ret [] (slices_IndexFunc_124.c1q (.inl v1))) (by kernel_rfl)))) (fun e6 =>
    fun y hy => loop_back (slices_IndexFunc_124.cok k) hmix 0 (slices_IndexFunc_124.c1p a0 a1 (iadd .i64 v1 (1 : Int))) [.dec true, .res (.one (.dp T4)) y4, .dec false] [] [] (via (finP (And.intro (And.intro (And.intro (And.intro trivial e2) h3) e5) e6) .normal [] (slices_IndexFunc_124.c1p a0 a1 (iadd .i64 v1 (1 : Int)))) (by kernel_rfl)) ((slices_IndexFunc_124.c1_ok k a0 a1 n (iadd .i64 v1 (1 : Int))).ap hy))) (fun e2 =>
   Owp.some (loop_exit (slices_IndexFunc_124.cok k) hmix [.dec false] [] [] (exne 0) (via (finP (And.intro trivial e2) (.exit 0) [] (slices_IndexFunc_124.c1q (.inr ()))) (by kernel_rfl)))))
theorem slices_IndexFunc_124.way (k : Nat) (a0 : (List Int)) (a1 : ((Int × Unit) → Option Bool)) : Owp (slices_IndexFunc_124 k a0 a1) fun y => ∃ answers cmds, exec PR (slices_IndexFunc_124.cx k) slices_IndexFunc_124.code 0 (entry (.pair T31 (.pair (.fn (.pair T2 .unit) T4) .unit)) (a0, a1, ())).st answers (Ret (slices_IndexFunc_124.cx k) Try.f124 cmds (.one (.dp T2)) y) := by
  unfold slices_IndexFunc_124; exact
   Owp.bnd fun o7 e8 =>
   Owp.two (fun y9 e10 =>
   Owp.some (⟨[.cut ⟨[], [], (slices_IndexFunc_124.c1p a0 a1 (0 : Int)), 0, .ret, (slices_IndexFunc_124.c1q (.inl y9)), 0⟩], [], via (cutP trivial [] (slices_IndexFunc_124.c1p a0 a1 (0 : Int)) (((slices_IndexFunc_124.c1_ok k a0 a1 k (0 : Int)).ap (e8.trans (congrArg some e10))).triple) (retP trivial (.one (.dp T2)) (y9 : Int))) (by kernel_rfl)⟩)) (fun y11 e12 =>
   Owp.some (⟨[.cut ⟨[], [], (slices_IndexFunc_124.c1p a0 a1 (0 : Int)), 0, (.exit 0), (slices_IndexFunc_124.c1q (.inr ())), 0⟩], [], via (cutP trivial [] (slices_IndexFunc_124.c1p a0 a1 (0 : Int)) (((slices_IndexFunc_124.c1_ok k a0 a1 k (0 : Int)).ap (e8.trans (congrArg some e12))).triple) (retP trivial (.one (.dp T2)) ((-1 : Int) : Int))) (by kernel_rfl)⟩))
theorem slices_IndexFunc_124.ok (k : Nat) : FnOk PR 124 (slices_IndexFunc_124.sp k) :=
  fn_ok (slices_IndexFunc_124.cok k) hmix Try.func124 (code := slices_IndexFunc_124.code) (by kernel_rfl) (by kernel_rfl) (by kernel_rfl) rfl rfl (by kernel_rfl) (by kernel_rfl) (by kernel_rfl) (fun x => Nat.le_of_ble_eq_true (by kernel_rfl)) fun x y hy => (slices_IndexFunc_124.way k x.1 x.2.1).ap hy

/-! tourney/sweep.Pairs$2 -/
noncomputable def sweep_Pairs_2.code : Code := Func.cd Try.f105
noncomputable def sweep_Pairs_2 (k : Nat) (a0 : Int) (a1 : (List V41)) (a2 : Int) : Option Bool :=
  req (inL a0 a1) <|
  req (inL a2 a1) <|
  some (ilt (el Z41 a1 a0).2.1.1 (el Z41 a1 a2).1.1)
noncomputable def sweep_Pairs_2.sp (k : Nat) : Go.Sx.Spec := ⟨(.pair T2 (.pair (.ref (.slice T41)) (.pair (.ref T2) .unit))), (.one (.dp T4)), fun x => sweep_Pairs_2 k x.1 x.2.1 x.2.2.1, false⟩
noncomputable def sweep_Pairs_2.cx (k : Nat) : Go.Sx.Ctx := ⟨tys, [], eqs, 18, 0, [], false⟩
theorem sweep_Pairs_2.cok (k : Nat) : CtxOk PR (sweep_Pairs_2.cx k) := ctx_ok tysOk eqsOk FnsOk.nil HsOk.nil
theorem sweep_Pairs_2.way (k : Nat) (a0 : Int) (a1 : (List V41)) (a2 : Int) : Owp (sweep_Pairs_2 k a0 a1 a2) fun y => ∃ answers cmds, exec PR (sweep_Pairs_2.cx k) sweep_Pairs_2.code 0 (entry (.pair T2 (.pair (.ref (.slice T41)) (.pair (.ref T2) .unit))) (a0, a1, a2, ())).st answers (Ret (sweep_Pairs_2.cx k) Try.f105 cmds (.one (.dp T4)) y) := by
  unfold sweep_Pairs_2; exact
   Owp.req fun h1 =>
   Owp.req fun h2 =>
   Owp.some (⟨[], [], via (retP (And.intro (And.intro trivial h1) h2) (.one (.dp T4)) ((ilt (el Z41 a1 a0).2.1.1 (el Z41 a1 a2).1.1) : Bool)) (by kernel_rfl)⟩)
theorem sweep_Pairs_2.ok (k : Nat) : FnOk PR 105 (sweep_Pairs_2.sp k) :=
  fn_ok (sweep_Pairs_2.cok k) hmix Try.func105 (code := sweep_Pairs_2.code) (by kernel_rfl) (by kernel_rfl) (by kernel_rfl) rfl rfl (by kernel_rfl) (by kernel_rfl) (by kernel_rfl) (fun x => Nat.le_of_ble_eq_true (by kernel_rfl)) fun x y hy => (sweep_Pairs_2.way k x.1 x.2.1 x.2.2.1).ap hy

/-! slices.DeleteFunc[[]int,int] -/
noncomputable def slices_DeleteFunc.code : Code := Func.cd Try.f104
noncomputable def slices_DeleteFunc.c2 (k : Nat) (v4 : Int) (v5 : Int) (v6 : (List Int)) (y9 : Bool) : Option ((Int × (List Int))) :=
  bif' y9
  (some (v4, v6))
  (req (inL v4 v6) <|
   some ((iadd .i64 v4 1), (st v6 v4 (el 0 v6 v5))))
noncomputable def slices_DeleteFunc.c1 (k : Nat) (a1 : ((Int × Unit) → Option Bool)) : Nat → Int → Int → (List Int) → Option ((Int × (List Int)))
  | 0, _, _, _ => none
  | n + 1, v4, v5, v6 =>
   bif' (ilt v5 (len v6))
   (req (inL v5 v6) <|
    bnd (a1 ((el 0 v6 v5), ())) fun y9 =>
    bnd (slices_DeleteFunc.c2 k v4 v5 v6 y9) fun o13 =>
    slices_DeleteFunc.c1 k a1 n o13.1 (iadd .i64 v5 1) o13.2)
   (some (v4, v6))
noncomputable def slices_DeleteFunc (k : Nat) (a1 : ((Int × Unit) → Option Bool)) (r0 : (List Int)) : Option (List Int) :=
  bnd (slices_IndexFunc_124 k r0 a1) fun y1 =>
  bif' (ieq y1 (-1))
  (some r0)
  (bnd (slices_DeleteFunc.c1 k a1 k y1 (iadd .i64 y1 1) r0) fun o15 =>
   req (sufIn o15.1 (List.length o15.2)) <|
   req (Int.toNat o15.1 ≤ List.length o15.2) <|
   req (tkOk (clr 0 o15.2 (Int.toNat o15.1)) o15.1) <|
   some (tk (clr 0 o15.2 (Int.toNat o15.1)) o15.1))
noncomputable def slices_DeleteFunc.h (k : Nat) : Go.Sx.HSp := ⟨(.pair (.fn (.pair T2 .unit) T4) (.pair T31 .unit)), (.slice T2), 1, fun x => [.lent (.val .own (0 : Nat)), .dat (.fn (.pair T2 .unit) T4) x.1], fun x => [(0, .row T2 x.2.1 3)], fun x => slices_DeleteFunc k x.1 x.2.1, fun x y => [(0, .row T2 y 3)], .none, fun y => (), false, true⟩
noncomputable def slices_DeleteFunc.cx (k : Nat) : Go.Sx.Ctx := ⟨tys, [(124, slices_IndexFunc_124.sp k)], eqs, 42, 0, [], false⟩
theorem slices_DeleteFunc.cok (k : Nat) : CtxOk PR (slices_DeleteFunc.cx k) := ctx_ok tysOk eqsOk (FnsOk.cons (slices_IndexFunc_124.ok k) FnsOk.nil) HsOk.nil
noncomputable def slices_DeleteFunc.c2p (a1 : ((Int × Unit) → Option Bool)) (v4 : Int) (v5 : Int) (v6 : (List Int)) (y9 : Bool) : SL := ⟨[(0, (.val .own (0 : Nat))), (1, (.val (.fn (.pair T2 .unit) T4) a1)), (5, (.val T2 v4)), (6, (.val T2 v5)), (7, (.val T2 (el (0 : Int) v6 v5))), (29, (.val T4 (!y9)))], [(0, .row T2 v6 3)]⟩
noncomputable def slices_DeleteFunc.c2q (a1 : ((Int × Unit) → Option Bool)) (v5 : Int) (o : (Int × (List Int))) : SL := (fun v => ⟨[(0, (.val .own (0 : Nat))), (1, (.val (.fn (.pair T2 .unit) T4) a1)), (5, (.val T2 v.1)), (6, (.val T2 v5))], [(0, .row T2 v.2 3)]⟩) o
noncomputable def slices_DeleteFunc.c2x (o : (Int × (List Int))) : Ex := (fun _ => .normal) o
noncomputable def slices_DeleteFunc.c2n (o : (Int × (List Int))) : Nat := (fun _ => 1) o
theorem slices_DeleteFunc.c2_ok (k : Nat) (a1 : ((Int × Unit) → Option Bool)) (v4 : Int) (v5 : Int) (v6 : (List Int)) (y9 : Bool) : Owp (slices_DeleteFunc.c2 k v4 v5 v6 y9) fun o => Triple PR (slices_DeleteFunc.cx k) (sub slices_DeleteFunc.code [1, 1, 1, 0, 1, 0, 0, 1, 0, 0, 1, 1]) 1 (slices_DeleteFunc.c2p a1 v4 v5 v6 y9) (slices_DeleteFunc.c2x o) (slices_DeleteFunc.c2n o) (slices_DeleteFunc.c2q a1 v5 o) := by
  unfold slices_DeleteFunc.c2; exact
   Owp.bif (fun e11 =>
   Owp.some (triple_way (slices_DeleteFunc.cok k) hmix [.dec false] [] [(0, 0)] (via (finP (And.intro trivial (congrArg not e11)) .normal [(0, 0)] (slices_DeleteFunc.c2q a1 v5 (v4, v6))) (by kernel_rfl)))) (fun e11 =>
   Owp.req fun h12 =>
    Owp.some (triple_way (slices_DeleteFunc.cok k) hmix [.dec true] [] [(0, 0)] (via (finP (And.intro (And.intro (And.intro trivial (congrArg not e11)) h12) h12) .normal [(0, 0)] (slices_DeleteFunc.c2q a1 v5 ((iadd .i64 v4 (1 : Int)), (st v6 v4 (el (0 : Int) v6 v5))))) (by kernel_rfl))))
noncomputable def slices_DeleteFunc.c1p (a1 : ((Int × Unit) → Option Bool)) (v4 : Int) (v5 : Int) (v6 : (List Int)) : SL := ⟨[(0, (.val .own (0 : Nat))), (1, (.val (.fn (.pair T2 .unit) T4) a1)), (5, (.val T2 v4)), (6, (.val T2 v5))], [(0, .row T2 v6 3)]⟩
noncomputable def slices_DeleteFunc.c1q (o : (Int × (List Int))) : SL := (fun v => ⟨[(0, (.val .own (0 : Nat))), (5, (.val T2 v.1))], [(0, .row T2 v.2 3)]⟩) o
noncomputable def slices_DeleteFunc.c1x (o : (Int × (List Int))) : Ex := (fun _ => (.exit 0)) o
noncomputable def slices_DeleteFunc.c1n (o : (Int × (List Int))) : Nat := (fun _ => 1) o
theorem slices_DeleteFunc.c1_ok (k : Nat) (a1 : ((Int × Unit) → Option Bool)) : ∀ (n : Nat) (v4 : Int) (v5 : Int) (v6 : (List Int)), Owp (slices_DeleteFunc.c1 k a1 n v4 v5 v6) fun o => LTriple PR (slices_DeleteFunc.cx k) (sub slices_DeleteFunc.code [1, 1, 1, 0, 1, 0, 0]) 1 (slices_DeleteFunc.c1p a1 v4 v5 v6) (slices_DeleteFunc.c1x o) (slices_DeleteFunc.c1n o) (slices_DeleteFunc.c1q o)
  | 0, _, _, _ => fun _ h => nomatch h
  | n + 1, v4, v5, v6 => Owp.of (slices_DeleteFunc.c1.eq_2 ..) (
   Owp.bif (fun e7 =>
   Owp.req fun h8 =>
    Owp.bnd fun y9 e10 =>
    Owp.bnd fun o13 e14 =>
    fun y hy => loop_back (slices_DeleteFunc.cok k) hmix 1 (slices_DeleteFunc.c1p a1 o13.1 (iadd .i64 v5 (1 : Int)) o13.2) [.dec true, .res (.one (.dp T4)) y9, .cut ⟨[], [(0, 0)], (slices_DeleteFunc.c2p a1 v4 v5 v6 y9), 1, .normal, (slices_DeleteFunc.c2q a1 v5 o13), 1⟩] [] [(0, 0)] (via (cutP (And.intro (And.intro (And.intro (And.intro trivial e7) h8) h8) e10) [(0, 0)] (slices_DeleteFunc.c2p a1 v4 v5 v6 y9) (((slices_DeleteFunc.c2_ok k a1 v4 v5 v6 y9).ap e14)) (finP trivial .normal [(0, 0)] (slices_DeleteFunc.c1p a1 o13.1 (iadd .i64 v5 (1 : Int)) o13.2))) (by kernel_rfl)) ((slices_DeleteFunc.c1_ok k a1 n o13.1 (iadd .i64 v5 (1 : Int)) o13.2).ap hy)) (fun e7 =>
   Owp.some (loop_exit (slices_DeleteFunc.cok k) hmix [.dec false] [] [(0, 0)] (exne 0) (via (finP (And.intro trivial e7) (.exit 0) [(0, 0)] (slices_DeleteFunc.c1q (v4, v6))) (by kernel_rfl)))))
@[irreducible] noncomputable def slices_DeleteFunc.P (k : Nat) (a1 : ((Int × Unit) → Option Bool)) (r0 : (List Int)) (y : (List Int)) (answers : List Ans) (cmds : List Cmd) : Prop := exec PR (slices_DeleteFunc.cx k) slices_DeleteFunc.code 1 (entryH (slices_DeleteFunc.h k) (a1, r0, ())).st answers (RetG (slices_DeleteFunc.cx k) Try.f104 cmds (slices_DeleteFunc.h k) (a1, r0, ()) y)
theorem slices_DeleteFunc.way (k : Nat) (a1 : ((Int × Unit) → Option Bool)) (r0 : (List Int)) : Owp (slices_DeleteFunc k a1 r0) fun y => ∃ answers cmds, slices_DeleteFunc.P k a1 r0 y answers cmds := by
  unfold slices_DeleteFunc; exact
   Owp.bnd fun y1 e2 =>
   Owp.bif (fun e3 =>
   Owp.some (⟨[.res (.one (.dp T2)) y1, .dec true], [], via (retgP (And.intro (And.intro trivial e2) e3) (some (.row T2 r0 3))) (by kernel_rfl)⟩)) (fun e3 =>
   Owp.bnd fun o15 e16 =>
    Owp.req fun h17 =>
    Owp.req fun h18 =>
    Owp.req fun h19 =>
    Owp.some (⟨[.res (.one (.dp T2)) y1, .dec false, .cut ⟨[], [(0, 0)], (slices_DeleteFunc.c1p a1 y1 (iadd .i64 y1 (1 : Int)) r0), 1, (.exit 0), (slices_DeleteFunc.c1q o15), 1⟩], [], via (cutP (And.intro (And.intro trivial e2) e3) [(0, 0)] (slices_DeleteFunc.c1p a1 y1 (iadd .i64 y1 (1 : Int)) r0) (((slices_DeleteFunc.c1_ok k a1 k y1 (iadd .i64 y1 (1 : Int)) r0).ap e16).triple) (retgP (And.intro (And.intro (And.intro trivial h17) h18) h19) (some (.row T2 (tk (clr (0 : Int) o15.2 (Int.toNat o15.1)) o15.1) 3)))) (by kernel_rfl)⟩))
theorem slices_DeleteFunc.ok (k : Nat) : HOk PR 104 (slices_DeleteFunc.h k) :=
  fnG_ok (slices_DeleteFunc.cok k) hmix Try.func104 (code := slices_DeleteFunc.code) (by kernel_rfl) (by kernel_rfl) (by kernel_rfl) (by kernel_rfl) (by kernel_rfl) (by kernel_rfl) (fun x => Nat.le_of_ble_eq_true (by kernel_rfl)) (fun x => ⟨_, _, _, rfl⟩) fun x y hy => match (slices_DeleteFunc.way k x.1 x.2.1).ap hy with | ⟨ans, cmds, h⟩ => ⟨ans, cmds, via h (by kernel_rfl)⟩

/-! cmp.Or[int] -/
noncomputable def cmp_Or.code : Code := Func.cd Try.f107
noncomputable def cmp_Or.c1 (k : Nat) (a0 : (List Int)) : Nat → Int → Option (Int ⊕ Unit)
  | 0, _ => none
  | n + 1, v1 =>
   bif' (ilt v1 (len a0))
   (req (inL v1 a0) <|
    bif' (ine (el 0 a0 v1) 0)
    (some (.inl (el 0 a0 v1)))
    (cmp_Or.c1 k a0 n (iadd .i64 v1 1)))
   (some (.inr ()))
noncomputable def cmp_Or (k : Nat) (a0 : (List Int)) : Option Int :=
  bnd (cmp_Or.c1 k a0 k 0) fun o5 =>
  two o5 (fun y7 =>
  some y7) (fun y9 =>
  some 0)
noncomputable def cmp_Or.sp (k : Nat) : Go.Sx.Spec := ⟨(.pair T31 .unit), (.one (.dp T2)), fun x => cmp_Or k x.1, false⟩
noncomputable def cmp_Or.cx (k : Nat) : Go.Sx.Ctx := ⟨tys, [], eqs, 18, 0, [], false⟩
theorem cmp_Or.cok (k : Nat) : CtxOk PR (cmp_Or.cx k) := ctx_ok tysOk eqsOk FnsOk.nil HsOk.nil
noncomputable def cmp_Or.c1p (a0 : (List Int)) (v1 : Int) : SL := ⟨[(3, (.val T2 (0 : Int))), (6, (.val T31 a0)), (7, (.val T2 (len a0))), (8, (.val T2 v1))], []⟩
noncomputable def cmp_Or.c1q (o : Int ⊕ Unit) : SL := (fun o => two o (fun v => ⟨[(2, (.val T2 v))], []⟩) (fun v => ⟨[(3, (.val T2 (0 : Int)))], []⟩)) o
noncomputable def cmp_Or.c1x (o : Int ⊕ Unit) : Ex := (fun o => two o (fun _ => .ret) (fun _ => (.exit 0))) o
noncomputable def cmp_Or.c1n (o : Int ⊕ Unit) : Nat := (fun o => two o (fun _ => 0) (fun _ => 0)) o
theorem cmp_Or.c1_ok (k : Nat) (a0 : (List Int)) : ∀ (n : Nat) (v1 : Int), Owp (cmp_Or.c1 k a0 n v1) fun o => LTriple PR (cmp_Or.cx k) (sub cmp_Or.code [1, 1, 0, 1, 0, 0]) 0 (cmp_Or.c1p a0 v1) (cmp_Or.c1x o) (cmp_Or.c1n o) (cmp_Or.c1q o)
  | 0, _ => fun _ h => nomatch h
  | n + 1, v1 => Owp.of (cmp_Or.c1.eq_2 ..) (
   Owp.bif (fun e2 =>
   Owp.req fun h3 =>
    Owp.bif (fun e4 =>
    Owp.some (loop_exit (cmp_Or.cok k) hmix [.dec true, .dec true] [] [] exne_ret (via (finP (And.intro (And.intro (And.intro trivial e2) h3) e4) .ret [] (cmp_Or.c1q (.inl (el (0 : Int) a0 v1)))) (by kernel_rfl)))) (fun e4 =>
    fun y hy => loop_back (cmp_Or.cok k) hmix 0 (cmp_Or.c1p a0 (iadd .i64 v1 (1 : Int))) [.dec true, .dec false] [] [] (via (finP (And.intro (And.intro (And.intro trivial e2) h3) e4) .normal [] (cmp_Or.c1p a0 (iadd .i64 v1 (1 : Int)))) (by kernel_rfl)) ((cmp_Or.c1_ok k a0 n (iadd .i64 v1 (1 : Int))).ap hy))) (fun e2 =>
   Owp.some (loop_exit (cmp_Or.cok k) hmix [.dec false] [] [] (exne 0) (via (finP (And.intro trivial e2) (.exit 0) [] (cmp_Or.c1q (.inr ()))) (by kernel_rfl)))))
theorem cmp_Or.way (k : Nat) (a0 : (List Int)) : Owp (cmp_Or k a0) fun y => ∃ answers cmds, exec PR (cmp_Or.cx k) cmp_Or.code 0 (entry (.pair T31 .unit) (a0, ())).st answers (Ret (cmp_Or.cx k) Try.f107 cmds (.one (.dp T2)) y) := by
  unfold cmp_Or; exact
   Owp.bnd fun o5 e6 =>
   Owp.two (fun y7 e8 =>
   Owp.some (⟨[.cut ⟨[], [], (cmp_Or.c1p a0 (0 : Int)), 0, .ret, (cmp_Or.c1q (.inl y7)), 0⟩], [], via (cutP trivial [] (cmp_Or.c1p a0 (0 : Int)) (((cmp_Or.c1_ok k a0 k (0 : Int)).ap (e6.trans (congrArg some e8))).triple) (retP trivial (.one (.dp T2)) (y7 : Int))) (by kernel_rfl)⟩)) (fun y9 e10 =>
   Owp.some (⟨[.cut ⟨[], [], (cmp_Or.c1p a0 (0 : Int)), 0, (.exit 0), (cmp_Or.c1q (.inr ())), 0⟩], [], via (cutP trivial [] (cmp_Or.c1p a0 (0 : Int)) (((cmp_Or.c1_ok k a0 k (0 : Int)).ap (e6.trans (congrArg some e10))).triple) (retP trivial (.one (.dp T2)) ((0 : Int) : Int))) (by kernel_rfl)⟩))
theorem cmp_Or.ok (k : Nat) : FnOk PR 107 (cmp_Or.sp k) :=
  fn_ok (cmp_Or.cok k) hmix Try.func107 (code := cmp_Or.code) (by kernel_rfl) (by kernel_rfl) (by kernel_rfl) rfl rfl (by kernel_rfl) (by kernel_rfl) (by kernel_rfl) (fun x => Nat.le_of_ble_eq_true (by kernel_rfl)) fun x y hy => (cmp_Or.way k x.1).ap hy

/-! tourney/sweep.Pairs$3 -/
noncomputable def sweep_Pairs_3.code : Code := Func.cd Try.f106
noncomputable def sweep_Pairs_3 (k : Nat) (a0 : (List Int)) (a1 : (List Int)) : Option Int :=
  bnd (cmp_Compare k (el 0 a0 0) (el 0 a1 0)) fun y1 =>
  bnd (cmp_Compare k (el 0 a0 1) (el 0 a1 1)) fun y3 =>
  bnd (cmp_Or k [y1, y3]) fun y5 =>
  some y5
noncomputable def sweep_Pairs_3.sp (k : Nat) : Go.Sx.Spec := ⟨(.pair (.arr 2 T2) (.pair (.arr 2 T2) .unit)), (.one (.dp T2)), fun x => sweep_Pairs_3 k x.1 x.2.1, false⟩
noncomputable def sweep_Pairs_3.cx (k : Nat) : Go.Sx.Ctx := ⟨tys, [(103, cmp_Compare.sp k), (107, cmp_Or.sp k)], eqs, 17, 0, [], false⟩
theorem sweep_Pairs_3.cok (k : Nat) : CtxOk PR (sweep_Pairs_3.cx k) := ctx_ok tysOk eqsOk (FnsOk.cons (cmp_Compare.ok k) (FnsOk.cons (cmp_Or.ok k) FnsOk.nil)) HsOk.nil
theorem sweep_Pairs_3.way (k : Nat) (a0 : (List Int)) (a1 : (List Int)) : Owp (sweep_Pairs_3 k a0 a1) fun y => ∃ answers cmds, exec PR (sweep_Pairs_3.cx k) sweep_Pairs_3.code 0 (entry (.pair (.arr 2 T2) (.pair (.arr 2 T2) .unit)) (a0, a1, ())).st answers (Ret (sweep_Pairs_3.cx k) Try.f106 cmds (.one (.dp T2)) y) := by
  unfold sweep_Pairs_3; exact
   Owp.bnd fun y1 e2 =>
   Owp.bnd fun y3 e4 =>
   Owp.bnd fun y5 e6 =>
   Owp.some (⟨[.res (.one (.dp T2)) y1, .res (.one (.dp T2)) y3, .dec true, .res (.one (.dp T2)) y5], [], via (retP (And.intro (And.intro (And.intro (And.intro (And.intro (And.intro (And.intro (And.intro (And.intro (And.intro (And.intro trivial (by decide : inR (0 : Int) 2)) (by decide : inR (0 : Int) 2)) (by decide : inR (0 : Int) 2)) (by decide : inR (0 : Int) 2)) e2) (by decide : inR (1 : Int) 2)) (by decide : inR (1 : Int) 2)) (by decide : inR (1 : Int) 2)) (by decide : inR (1 : Int) 2)) e4) e6) (.one (.dp T2)) (y5 : Int)) (by kernel_rfl)⟩)
theorem sweep_Pairs_3.ok (k : Nat) : FnOk PR 106 (sweep_Pairs_3.sp k) :=
  fn_ok (sweep_Pairs_3.cok k) hmix Try.func106 (code := sweep_Pairs_3.code) (by kernel_rfl) (by kernel_rfl) (by kernel_rfl) rfl rfl (by kernel_rfl) (by kernel_rfl) (by kernel_rfl) (fun x => Nat.le_of_ble_eq_true (by kernel_rfl)) fun x y hy => (sweep_Pairs_3.way k x.1 x.2.1).ap hy

/-! slices.SortFunc[[][2]int,[2]int] -/
noncomputable def slices_SortFunc_35 (k : Nat) (r0 : (List (List Int))) : Option (List (List Int)) := sortG (.arr 2 T2) r0 (fun z => sweep_Pairs_3 k z.1 z.2.1)
noncomputable def slices_SortFunc_35.h (k : Nat) : Go.Sx.HSp := sortH0 (.arr 2 T2) 49 106 (fun x => sweep_Pairs_3 k x.1 x.2.1)
theorem slices_SortFunc_35.ok (k : Nat) : HOk PR 35 (slices_SortFunc_35.h k) := sortH0_ok sortsAt_35 (by kernel_rfl) 49 (enters_of Try.func106 (by kernel_rfl) rfl) (sweep_Pairs_3.ok k)

/-! tourney/sweep.Pairs -/
noncomputable def sweep_Pairs.code : Code := Func.cd Try.f30
noncomputable def sweep_Pairs.c1 (k : Nat) (a0 : (List V41)) : Nat → Int → (List Int) → Option ((List Int))
  | 0, _, _ => none
  | n + 1, v1, v2 =>
   bif' (ilt v1 (len a0))
   (req (inL v1 a0) <|
    bnd (sweep_Valid k (el Z41 a0 v1)) fun y5 =>
    bif' y5
    (req (room 8 v2 [v1]) <|
     sweep_Pairs.c1 k a0 n (iadd .i64 v1 1) (v2 ++ [v1]))
    (sweep_Pairs.c1 k a0 n (iadd .i64 v1 1) v2))
   (some v2)
noncomputable def sweep_Pairs.c4 (k : Nat) (a0 : (List V41)) (v13 : Int) (v20 : Int) (y11 : (List Int)) (y18 : (List Int)) : Option (Bool) :=
  req (inL (el 0 y18 v20) a0) <|
  req (inL (el 0 y11 v13) a0) <|
  bif' (ile (el Z41 a0 (el 0 y18 v20)).1.2.1 (el Z41 a0 (el 0 y11 v13)).2.1.2.1)
  (some (ile (el Z41 a0 (el 0 y11 v13)).1.2.1 (el Z41 a0 (el 0 y18 v20)).2.1.2.1))
  (some false)
noncomputable def sweep_Pairs.c3 (k : Nat) (a0 : (List V41)) (v13 : Int) (y11 : (List Int)) (y18 : (List Int)) : Nat → Int → (List (List Int)) → Option ((List (List Int)))
  | 0, _, _ => none
  | n + 1, v20, v21 =>
   bif' (ilt v20 (len y18))
   (req (inL v20 y18) <|
    bnd (sweep_Pairs.c4 k a0 v13 v20 y11 y18) fun o27 =>
    bif' o27
    (req (room 16 v21 [[(imin (el 0 y11 v13) (el 0 y18 v20)), (imax (el 0 y11 v13) (el 0 y18 v20))]]) <|
     sweep_Pairs.c3 k a0 v13 y11 y18 n (iadd .i64 v20 1) (v21 ++ [[(imin (el 0 y11 v13) (el 0 y18 v20)), (imax (el 0 y11 v13) (el 0 y18 v20))]]))
    (sweep_Pairs.c3 k a0 v13 y11 y18 n (iadd .i64 v20 1) v21))
   (some v21)
noncomputable def sweep_Pairs.c2 (k : Nat) (a0 : (List V41)) (y11 : (List Int)) : Nat → Int → (List Int) → (List (List Int)) → Option ((List (List Int)))
  | 0, _, _, _ => none
  | n + 1, v13, v14, v15 =>
   bif' (ilt v13 (len y11))
   (req (inL v13 y11) <|
    bnd (slices_DeleteFunc k (fun x : (Int × Unit) => sweep_Pairs_2 k (x.1) a0 (el 0 y11 v13)) v14) fun y18 =>
    bnd (sweep_Pairs.c3 k a0 v13 y11 y18 k 0 v15) fun o31 =>
    req (room 8 y18 [(el 0 y11 v13)]) <|
    sweep_Pairs.c2 k a0 y11 n (iadd .i64 v13 1) (y18 ++ [(el 0 y11 v13)]) o31)
   (some v15)
noncomputable def sweep_Pairs (k : Nat) (a0 : (List V41)) : Option (List (List Int)) :=
  bnd (sweep_Pairs.c1 k a0 k 0 []) fun o9 =>
  bnd (slices_SortFunc_101 k o9 a0) fun y11 =>
  bnd (sweep_Pairs.c2 k a0 y11 k 0 [] []) fun o34 =>
  bnd (slices_SortFunc_35 k o34) fun y36 =>
  some y36
noncomputable def sweep_Pairs.sp (k : Nat) : Go.Sx.Spec := ⟨(.pair (.slice T41) .unit), (.one (.ow (.arr 2 T2) 49)), fun x => sweep_Pairs k x.1, false⟩
noncomputable def sweep_Pairs.cx (k : Nat) : Go.Sx.Ctx := ⟨tys, [(41, sweep_Valid.sp k), (105, sweep_Pairs_2.sp k)], eqs, 91, 0, [(101, slices_SortFunc_101.h k), (104, slices_DeleteFunc.h k), (35, slices_SortFunc_35.h k)], false⟩
theorem sweep_Pairs.cok (k : Nat) : CtxOk PR (sweep_Pairs.cx k) := ctx_ok tysOk eqsOk (FnsOk.cons (sweep_Valid.ok k) (FnsOk.cons (sweep_Pairs_2.ok k) FnsOk.nil)) (HsOk.cons (slices_SortFunc_101.ok k) (HsOk.cons (slices_DeleteFunc.ok k) (HsOk.cons (slices_SortFunc_35.ok k) HsOk.nil)))
noncomputable def sweep_Pairs.c1p (a0 : (List V41)) (v1 : Int) (v2 : (List Int)) : SL := ⟨[(1, (.val .ptr ⟨0, 0, (0 : Int), 0, 0⟩)), (3, (.val .own (1 : Nat))), (12, (.val (.slice T41) a0)), (13, (.val T2 (len a0))), (14, (.val T2 v1))], [(0, .cells (.slice T41) a0), (1, .row T2 v2 3)]⟩
noncomputable def sweep_Pairs.c1q (a0 : (List V41)) (o : (List Int)) : SL := (fun v => ⟨[(1, (.val .ptr ⟨0, 0, (0 : Int), 0, 0⟩)), (3, (.val .own (1 : Nat)))], [(0, .cells (.slice T41) a0), (1, .row T2 v 3)]⟩) o
noncomputable def sweep_Pairs.c1x (o : (List Int)) : Ex := (fun _ => (.exit 0)) o
noncomputable def sweep_Pairs.c1n (o : (List Int)) : Nat := (fun _ => 2) o
theorem sweep_Pairs.c1_ok (k : Nat) (a0 : (List V41)) : ∀ (n : Nat) (v1 : Int) (v2 : (List Int)), Owp (sweep_Pairs.c1 k a0 n v1 v2) fun o => LTriple PR (sweep_Pairs.cx k) (sub sweep_Pairs.code [1, 1, 0, 1, 0, 0]) 2 (sweep_Pairs.c1p a0 v1 v2) (sweep_Pairs.c1x o) (sweep_Pairs.c1n o) (sweep_Pairs.c1q a0 o)
  | 0, _, _ => fun _ h => nomatch h
  | n + 1, v1, v2 => Owp.of (sweep_Pairs.c1.eq_2 ..) (
   Owp.bif (fun e3 =>
   Owp.req fun h4 =>
    Owp.bnd fun y5 e6 =>
    Owp.bif (fun e7 =>
    Owp.req fun h8 =>
     fun y hy => loop_back (sweep_Pairs.cok k) hmix 2 (sweep_Pairs.c1p a0 (iadd .i64 v1 (1 : Int)) (v2 ++ [v1])) [.dec true, .res (.one (.dp T4)) y5, .dec true, .dec true] [] [(0, 0), (1, 14)] (via (finP (And.intro (And.intro (And.intro (And.intro (And.intro trivial e3) h4) e6) e7) h8) .normal [(0, 0), (1, 14)] (sweep_Pairs.c1p a0 (iadd .i64 v1 (1 : Int)) (v2 ++ [v1]))) (by kernel_rfl)) ((sweep_Pairs.c1_ok k a0 n (iadd .i64 v1 (1 : Int)) (v2 ++ [v1])).ap hy)) (fun e7 =>
    fun y hy => loop_back (sweep_Pairs.cok k) hmix 2 (sweep_Pairs.c1p a0 (iadd .i64 v1 (1 : Int)) v2) [.dec true, .res (.one (.dp T4)) y5, .dec false] [] [(0, 0), (1, 1)] (via (finP (And.intro (And.intro (And.intro (And.intro trivial e3) h4) e6) e7) .normal [(0, 0), (1, 1)] (sweep_Pairs.c1p a0 (iadd .i64 v1 (1 : Int)) v2)) (by kernel_rfl)) ((sweep_Pairs.c1_ok k a0 n (iadd .i64 v1 (1 : Int)) v2).ap hy))) (fun e3 =>
   Owp.some (loop_exit (sweep_Pairs.cok k) hmix [.dec false] [] [(0, 0), (1, 1)] (exne 0) (via (finP (And.intro trivial e3) (.exit 0) [(0, 0), (1, 1)] (sweep_Pairs.c1q a0 v2)) (by kernel_rfl)))))
noncomputable def sweep_Pairs.c4p (a0 : (List V41)) (v13 : Int) (v20 : Int) (v21 : (List (List Int))) (y11 : (List Int)) (y18 : (List Int)) : SL := ⟨[(1, (.val .ptr ⟨0, 0, (0 : Int), 0, 0⟩)), (6, (.val .own (1 : Nat))), (7, (.val .own (2 : Nat))), (9, (.val .ptr ⟨3, 0, (0 : Int), 0, 0⟩)), (11, (.val T2 (el (0 : Int) y18 v20))), (29, (.val .own (4 : Nat))), (30, (.val T2 (len y11))), (31, (.val T2 v13)), (38, (.val .own (1 : Nat))), (39, (.val T2 (len y18))), (40, (.val T2 v20))], [(0, .cells (.slice T41) a0), (1, .row T2 y18 3), (2, .row (.arr 2 T2) v21 49), (3, .cells T2 (el (0 : Int) y11 v13)), (4, .row T2 y11 3)]⟩
noncomputable def sweep_Pairs.c4q (a0 : (List V41)) (v13 : Int) (v20 : Int) (v21 : (List (List Int))) (y11 : (List Int)) (y18 : (List Int)) (o : Bool) : SL := (fun v => ⟨[(1, (.val .ptr ⟨0, 0, (0 : Int), 0, 0⟩)), (6, (.val .own (1 : Nat))), (7, (.val .own (2 : Nat))), (9, (.val .ptr ⟨3, 0, (0 : Int), 0, 0⟩)), (11, (.val T2 (el (0 : Int) y18 v20))), (29, (.val .own (4 : Nat))), (30, (.val T2 (len y11))), (31, (.val T2 v13)), (38, (.val .own (1 : Nat))), (39, (.val T2 (len y18))), (40, (.val T2 v20)), (71, (.val T4 v))], [(0, .cells (.slice T41) a0), (1, .row T2 y18 3), (2, .row (.arr 2 T2) v21 49), (3, .cells T2 (el (0 : Int) y11 v13)), (4, .row T2 y11 3)]⟩) o
noncomputable def sweep_Pairs.c4x (o : Bool) : Ex := (fun _ => .normal) o
noncomputable def sweep_Pairs.c4n (o : Bool) : Nat := (fun _ => 5) o
theorem sweep_Pairs.c4_ok (k : Nat) (a0 : (List V41)) (v13 : Int) (v20 : Int) (v21 : (List (List Int))) (y11 : (List Int)) (y18 : (List Int)) : Owp (sweep_Pairs.c4 k a0 v13 v20 y11 y18) fun o => Triple PR (sweep_Pairs.cx k) (sub sweep_Pairs.code [1, 1, 1, 1, 1, 1, 0, 1, 0, 0, 1, 1, 0, 0, 1, 1, 0, 1, 0, 0, 1, 1, 0, 0, 1, 0]) 5 (sweep_Pairs.c4p a0 v13 v20 v21 y11 y18) (sweep_Pairs.c4x o) (sweep_Pairs.c4n o) (sweep_Pairs.c4q a0 v13 v20 v21 y11 y18 o) := by
  unfold sweep_Pairs.c4; exact
   Owp.req fun h24 =>
   Owp.req fun h25 =>
   Owp.bif (fun e26 =>
   Owp.some (triple_way (sweep_Pairs.cok k) hmix [.dec true, .dec true, .dec true, .dec true, .dec true, .dec true, .dec true, .dec true, .dec true, .dec true, .dec true, .dec true, .dec true, .dec true] [] [(0, 0), (1, 1), (2, 2), (3, 3), (4, 4)] (via (finP (And.intro (And.intro (And.intro (And.intro (And.intro (And.intro (And.intro (And.intro (And.intro (And.intro (And.intro (And.intro (And.intro (And.intro (And.intro (And.intro trivial h24) h25) e26) e26) (And.intro e26 h25)) e26) e26) e26) e26) e26) (And.intro e26 h24)) e26) e26) e26) e26) e26) .normal [(0, 0), (1, 1), (2, 2), (3, 3), (4, 4)] (sweep_Pairs.c4q a0 v13 v20 v21 y11 y18 (ile (el Z41 a0 (el (0 : Int) y11 v13)).1.2.1 (el Z41 a0 (el (0 : Int) y18 v20)).2.1.2.1))) (by kernel_rfl)))) (fun e26 =>
   Owp.some (triple_way (sweep_Pairs.cok k) hmix [.dec false, .dec false, .dec false, .dec false, .dec false, .dec false, .dec false, .dec false, .dec false, .dec false, .dec false, .dec false, .dec false, .dec false] [] [(0, 0), (1, 1), (2, 2), (3, 3), (4, 4)] (via (finP (And.intro (And.intro (And.intro (And.intro (And.intro (And.intro (And.intro (And.intro (And.intro (And.intro (And.intro (And.intro (And.intro (And.intro (And.intro (And.intro trivial h24) h25) e26) e26) e26) e26) e26) e26) e26) e26) e26) e26) e26) e26) e26) e26) .normal [(0, 0), (1, 1), (2, 2), (3, 3), (4, 4)] (sweep_Pairs.c4q a0 v13 v20 v21 y11 y18 false)) (by kernel_rfl))))
noncomputable def sweep_Pairs.c3p (a0 : (List V41)) (v13 : Int) (y11 : (List Int)) (y18 : (List Int)) (v20 : Int) (v21 : (List (List Int))) : SL := ⟨[(1, (.val .ptr ⟨0, 0, (0 : Int), 0, 0⟩)), (6, (.val .own (1 : Nat))), (7, (.val .own (2 : Nat))), (9, (.val .ptr ⟨3, 0, (0 : Int), 0, 0⟩)), (29, (.val .own (4 : Nat))), (30, (.val T2 (len y11))), (31, (.val T2 v13)), (38, (.val .own (1 : Nat))), (39, (.val T2 (len y18))), (40, (.val T2 v20))], [(0, .cells (.slice T41) a0), (1, .row T2 y18 3), (2, .row (.arr 2 T2) v21 49), (3, .cells T2 (el (0 : Int) y11 v13)), (4, .row T2 y11 3)]⟩
noncomputable def sweep_Pairs.c3q (a0 : (List V41)) (v13 : Int) (y11 : (List Int)) (y18 : (List Int)) (o : (List (List Int))) : SL := (fun v => ⟨[(1, (.val .ptr ⟨0, 0, (0 : Int), 0, 0⟩)), (6, (.val .own (1 : Nat))), (7, (.val .own (2 : Nat))), (9, (.val .ptr ⟨3, 0, (0 : Int), 0, 0⟩)), (29, (.val .own (4 : Nat))), (30, (.val T2 (len y11))), (31, (.val T2 v13))], [(0, .cells (.slice T41) a0), (1, .row T2 y18 3), (2, .row (.arr 2 T2) v 49), (3, .cells T2 (el (0 : Int) y11 v13)), (4, .row T2 y11 3)]⟩) o
noncomputable def sweep_Pairs.c3x (o : (List (List Int))) : Ex := (fun _ => (.exit 4)) o
noncomputable def sweep_Pairs.c3n (o : (List (List Int))) : Nat := (fun _ => 5) o
theorem sweep_Pairs.c3_ok (k : Nat) (a0 : (List V41)) (v13 : Int) (y11 : (List Int)) (y18 : (List Int)) : ∀ (n : Nat) (v20 : Int) (v21 : (List (List Int))), Owp (sweep_Pairs.c3 k a0 v13 y11 y18 n v20 v21) fun o => LTriple PR (sweep_Pairs.cx k) (sub sweep_Pairs.code [1, 1, 1, 1, 1, 1, 0, 1, 0, 0, 1, 1, 0, 0, 1, 1, 0, 1, 0, 0]) 5 (sweep_Pairs.c3p a0 v13 y11 y18 v20 v21) (sweep_Pairs.c3x o) (sweep_Pairs.c3n o) (sweep_Pairs.c3q a0 v13 y11 y18 o)
  | 0, _, _ => fun _ h => nomatch h
  | n + 1, v20, v21 => Owp.of (sweep_Pairs.c3.eq_2 ..) (
   Owp.bif (fun e22 =>
   Owp.req fun h23 =>
    Owp.bnd fun o27 e28 =>
    Owp.bif (fun e29 =>
    Owp.req fun h30 =>
     fun y hy => loop_back (sweep_Pairs.cok k) hmix 5 (sweep_Pairs.c3p a0 v13 y11 y18 (iadd .i64 v20 (1 : Int)) (v21 ++ [[(imin (el (0 : Int) y11 v13) (el (0 : Int) y18 v20)), (imax (el (0 : Int) y11 v13) (el (0 : Int) y18 v20))]])) [.dec true, .cutR 18 ⟨[], [(0, 0), (1, 1), (2, 2), (3, 3), (4, 4)], (sweep_Pairs.c4p a0 v13 v20 v21 y11 y18), 5, .normal, (sweep_Pairs.c4q a0 v13 v20 v21 y11 y18 o27), 5⟩, .dec true, .dec true] [] [(0, 0), (1, 1), (2, 14), (3, 3), (4, 4)] (via (cutP (And.intro (And.intro (And.intro trivial e22) h23) h23) [(0, 0), (1, 1), (2, 2), (3, 3), (4, 4)] (sweep_Pairs.c4p a0 v13 v20 v21 y11 y18) (((sweep_Pairs.c4_ok k a0 v13 v20 v21 y11 y18).ap e28)) (finP (And.intro (And.intro trivial e29) h30) .normal [(0, 0), (1, 1), (2, 14), (3, 3), (4, 4)] (sweep_Pairs.c3p a0 v13 y11 y18 (iadd .i64 v20 (1 : Int)) (v21 ++ [[(imin (el (0 : Int) y11 v13) (el (0 : Int) y18 v20)), (imax (el (0 : Int) y11 v13) (el (0 : Int) y18 v20))]])))) (by kernel_rfl)) ((sweep_Pairs.c3_ok k a0 v13 y11 y18 n (iadd .i64 v20 (1 : Int)) (v21 ++ [[(imin (el (0 : Int) y11 v13) (el (0 : Int) y18 v20)), (imax (el (0 : Int) y11 v13) (el (0 : Int) y18 v20))]])).ap hy)) (fun e29 =>
    fun y hy => loop_back (sweep_Pairs.cok k) hmix 5 (sweep_Pairs.c3p a0 v13 y11 y18 (iadd .i64 v20 (1 : Int)) v21) [.dec true, .cutR 18 ⟨[], [(0, 0), (1, 1), (2, 2), (3, 3), (4, 4)], (sweep_Pairs.c4p a0 v13 v20 v21 y11 y18), 5, .normal, (sweep_Pairs.c4q a0 v13 v20 v21 y11 y18 o27), 5⟩, .dec false] [] [(0, 0), (1, 1), (2, 2), (3, 3), (4, 4)] (via (cutP (And.intro (And.intro (And.intro trivial e22) h23) h23) [(0, 0), (1, 1), (2, 2), (3, 3), (4, 4)] (sweep_Pairs.c4p a0 v13 v20 v21 y11 y18) (((sweep_Pairs.c4_ok k a0 v13 v20 v21 y11 y18).ap e28)) (finP (And.intro trivial e29) .normal [(0, 0), (1, 1), (2, 2), (3, 3), (4, 4)] (sweep_Pairs.c3p a0 v13 y11 y18 (iadd .i64 v20 (1 : Int)) v21))) (by kernel_rfl)) ((sweep_Pairs.c3_ok k a0 v13 y11 y18 n (iadd .i64 v20 (1 : Int)) v21).ap hy))) (fun e22 =>
   Owp.some (loop_exit (sweep_Pairs.cok k) hmix [.dec false] [] [(0, 0), (1, 1), (2, 2), (3, 3), (4, 4)] (exne 4) (via (finP (And.intro trivial e22) (.exit 4) [(0, 0), (1, 1), (2, 2), (3, 3), (4, 4)] (sweep_Pairs.c3q a0 v13 y11 y18 v21)) (by kernel_rfl)))))
noncomputable def sweep_Pairs.c2p (a0 : (List V41)) (y11 : (List Int)) (v13 : Int) (v14 : (List Int)) (v15 : (List (List Int))) : SL := ⟨[(1, (.val .ptr ⟨0, 0, (0 : Int), 0, 0⟩)), (6, (.val .own (1 : Nat))), (7, (.val .own (2 : Nat))), (29, (.val .own (3 : Nat))), (30, (.val T2 (len y11))), (31, (.val T2 v13))], [(0, .cells (.slice T41) a0), (1, .row T2 v14 3), (2, .row (.arr 2 T2) v15 49), (3, .row T2 y11 3)]⟩
noncomputable def sweep_Pairs.c2q (o : (List (List Int))) : SL := (fun v => ⟨[(7, (.val .own (0 : Nat)))], [(0, .row (.arr 2 T2) v 49)]⟩) o
noncomputable def sweep_Pairs.c2x (o : (List (List Int))) : Ex := (fun _ => (.exit 2)) o
noncomputable def sweep_Pairs.c2n (o : (List (List Int))) : Nat := (fun _ => 1) o
theorem sweep_Pairs.c2_ok (k : Nat) (a0 : (List V41)) (y11 : (List Int)) : ∀ (n : Nat) (v13 : Int) (v14 : (List Int)) (v15 : (List (List Int))), Owp (sweep_Pairs.c2 k a0 y11 n v13 v14 v15) fun o => LTriple PR (sweep_Pairs.cx k) (sub sweep_Pairs.code [1, 1, 1, 1, 1, 1, 0, 1, 0, 0]) 4 (sweep_Pairs.c2p a0 y11 v13 v14 v15) (sweep_Pairs.c2x o) (sweep_Pairs.c2n o) (sweep_Pairs.c2q o)
  | 0, _, _, _ => fun _ h => nomatch h
  | n + 1, v13, v14, v15 => Owp.of (sweep_Pairs.c2.eq_2 ..) (
   Owp.bif (fun e16 =>
   Owp.req fun h17 =>
    Owp.bnd fun y18 e19 =>
    Owp.bnd fun o31 e32 =>
    Owp.req fun h33 =>
    fun y hy => loop_back (sweep_Pairs.cok k) hmix 4 (sweep_Pairs.c2p a0 y11 (iadd .i64 v13 (1 : Int)) (y18 ++ [(el (0 : Int) y11 v13)]) o31) [.dec true, .hres [(0, 1)] (.pair (.fn (.pair T2 .unit) T4) (.pair T31 .unit)) ((fun x : (Int × Unit) => sweep_Pairs_2 k (x.1) a0 (el (0 : Int) y11 v13)), v14, ()) T31 y18, .cut ⟨[], [(0, 0), (1, 11), (2, 2), (3, 7), (4, 3)], (sweep_Pairs.c3p a0 v13 y11 y18 (0 : Int) v15), 5, (.exit 4), (sweep_Pairs.c3q a0 v13 y11 y18 o31), 5⟩, .dec true] [] [(0, 0), (1, 8), (2, 2), (3, 4)] (via (cutP (And.intro (And.intro (And.intro (And.intro trivial e16) h17) h17) (callHP (slices_DeleteFunc.h k) [(0, 1)] ((fun x : (Int × Unit) => sweep_Pairs_2 k (x.1) a0 (el (0 : Int) y11 v13)), v14, ()) e19)) [(0, 0), (1, 11), (2, 2), (3, 7), (4, 3)] (sweep_Pairs.c3p a0 v13 y11 y18 (0 : Int) v15) (((sweep_Pairs.c3_ok k a0 v13 y11 y18 k (0 : Int) v15).ap e32).triple) (finP (And.intro trivial h33) .normal [(0, 0), (1, 8), (2, 2), (3, 4)] (sweep_Pairs.c2p a0 y11 (iadd .i64 v13 (1 : Int)) (y18 ++ [(el (0 : Int) y11 v13)]) o31))) (by kernel_rfl)) ((sweep_Pairs.c2_ok k a0 y11 n (iadd .i64 v13 (1 : Int)) (y18 ++ [(el (0 : Int) y11 v13)]) o31).ap hy)) (fun e16 =>
   Owp.some (loop_exit (sweep_Pairs.cok k) hmix [.dec false] [] [(0, 2)] (exne 2) (via (finP (And.intro trivial e16) (.exit 2) [(0, 2)] (sweep_Pairs.c2q v15)) (by kernel_rfl)))))
theorem sweep_Pairs.way (k : Nat) (a0 : (List V41)) : Owp (sweep_Pairs k a0) fun y => ∃ answers cmds, exec PR (sweep_Pairs.cx k) sweep_Pairs.code 0 (entry (.pair (.slice T41) .unit) (a0, ())).st answers (Ret (sweep_Pairs.cx k) Try.f30 cmds (.one (.ow (.arr 2 T2) 49)) y) := by
  unfold sweep_Pairs; exact
   Owp.bnd fun o9 e10 =>
   Owp.bnd fun y11 e12 =>
   Owp.bnd fun o34 e35 =>
   Owp.bnd fun y36 e37 =>
   Owp.some (⟨[.cut ⟨[.own 3 T2 3], [(0, 0), (1, 6)], (sweep_Pairs.c1p a0 (0 : Int) []), 2, (.exit 0), (sweep_Pairs.c1q a0 o9), 2⟩, .hres [(0, 1), (1, 0)] (.pair T31 (.pair (.slice T41) .unit)) (o9, a0, ()) T31 y11, .cut ⟨[.own 6 T2 3, .own 7 (.arr 2 T2) 49], [(0, 0), (1, 10), (2, 11), (3, 1)], (sweep_Pairs.c2p a0 y11 (0 : Int) [] []), 4, (.exit 2), (sweep_Pairs.c2q o34), 1⟩, .hres [(0, 0)] (.pair (.slice (.arr 2 T2)) .unit) (o34, ()) (.slice (.arr 2 T2)) y36], [], via (cutP trivial [(0, 0), (1, 6)] (sweep_Pairs.c1p a0 (0 : Int) []) (((sweep_Pairs.c1_ok k a0 k (0 : Int) []).ap e10).triple) (cutP (And.intro trivial (callHP (slices_SortFunc_101.h k) [(0, 1), (1, 0)] (o9, a0, ()) e12)) [(0, 0), (1, 10), (2, 11), (3, 1)] (sweep_Pairs.c2p a0 y11 (0 : Int) [] []) (((sweep_Pairs.c2_ok k a0 y11 k (0 : Int) [] []).ap e35).triple) (retP (And.intro trivial (callHP (slices_SortFunc_35.h k) [(0, 0)] (o34, ()) e37)) (.one (.ow (.arr 2 T2) 49)) (y36 : (List (List Int)))))) (by kernel_rfl)⟩)
theorem sweep_Pairs.ok (k : Nat) : FnOk PR 30 (sweep_Pairs.sp k) :=
  fn_ok (sweep_Pairs.cok k) hmix Try.func30 (code := sweep_Pairs.code) (by kernel_rfl) (by kernel_rfl) (by kernel_rfl) rfl rfl (by kernel_rfl) (by kernel_rfl) (by kernel_rfl) (fun x => Nat.le_of_ble_eq_true (by kernel_rfl)) fun x y hy => (sweep_Pairs.way k x.1).ap hy

end Go.Proofs.T1
