import Derived.Test.YtolkdkhdkfndfaaG0
import Derived.Test.YtolkdkhdkfndfaaG2
namespace Go.Proofs.T1
open Go Go.Sx Go.Proofs
set_option maxRecDepth 100000
set_option linter.unusedVariables false
/-! slices.Reverse[[]tourney/api.Box,tourney/api.Box] -/
noncomputable def slices_Reverse_32.code : Code := Func.cd Try.f32
noncomputable def slices_Reverse_32.c1 (k : Nat) : Nat → Int → Int → (List V41) → Option ((List V41))
  | 0, _, _, _ => none
  | n + 1, v1, v2, v3 =>
   bif' (ilt v1 v2)
   (req (inL v2 v3) <|
    req (inL v1 v3) <|
    req (inL v2 (st v3 v1 (el Z41 v3 v2))) <|
    slices_Reverse_32.c1 k n (iadd .i64 v1 1) (isub .i64 v2 1) (st (st v3 v1 (el Z41 v3 v2)) v2 (el Z41 v3 v1)))
   (some v3)
noncomputable def slices_Reverse_32 (k : Nat) (r0 : (List V41)) : Option (List V41) :=
  bnd (slices_Reverse_32.c1 k k 0 (isub .i64 (len r0) 1) r0) fun o8 =>
  some o8
noncomputable def slices_Reverse_32.h (k : Nat) : Go.Sx.HSp := ⟨(.pair (.slice T41) .unit), (.slice T41), 1, fun x => [.lent (.val .own (0 : Nat))], fun x => [(0, .row T41 x.1 42)], fun x => slices_Reverse_32 k x.1, fun x y => [(0, .row T41 y 42)], .none, fun y => (), false, false⟩
noncomputable def slices_Reverse_32.cx (k : Nat) : Go.Sx.Ctx := ⟨tys, [], eqs, 28, 1, [], false⟩
theorem slices_Reverse_32.cok (k : Nat) : CtxOk PR (slices_Reverse_32.cx k) := ctx_ok tysOk eqsOk FnsOk.nil HsOk.nil
noncomputable def slices_Reverse_32.c1p (v1 : Int) (v2 : Int) (v3 : (List V41)) : SL := ⟨[(0, (.val .own (0 : Nat))), (2, (.val T2 v1)), (3, (.val T2 v2))], [(0, .row T41 v3 42)]⟩
noncomputable def slices_Reverse_32.c1q (o : (List V41)) : SL := (fun v => ⟨[], [(0, .row T41 v 42)]⟩) o
noncomputable def slices_Reverse_32.c1x (o : (List V41)) : Ex := (fun _ => (.exit 0)) o
noncomputable def slices_Reverse_32.c1n (o : (List V41)) : Nat := (fun _ => 1) o
theorem slices_Reverse_32.c1_ok (k : Nat) : ∀ (n : Nat) (v1 : Int) (v2 : Int) (v3 : (List V41)), Owp (slices_Reverse_32.c1 k n v1 v2 v3) fun o => LTriple PR (slices_Reverse_32.cx k) (sub slices_Reverse_32.code [1, 0, 0]) 1 (slices_Reverse_32.c1p v1 v2 v3) (slices_Reverse_32.c1x o) (slices_Reverse_32.c1n o) (slices_Reverse_32.c1q o)
  | 0, _, _, _ => fun _ h => nomatch h
  | n + 1, v1, v2, v3 => Owp.of (slices_Reverse_32.c1.eq_2 ..) (
   Owp.bif (fun e4 =>
   Owp.req fun h5 =>
    Owp.req fun h6 =>
    Owp.req fun h7 =>
    fun y hy => loop_back (slices_Reverse_32.cok k) hmix 1 (slices_Reverse_32.c1p (iadd .i64 v1 (1 : Int)) (isub .i64 v2 (1 : Int)) (st (st v3 v1 (el Z41 v3 v2)) v2 (el Z41 v3 v1))) [.dec true] [] [(0, 0)] (via (finP (And.intro (And.intro (And.intro (And.intro (And.intro (And.intro (And.intro (And.intro (And.intro trivial e4) h5) h5) h6) h6) h6) h6) h7) h7) .normal [(0, 0)] (slices_Reverse_32.c1p (iadd .i64 v1 (1 : Int)) (isub .i64 v2 (1 : Int)) (st (st v3 v1 (el Z41 v3 v2)) v2 (el Z41 v3 v1)))) (by kernel_rfl)) ((slices_Reverse_32.c1_ok k n (iadd .i64 v1 (1 : Int)) (isub .i64 v2 (1 : Int)) (st (st v3 v1 (el Z41 v3 v2)) v2 (el Z41 v3 v1))).ap hy)) (fun e4 =>
   Owp.some (loop_exit (slices_Reverse_32.cok k) hmix [.dec false] [] [(0, 0)] (exne 0) (via (finP (And.intro trivial e4) (.exit 0) [(0, 0)] (slices_Reverse_32.c1q v3)) (by kernel_rfl)))))
@[irreducible] noncomputable def slices_Reverse_32.P (k : Nat) (r0 : (List V41)) (y : (List V41)) (answers : List Ans) (cmds : List Cmd) : Prop := exec PR (slices_Reverse_32.cx k) slices_Reverse_32.code 1 (entryH (slices_Reverse_32.h k) (r0, ())).st answers (RetH (slices_Reverse_32.cx k) Try.f32 cmds (slices_Reverse_32.h k) (r0, ()) y)
theorem slices_Reverse_32.way (k : Nat) (r0 : (List V41)) : Owp (slices_Reverse_32 k r0) fun y => ∃ answers cmds, slices_Reverse_32.P k r0 y answers cmds := by
  unfold slices_Reverse_32; exact
   Owp.bnd fun o8 e9 =>
   Owp.some (⟨[.cut ⟨[], [(0, 0)], (slices_Reverse_32.c1p (0 : Int) (isub .i64 (len r0) (1 : Int)) r0), 1, (.exit 0), (slices_Reverse_32.c1q o8), 1⟩], [], via (cutP trivial [(0, 0)] (slices_Reverse_32.c1p (0 : Int) (isub .i64 (len r0) (1 : Int)) r0) (((slices_Reverse_32.c1_ok k k (0 : Int) (isub .i64 (len r0) (1 : Int)) r0).ap e9).triple) (rethP trivial [(0, .row T41 o8 42)] .none (() : Unit))) (by kernel_rfl)⟩)
theorem slices_Reverse_32.ok (k : Nat) : HOk PR 32 (slices_Reverse_32.h k) :=
  fnH_ok (slices_Reverse_32.cok k) hmix Try.func32 (code := slices_Reverse_32.code) (by kernel_rfl) (by kernel_rfl) (by kernel_rfl) (by kernel_rfl) (by kernel_rfl) (by kernel_rfl) (fun x => Nat.le_of_ble_eq_true (by kernel_rfl)) fun x y hy => match (slices_Reverse_32.way k x.1).ap hy with | ⟨ans, cmds, h⟩ => ⟨ans, cmds, via h (by kernel_rfl)⟩

/-! slices.Compare[[]int,int] -/
noncomputable def slices_Compare.code : Code := Func.cd Try.f34
noncomputable def slices_Compare.c1 (k : Nat) (a0 : (List Int)) (a1 : (List Int)) : Nat → Int → Option (Int ⊕ Unit)
  | 0, _ => none
  | n + 1, v1 =>
   bif' (ilt v1 (len a0))
   (req (inL v1 a0) <|
    bif' (ige v1 (len a1))
    (some (.inl 1))
    (req (inL v1 a1) <|
     bnd (cmp_Compare k (el 0 a0 v1) (el 0 a1 v1)) fun y6 =>
     bif' (ine y6 0)
     (some (.inl y6))
     (slices_Compare.c1 k a0 a1 n (iadd .i64 v1 1))))
   (some (.inr ()))
noncomputable def slices_Compare (k : Nat) (a0 : (List Int)) (a1 : (List Int)) : Option Int :=
  bnd (slices_Compare.c1 k a0 a1 k 0) fun o9 =>
  two o9 (fun y11 =>
  some y11) (fun y13 =>
  bif' (ilt (len a0) (len a1))
   (some (-1))
   (some 0))
noncomputable def slices_Compare.sp (k : Nat) : Go.Sx.Spec := ⟨(.pair T31 (.pair T31 .unit)), (.one (.dp T2)), fun x => slices_Compare k x.1 x.2.1, false⟩
noncomputable def slices_Compare.cx (k : Nat) : Go.Sx.Ctx := ⟨tys, [(103, cmp_Compare.sp k)], eqs, 36, 0, [], false⟩
theorem slices_Compare.cok (k : Nat) : CtxOk PR (slices_Compare.cx k) := ctx_ok tysOk eqsOk (FnsOk.cons (cmp_Compare.ok k) FnsOk.nil) HsOk.nil
noncomputable def slices_Compare.c1p (a0 : (List Int)) (a1 : (List Int)) (v1 : Int) : SL := ⟨[(0, (.val T31 a0)), (1, (.val T31 a1)), (9, (.val T31 a0)), (10, (.val T2 (len a0))), (11, (.val T2 v1))], []⟩
noncomputable def slices_Compare.c1q (a0 : (List Int)) (a1 : (List Int)) (o : Int ⊕ Unit) : SL := (fun o => two o (fun v => ⟨[(4, (.val T2 v))], []⟩) (fun v => ⟨[(0, (.val T31 a0)), (1, (.val T31 a1))], []⟩)) o
noncomputable def slices_Compare.c1x (o : Int ⊕ Unit) : Ex := (fun o => two o (fun _ => .ret) (fun _ => (.exit 0))) o
noncomputable def slices_Compare.c1n (o : Int ⊕ Unit) : Nat := (fun o => two o (fun _ => 0) (fun _ => 0)) o
theorem slices_Compare.c1_ok (k : Nat) (a0 : (List Int)) (a1 : (List Int)) : ∀ (n : Nat) (v1 : Int), Owp (slices_Compare.c1 k a0 a1 n v1) fun o => LTriple PR (slices_Compare.cx k) (sub slices_Compare.code [1, 0, 1, 0, 0]) 0 (slices_Compare.c1p a0 a1 v1) (slices_Compare.c1x o) (slices_Compare.c1n o) (slices_Compare.c1q a0 a1 o)
  | 0, _ => fun _ h => nomatch h
  | n + 1, v1 => Owp.of (slices_Compare.c1.eq_2 ..) (
   Owp.bif (fun e2 =>
   Owp.req fun h3 =>
    Owp.bif (fun e4 =>
    Owp.some (loop_exit (slices_Compare.cok k) hmix [.dec true, .dec true] [] [] exne_ret (via (finP (And.intro (And.intro (And.intro trivial e2) h3) e4) .ret [] (slices_Compare.c1q a0 a1 (.inl (1 : Int)))) (by kernel_rfl)))) (fun e4 =>
    Owp.req fun h5 =>
     Owp.bnd fun y6 e7 =>
     Owp.bif (fun e8 =>
     Owp.some (loop_exit (slices_Compare.cok k) hmix [.dec true, .dec false, .res (.one (.dp T2)) y6, .dec true] [] [] exne_ret (via (finP (And.intro (And.intro (And.intro (And.intro (And.intro (And.intro trivial e2) h3) e4) h5) e7) e8) .ret [] (slices_Compare.c1q a0 a1 (.inl y6))) (by kernel_rfl)))) (fun e8 =>
     fun y hy => loop_back (slices_Compare.cok k) hmix 0 (slices_Compare.c1p a0 a1 (iadd .i64 v1 (1 : Int))) [.dec true, .dec false, .res (.one (.dp T2)) y6, .dec false] [] [] (via (finP (And.intro (And.intro (And.intro (And.intro (And.intro (And.intro trivial e2) h3) e4) h5) e7) e8) .normal [] (slices_Compare.c1p a0 a1 (iadd .i64 v1 (1 : Int)))) (by kernel_rfl)) ((slices_Compare.c1_ok k a0 a1 n (iadd .i64 v1 (1 : Int))).ap hy)))) (fun e2 =>
   Owp.some (loop_exit (slices_Compare.cok k) hmix [.dec false] [] [] (exne 0) (via (finP (And.intro trivial e2) (.exit 0) [] (slices_Compare.c1q a0 a1 (.inr ()))) (by kernel_rfl)))))
theorem slices_Compare.way (k : Nat) (a0 : (List Int)) (a1 : (List Int)) : Owp (slices_Compare k a0 a1) fun y => ∃ answers cmds, exec PR (slices_Compare.cx k) slices_Compare.code 0 (entry (.pair T31 (.pair T31 .unit)) (a0, a1, ())).st answers (Ret (slices_Compare.cx k) Try.f34 cmds (.one (.dp T2)) y) := by
  unfold slices_Compare; exact
   Owp.bnd fun o9 e10 =>
   Owp.two (fun y11 e12 =>
   Owp.some (⟨[.cut ⟨[], [], (slices_Compare.c1p a0 a1 (0 : Int)), 0, .ret, (slices_Compare.c1q a0 a1 (.inl y11)), 0⟩], [], via (cutP trivial [] (slices_Compare.c1p a0 a1 (0 : Int)) (((slices_Compare.c1_ok k a0 a1 k (0 : Int)).ap (e10.trans (congrArg some e12))).triple) (retP trivial (.one (.dp T2)) (y11 : Int))) (by kernel_rfl)⟩)) (fun y13 e14 =>
   Owp.bif (fun e15 =>
    Owp.some (⟨[.cut ⟨[], [], (slices_Compare.c1p a0 a1 (0 : Int)), 0, (.exit 0), (slices_Compare.c1q a0 a1 (.inr ())), 0⟩, .dec true], [], via (cutP trivial [] (slices_Compare.c1p a0 a1 (0 : Int)) (((slices_Compare.c1_ok k a0 a1 k (0 : Int)).ap (e10.trans (congrArg some e14))).triple) (retP (And.intro trivial e15) (.one (.dp T2)) ((-1 : Int) : Int))) (by kernel_rfl)⟩)) (fun e15 =>
    Owp.some (⟨[.cut ⟨[], [], (slices_Compare.c1p a0 a1 (0 : Int)), 0, (.exit 0), (slices_Compare.c1q a0 a1 (.inr ())), 0⟩, .dec false], [], via (cutP trivial [] (slices_Compare.c1p a0 a1 (0 : Int)) (((slices_Compare.c1_ok k a0 a1 k (0 : Int)).ap (e10.trans (congrArg some e14))).triple) (retP (And.intro trivial e15) (.one (.dp T2)) ((0 : Int) : Int))) (by kernel_rfl)⟩)))
theorem slices_Compare.ok (k : Nat) : FnOk PR 34 (slices_Compare.sp k) :=
  fn_ok (slices_Compare.cok k) hmix Try.func34 (code := slices_Compare.code) (by kernel_rfl) (by kernel_rfl) (by kernel_rfl) rfl rfl (by kernel_rfl) (by kernel_rfl) (by kernel_rfl) (fun x => Nat.le_of_ble_eq_true (by kernel_rfl)) fun x y hy => (slices_Compare.way k x.1 x.2.1).ap hy

/-! tourney/tourkeep2.SweepTurned$1 -/
noncomputable def tourkeep2_SweepTurned_1.code : Code := Func.cd Try.f33
noncomputable def tourkeep2_SweepTurned_1 (k : Nat) (a0 : (List Int)) (a1 : (List Int)) : Option Int :=
  bnd (slices_Compare k (List.take 2 (List.drop 0 a0)) (List.take 2 (List.drop 0 a1))) fun y1 =>
  some y1
noncomputable def tourkeep2_SweepTurned_1.sp (k : Nat) : Go.Sx.Spec := ⟨(.pair (.arr 2 T2) (.pair (.arr 2 T2) .unit)), (.one (.dp T2)), fun x => tourkeep2_SweepTurned_1 k x.1 x.2.1, false⟩
noncomputable def tourkeep2_SweepTurned_1.cx (k : Nat) : Go.Sx.Ctx := ⟨tys, [(34, slices_Compare.sp k)], eqs, 8, 0, [], false⟩
theorem tourkeep2_SweepTurned_1.cok (k : Nat) : CtxOk PR (tourkeep2_SweepTurned_1.cx k) := ctx_ok tysOk eqsOk (FnsOk.cons (slices_Compare.ok k) FnsOk.nil) HsOk.nil
theorem tourkeep2_SweepTurned_1.way (k : Nat) (a0 : (List Int)) (a1 : (List Int)) : Owp (tourkeep2_SweepTurned_1 k a0 a1) fun y => ∃ answers cmds, exec PR (tourkeep2_SweepTurned_1.cx k) tourkeep2_SweepTurned_1.code 0 (entry (.pair (.arr 2 T2) (.pair (.arr 2 T2) .unit)) (a0, a1, ())).st answers (Ret (tourkeep2_SweepTurned_1.cx k) Try.f33 cmds (.one (.dp T2)) y) := by
  unfold tourkeep2_SweepTurned_1; exact
   Owp.bnd fun y1 e2 =>
   Owp.some (⟨[.res (.one (.dp T2)) y1], [], via (retP (And.intro trivial e2) (.one (.dp T2)) (y1 : Int)) (by kernel_rfl)⟩)
theorem tourkeep2_SweepTurned_1.ok (k : Nat) : FnOk PR 33 (tourkeep2_SweepTurned_1.sp k) :=
  fn_ok (tourkeep2_SweepTurned_1.cok k) hmix Try.func33 (code := tourkeep2_SweepTurned_1.code) (by kernel_rfl) (by kernel_rfl) (by kernel_rfl) rfl rfl (by kernel_rfl) (by kernel_rfl) (by kernel_rfl) (fun x => Nat.le_of_ble_eq_true (by kernel_rfl)) fun x y hy => (tourkeep2_SweepTurned_1.way k x.1 x.2.1).ap hy

end Go.Proofs.T1
