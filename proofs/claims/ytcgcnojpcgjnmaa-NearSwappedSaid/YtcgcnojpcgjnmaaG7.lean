import Derived.Test.YtcgcnojpcgjnmaaG0
import Derived.Test.YtcgcnojpcgjnmaaG1
import Derived.Test.YtcgcnojpcgjnmaaG3
import Derived.Test.YtcgcnojpcgjnmaaG4
import Derived.Test.YtcgcnojpcgjnmaaG6
namespace Go.Proofs.T1
open Go Go.Sx Go.Proofs
set_option maxRecDepth 100000
set_option linter.unusedVariables false
/-! tourney/near.inside -/
noncomputable def near_inside.code : Code := Func.cd Try.f150
def near_inside.c1 (k : Nat) (a0 : (List V22)) : Nat → Int → Option (Unit ⊕ Unit)
  | 0, _ => none
  | n + 1, v1 =>
   bif' (ilt v1 (len a0))
   (req (inL v1 a0) <|
    req (nz (len a0)) <|
    req (inL (irem (iadd .i64 v1 1) (len a0)) a0) <|
    bnd (near_cross k (el Z22 a0 v1) (el Z22 a0 (irem (iadd .i64 v1 1) (len a0)))) fun y6 =>
    bif' (ilt y6 0)
    (some (.inl ()))
    (near_inside.c1 k a0 n (iadd .i64 v1 1)))
   (some (.inr ()))
def near_inside (k : Nat) (a0 : (List V22)) : Option Bool :=
  bnd (near_inside.c1 k a0 k 0) fun o9 =>
  two o9 (fun y11 =>
  some false) (fun y13 =>
  some true)
noncomputable def near_inside.sp (k : Nat) : Go.Sx.Spec := ⟨(.pair T24 .unit), (.one (.dp T4)), fun x => near_inside k x.1, false⟩
noncomputable def near_inside.cx (k : Nat) : Go.Sx.Ctx := ⟨tys, [(139, near_cross.sp k)], eqs, 24, false⟩
theorem near_inside.cok (k : Nat) : CtxOk PR (near_inside.cx k) := ctx_ok tysOk eqsOk (FnsOk.cons (near_cross.ok k) FnsOk.nil)
noncomputable def near_inside.c1p (a0 : (List V22)) (v1 : Int) : SL := ⟨[(0, (.val T24 a0)), (5, (.val T24 a0)), (6, (.val T2 (len a0))), (7, (.val T2 v1))], []⟩
noncomputable def near_inside.c1q (o : Unit ⊕ Unit) : SL := (fun o => two o (fun v => ⟨[(2, (.val T4 false))], []⟩) (fun v => ⟨[], []⟩)) o
noncomputable def near_inside.c1x (o : Unit ⊕ Unit) : Ex := (fun o => two o (fun _ => .ret) (fun _ => (.exit 0))) o
noncomputable def near_inside.c1n (o : Unit ⊕ Unit) : Nat := (fun o => two o (fun _ => 0) (fun _ => 0)) o
theorem near_inside.c1_ok (k : Nat) (a0 : (List V22)) : ∀ (n : Nat) (v1 : Int), Owp (near_inside.c1 k a0 n v1) fun o => LTriple PR (near_inside.cx k) (sub near_inside.code [1, 0, 1, 0, 0]) 0 (near_inside.c1p a0 v1) (near_inside.c1x o) (near_inside.c1n o) (near_inside.c1q o)
  | 0, _ => fun _ h => nomatch h
  | n + 1, v1 => Owp.of (near_inside.c1.eq_2 ..) (
   Owp.bif (fun e2 =>
   Owp.req fun h3 =>
    Owp.req fun h4 =>
    Owp.req fun h5 =>
    Owp.bnd fun y6 e7 =>
    Owp.bif (fun e8 =>
    Owp.some (loop_exit (near_inside.cok k) hmix [.dec true, .res (.one (.dp T2)) y6, .dec true] [] [] exne_ret (via (finP (And.intro (And.intro (And.intro (And.intro (And.intro (And.intro trivial e2) h3) h4) h5) e7) e8) .ret [] (near_inside.c1q (.inl ()))) (by kernel_rfl)))) (fun e8 =>
    fun y hy => loop_back (near_inside.cok k) hmix 0 (near_inside.c1p a0 (iadd .i64 v1 (1 : Int))) [.dec true, .res (.one (.dp T2)) y6, .dec false] [] [] (via (finP (And.intro (And.intro (And.intro (And.intro (And.intro (And.intro trivial e2) h3) h4) h5) e7) e8) .normal [] (near_inside.c1p a0 (iadd .i64 v1 (1 : Int)))) (by kernel_rfl)) ((near_inside.c1_ok k a0 n (iadd .i64 v1 (1 : Int))).ap hy))) (fun e2 =>
   Owp.some (loop_exit (near_inside.cok k) hmix [.dec false] [] [] (exne 0) (via (finP (And.intro trivial e2) (.exit 0) [] (near_inside.c1q (.inr ()))) (by kernel_rfl)))))
theorem near_inside.way (k : Nat) (a0 : (List V22)) : Owp (near_inside k a0) fun y => ∃ answers cmds, exec PR (near_inside.cx k) near_inside.code 0 (entry (.pair T24 .unit) (a0, ())).st answers (Ret (near_inside.cx k) Try.f150 cmds (.one (.dp T4)) y) := by
  unfold near_inside; exact
   Owp.bnd fun o9 e10 =>
   Owp.two (fun y11 e12 =>
   Owp.some (⟨[.cut ⟨[], [], (near_inside.c1p a0 (0 : Int)), 0, .ret, (near_inside.c1q (.inl ())), 0⟩], [], via (cutP trivial [] (near_inside.c1p a0 (0 : Int)) (((near_inside.c1_ok k a0 k (0 : Int)).ap (e10.trans (congrArg some e12))).triple) (retP trivial (.one (.dp T4)) (false : Bool))) (by kernel_rfl)⟩)) (fun y13 e14 =>
   Owp.some (⟨[.cut ⟨[], [], (near_inside.c1p a0 (0 : Int)), 0, (.exit 0), (near_inside.c1q (.inr ())), 0⟩], [], via (cutP trivial [] (near_inside.c1p a0 (0 : Int)) (((near_inside.c1_ok k a0 k (0 : Int)).ap (e10.trans (congrArg some e14))).triple) (retP trivial (.one (.dp T4)) (true : Bool))) (by kernel_rfl)⟩))
theorem near_inside.ok (k : Nat) : FnOk PR 150 (near_inside.sp k) :=
  fn_ok (near_inside.cok k) hmix Try.func150 (code := near_inside.code) (by kernel_rfl) (by kernel_rfl) (by kernel_rfl) rfl (by kernel_rfl) (by kernel_rfl) (by kernel_rfl) (fun x => Nat.le_of_ble_eq_true (by kernel_rfl)) fun x y hy => (near_inside.way k x.1).ap hy

/-! tourney/near.greatest -/
noncomputable def near_greatest.code : Code := Func.cd Try.f191
def near_greatest.c1 (k : Nat) (a0 : ((Int × Unit) → Option Bool)) : Nat → Int → Int → Option (Int)
  | 0, _, _ => none
  | n + 1, v1, v2 =>
   bif' (igt (isub .i64 v2 v1) 1)
   (bnd (a0 ((iquo .i64 (iadd .i64 v1 v2) 2), ())) fun y4 =>
    bif' y4
    (near_greatest.c1 k a0 n (iquo .i64 (iadd .i64 v1 v2) 2) v2)
    (near_greatest.c1 k a0 n v1 (iquo .i64 (iadd .i64 v1 v2) 2)))
   (some v1)
def near_greatest (k : Nat) (a0 : ((Int × Unit) → Option Bool)) : Option Int :=
  bnd (near_greatest.c1 k a0 k 0 536870912) fun o7 =>
  some o7
noncomputable def near_greatest.sp (k : Nat) : Go.Sx.Spec := ⟨(.pair (.fn (.pair T2 .unit) T4) .unit), (.one (.dp T2)), fun x => near_greatest k x.1, false⟩
noncomputable def near_greatest.cx (k : Nat) : Go.Sx.Ctx := ⟨tys, [], eqs, 20, false⟩
theorem near_greatest.cok (k : Nat) : CtxOk PR (near_greatest.cx k) := ctx_ok tysOk eqsOk FnsOk.nil
noncomputable def near_greatest.c1p (a0 : ((Int × Unit) → Option Bool)) (v1 : Int) (v2 : Int) : SL := ⟨[(0, (.val (.fn (.pair T2 .unit) T4) a0)), (3, (.val T2 v1)), (4, (.val T2 v2))], []⟩
noncomputable def near_greatest.c1q (o : Int) : SL := (fun v => ⟨[(3, (.val T2 v))], []⟩) o
noncomputable def near_greatest.c1x (o : Int) : Ex := (fun _ => (.exit 0)) o
noncomputable def near_greatest.c1n (o : Int) : Nat := (fun _ => 0) o
theorem near_greatest.c1_ok (k : Nat) (a0 : ((Int × Unit) → Option Bool)) : ∀ (n : Nat) (v1 : Int) (v2 : Int), Owp (near_greatest.c1 k a0 n v1 v2) fun o => LTriple PR (near_greatest.cx k) (sub near_greatest.code [1, 1, 0, 0, 0]) 0 (near_greatest.c1p a0 v1 v2) (near_greatest.c1x o) (near_greatest.c1n o) (near_greatest.c1q o)
  | 0, _, _ => fun _ h => nomatch h
  | n + 1, v1, v2 => Owp.of (near_greatest.c1.eq_2 ..) (
   Owp.bif (fun e3 =>
   Owp.bnd fun y4 e5 =>
    Owp.bif (fun e6 =>
    fun y hy => loop_back (near_greatest.cok k) hmix 0 (near_greatest.c1p a0 (iquo .i64 (iadd .i64 v1 v2) (2 : Int)) v2) [.dec true, .res (.one (.dp T4)) y4, .dec true] [] [] (via (finP (And.intro (And.intro (And.intro (And.intro trivial e3) (by decide : nz (2 : Int))) e5) e6) .normal [] (near_greatest.c1p a0 (iquo .i64 (iadd .i64 v1 v2) (2 : Int)) v2)) (by kernel_rfl)) ((near_greatest.c1_ok k a0 n (iquo .i64 (iadd .i64 v1 v2) (2 : Int)) v2).ap hy)) (fun e6 =>
    fun y hy => loop_back (near_greatest.cok k) hmix 0 (near_greatest.c1p a0 v1 (iquo .i64 (iadd .i64 v1 v2) (2 : Int))) [.dec true, .res (.one (.dp T4)) y4, .dec false] [] [] (via (finP (And.intro (And.intro (And.intro (And.intro trivial e3) (by decide : nz (2 : Int))) e5) e6) .normal [] (near_greatest.c1p a0 v1 (iquo .i64 (iadd .i64 v1 v2) (2 : Int)))) (by kernel_rfl)) ((near_greatest.c1_ok k a0 n v1 (iquo .i64 (iadd .i64 v1 v2) (2 : Int))).ap hy))) (fun e3 =>
   Owp.some (loop_exit (near_greatest.cok k) hmix [.dec false] [] [] (exne 0) (via (finP (And.intro trivial e3) (.exit 0) [] (near_greatest.c1q v1)) (by kernel_rfl)))))
theorem near_greatest.way (k : Nat) (a0 : ((Int × Unit) → Option Bool)) : Owp (near_greatest k a0) fun y => ∃ answers cmds, exec PR (near_greatest.cx k) near_greatest.code 0 (entry (.pair (.fn (.pair T2 .unit) T4) .unit) (a0, ())).st answers (Ret (near_greatest.cx k) Try.f191 cmds (.one (.dp T2)) y) := by
  unfold near_greatest; exact
   Owp.bnd fun o7 e8 =>
   Owp.some (⟨[.cut ⟨[], [], (near_greatest.c1p a0 (0 : Int) (536870912 : Int)), 0, (.exit 0), (near_greatest.c1q o7), 0⟩], [], via (cutP trivial [] (near_greatest.c1p a0 (0 : Int) (536870912 : Int)) (((near_greatest.c1_ok k a0 k (0 : Int) (536870912 : Int)).ap e8).triple) (retP trivial (.one (.dp T2)) (o7 : Int))) (by kernel_rfl)⟩)
theorem near_greatest.ok (k : Nat) : FnOk PR 191 (near_greatest.sp k) :=
  fn_ok (near_greatest.cok k) hmix Try.func191 (code := near_greatest.code) (by kernel_rfl) (by kernel_rfl) (by kernel_rfl) rfl (by kernel_rfl) (by kernel_rfl) (by kernel_rfl) (fun x => Nat.le_of_ble_eq_true (by kernel_rfl)) fun x y hy => (near_greatest.way k x.1).ap hy

/-! tourney/near.far$1 -/
noncomputable def near_far_1.code : Code := Func.cd Try.f192
def near_far_1 (k : Nat) (a0 : Int) (a1 : V22) : Option Bool :=
  some (ile (imul .i64 a0 a0) (iadd .i64 (imul .i64 a1.1 a1.1) (imul .i64 a1.2.1 a1.2.1)))
noncomputable def near_far_1.sp (k : Nat) : Go.Sx.Spec := ⟨(.pair T2 (.pair (.ref T22) .unit)), (.one (.dp T4)), fun x => near_far_1 k x.1 x.2.1, false⟩
noncomputable def near_far_1.cx (k : Nat) : Go.Sx.Ctx := ⟨tys, [], eqs, 19, false⟩
theorem near_far_1.cok (k : Nat) : CtxOk PR (near_far_1.cx k) := ctx_ok tysOk eqsOk FnsOk.nil
theorem near_far_1.way (k : Nat) (a0 : Int) (a1 : V22) : Owp (near_far_1 k a0 a1) fun y => ∃ answers cmds, exec PR (near_far_1.cx k) near_far_1.code 0 (entry (.pair T2 (.pair (.ref T22) .unit)) (a0, a1, ())).st answers (Ret (near_far_1.cx k) Try.f192 cmds (.one (.dp T4)) y) := by
  unfold near_far_1; exact
   Owp.some (⟨[], [], via (retP trivial (.one (.dp T4)) ((ile (imul .i64 a0 a0) (iadd .i64 (imul .i64 a1.1 a1.1) (imul .i64 a1.2.1 a1.2.1))) : Bool)) (by kernel_rfl)⟩)
theorem near_far_1.ok (k : Nat) : FnOk PR 192 (near_far_1.sp k) :=
  fn_ok (near_far_1.cok k) hmix Try.func192 (code := near_far_1.code) (by kernel_rfl) (by kernel_rfl) (by kernel_rfl) rfl (by kernel_rfl) (by kernel_rfl) (by kernel_rfl) (fun x => Nat.le_of_ble_eq_true (by kernel_rfl)) fun x y hy => (near_far_1.way k x.1 x.2.1).ap hy

/-! tourney/near.far$2 -/
noncomputable def near_far_2.code : Code := Func.cd Try.f193
def near_far_2 (k : Nat) (a0 : Int) (a1 : V22) : Option Bool :=
  some (ile (imul .i64 a0 a0) (iadd .i64 (imul .i64 a1.1 a1.1) (imul .i64 a1.2.1 a1.2.1)))
noncomputable def near_far_2.sp (k : Nat) : Go.Sx.Spec := ⟨(.pair T2 (.pair (.ref T22) .unit)), (.one (.dp T4)), fun x => near_far_2 k x.1 x.2.1, false⟩
noncomputable def near_far_2.cx (k : Nat) : Go.Sx.Ctx := ⟨tys, [], eqs, 19, false⟩
theorem near_far_2.cok (k : Nat) : CtxOk PR (near_far_2.cx k) := ctx_ok tysOk eqsOk FnsOk.nil
theorem near_far_2.way (k : Nat) (a0 : Int) (a1 : V22) : Owp (near_far_2 k a0 a1) fun y => ∃ answers cmds, exec PR (near_far_2.cx k) near_far_2.code 0 (entry (.pair T2 (.pair (.ref T22) .unit)) (a0, a1, ())).st answers (Ret (near_far_2.cx k) Try.f193 cmds (.one (.dp T4)) y) := by
  unfold near_far_2; exact
   Owp.some (⟨[], [], via (retP trivial (.one (.dp T4)) ((ile (imul .i64 a0 a0) (iadd .i64 (imul .i64 a1.1 a1.1) (imul .i64 a1.2.1 a1.2.1))) : Bool)) (by kernel_rfl)⟩)
theorem near_far_2.ok (k : Nat) : FnOk PR 193 (near_far_2.sp k) :=
  fn_ok (near_far_2.cok k) hmix Try.func193 (code := near_far_2.code) (by kernel_rfl) (by kernel_rfl) (by kernel_rfl) rfl (by kernel_rfl) (by kernel_rfl) (by kernel_rfl) (fun x => Nat.le_of_ble_eq_true (by kernel_rfl)) fun x y hy => (near_far_2.way k x.1 x.2.1).ap hy

/-! tourney/near.far$3 -/
noncomputable def near_far_3.code : Code := Func.cd Try.f194
def near_far_3 (k : Nat) (a0 : Int) (a1 : Int) (a2 : Int) : Option Bool :=
  bnd (poly_Times k (imul .i64 a0 a0) a1) fun y1 =>
  bnd (poly_Times k a2 a2) fun y3 =>
  bnd (poly_Wide_Cmp k y1 y3) fun y5 =>
  some (ile y5 0)
noncomputable def near_far_3.sp (k : Nat) : Go.Sx.Spec := ⟨(.pair T2 (.pair (.ref T2) (.pair (.ref T2) .unit))), (.one (.dp T4)), fun x => near_far_3 k x.1 x.2.1 x.2.2.1, false⟩
noncomputable def near_far_3.cx (k : Nat) : Go.Sx.Ctx := ⟨tys, [(96, poly_Times.sp k), (67, poly_Wide_Cmp.sp k)], eqs, 15, false⟩
theorem near_far_3.cok (k : Nat) : CtxOk PR (near_far_3.cx k) := ctx_ok tysOk eqsOk (FnsOk.cons (poly_Times.ok k) (FnsOk.cons (poly_Wide_Cmp.ok k) FnsOk.nil))
theorem near_far_3.way (k : Nat) (a0 : Int) (a1 : Int) (a2 : Int) : Owp (near_far_3 k a0 a1 a2) fun y => ∃ answers cmds, exec PR (near_far_3.cx k) near_far_3.code 0 (entry (.pair T2 (.pair (.ref T2) (.pair (.ref T2) .unit))) (a0, a1, a2, ())).st answers (Ret (near_far_3.cx k) Try.f194 cmds (.one (.dp T4)) y) := by
  unfold near_far_3; exact
   Owp.bnd fun y1 e2 =>
   Owp.bnd fun y3 e4 =>
   Owp.bnd fun y5 e6 =>
   Owp.some (⟨[.res (.one (.dp T90)) y1, .res (.one (.dp T90)) y3, .res (.one (.dp T2)) y5], [], via (retP (And.intro (And.intro (And.intro trivial e2) e4) e6) (.one (.dp T4)) ((ile y5 (0 : Int)) : Bool)) (by kernel_rfl)⟩)
theorem near_far_3.ok (k : Nat) : FnOk PR 194 (near_far_3.sp k) :=
  fn_ok (near_far_3.cok k) hmix Try.func194 (code := near_far_3.code) (by kernel_rfl) (by kernel_rfl) (by kernel_rfl) rfl (by kernel_rfl) (by kernel_rfl) (by kernel_rfl) (fun x => Nat.le_of_ble_eq_true (by kernel_rfl)) fun x y hy => (near_far_3.way k x.1 x.2.1 x.2.2.1).ap hy

/-! tourney/near.far -/
noncomputable def near_far.code : Code := Func.cd Try.f151
def near_far (k : Nat) (a0 : V22) (a1 : V22) : Option Int :=
  bif' (ile (isub .i64 (imul .i64 (ineg .i64 a0.1) (isub .i64 a1.1 a0.1)) (imul .i64 a0.2.1 (isub .i64 a1.2.1 a0.2.1))) 0)
  (bnd (near_greatest k (fun x : (Int × Unit) => near_far_1 k (x.1) a0)) fun y2 =>
   some y2)
  (bif' (ige (isub .i64 (imul .i64 (ineg .i64 a0.1) (isub .i64 a1.1 a0.1)) (imul .i64 a0.2.1 (isub .i64 a1.2.1 a0.2.1))) (iadd .i64 (imul .i64 (isub .i64 a1.1 a0.1) (isub .i64 a1.1 a0.1)) (imul .i64 (isub .i64 a1.2.1 a0.2.1) (isub .i64 a1.2.1 a0.2.1))))
   (bnd (near_greatest k (fun x : (Int × Unit) => near_far_2 k (x.1) a1)) fun y5 =>
    some y5)
   (bnd (near_cross k a0 a1) fun y7 =>
    bnd (near_greatest k (fun x : (Int × Unit) => near_far_3 k (x.1) (iadd .i64 (imul .i64 (isub .i64 a1.1 a0.1) (isub .i64 a1.1 a0.1)) (imul .i64 (isub .i64 a1.2.1 a0.2.1) (isub .i64 a1.2.1 a0.2.1))) y7)) fun y9 =>
    some y9))
noncomputable def near_far.sp (k : Nat) : Go.Sx.Spec := ⟨(.pair T22 (.pair T22 .unit)), (.one (.dp T2)), fun x => near_far k x.1 x.2.1, false⟩
noncomputable def near_far.cx (k : Nat) : Go.Sx.Ctx := ⟨tys, [(191, near_greatest.sp k), (192, near_far_1.sp k), (193, near_far_2.sp k), (139, near_cross.sp k), (194, near_far_3.sp k)], eqs, 59, false⟩
theorem near_far.cok (k : Nat) : CtxOk PR (near_far.cx k) := ctx_ok tysOk eqsOk (FnsOk.cons (near_greatest.ok k) (FnsOk.cons (near_far_1.ok k) (FnsOk.cons (near_far_2.ok k) (FnsOk.cons (near_cross.ok k) (FnsOk.cons (near_far_3.ok k) FnsOk.nil)))))
theorem near_far.way (k : Nat) (a0 : V22) (a1 : V22) : Owp (near_far k a0 a1) fun y => ∃ answers cmds, exec PR (near_far.cx k) near_far.code 0 (entry (.pair T22 (.pair T22 .unit)) (a0, a1, ())).st answers (Ret (near_far.cx k) Try.f151 cmds (.one (.dp T2)) y) := by
  unfold near_far; exact
   Owp.bif (fun e1 =>
   Owp.bnd fun y2 e3 =>
    Owp.some (⟨[.dec true, .res (.one (.dp T2)) y2], [], via (retP (And.intro (And.intro trivial e1) e3) (.one (.dp T2)) (y2 : Int)) (by kernel_rfl)⟩)) (fun e1 =>
   Owp.bif (fun e4 =>
    Owp.bnd fun y5 e6 =>
     Owp.some (⟨[.dec false, .dec true, .res (.one (.dp T2)) y5], [], via (retP (And.intro (And.intro (And.intro trivial e1) e4) e6) (.one (.dp T2)) (y5 : Int)) (by kernel_rfl)⟩)) (fun e4 =>
    Owp.bnd fun y7 e8 =>
     Owp.bnd fun y9 e10 =>
     Owp.some (⟨[.dec false, .dec false, .res (.one (.dp T2)) y7, .res (.one (.dp T2)) y9], [], via (retP (And.intro (And.intro (And.intro (And.intro trivial e1) e4) e8) e10) (.one (.dp T2)) (y9 : Int)) (by kernel_rfl)⟩)))
theorem near_far.ok (k : Nat) : FnOk PR 151 (near_far.sp k) :=
  fn_ok (near_far.cok k) hmix Try.func151 (code := near_far.code) (by kernel_rfl) (by kernel_rfl) (by kernel_rfl) rfl (by kernel_rfl) (by kernel_rfl) (by kernel_rfl) (fun x => Nat.le_of_ble_eq_true (by kernel_rfl)) fun x y hy => (near_far.way k x.1 x.2.1).ap hy

/-! tourney/near.Apart -/
noncomputable def near_Apart.code : Code := Func.cd Try.f72
def near_Apart.c1 (k : Nat) (y1 : ((List V22) × Int)) : Nat → Int → Int → Option (Int)
  | 0, _, _ => none
  | n + 1, v7, v8 =>
   bif' (ilt v8 (len y1.1))
   (req (inL v8 y1.1) <|
    req (nz (len y1.1)) <|
    req (inL (irem (iadd .i64 v8 1) (len y1.1)) y1.1) <|
    bnd (near_far k (el Z22 y1.1 v8) (el Z22 y1.1 (irem (iadd .i64 v8 1) (len y1.1)))) fun y13 =>
    near_Apart.c1 k y1 n (imin v7 y13) (iadd .i64 v8 1))
   (some v7)
def near_Apart (k : Nat) (a0 : (List V22)) (a1 : (List V22)) : Option (Int × Int) :=
  bnd (near_Minus k a0 a1) fun y1 =>
  bif' (ine y1.2 0)
  (some (0, y1.2))
  (bnd (near_inside k y1.1) fun y4 =>
   bif' y4
   (some (0, 0))
   (bnd (near_Apart.c1 k y1 k 1073741824 0) fun o15 =>
    some (o15, 0)))
noncomputable def near_Apart.sp (k : Nat) : Go.Sx.Spec := ⟨(.pair T24 (.pair T24 .unit)), (.more (.dp T2) (.one (.dp T2))), fun x => near_Apart k x.1 x.2.1, false⟩
noncomputable def near_Apart.cx (k : Nat) : Go.Sx.Ctx := ⟨tys, [(65, near_Minus.sp k), (150, near_inside.sp k), (151, near_far.sp k)], eqs, 43, false⟩
theorem near_Apart.cok (k : Nat) : CtxOk PR (near_Apart.cx k) := ctx_ok tysOk eqsOk (FnsOk.cons (near_Minus.ok k) (FnsOk.cons (near_inside.ok k) (FnsOk.cons (near_far.ok k) FnsOk.nil)))
noncomputable def near_Apart.c1p (y1 : ((List V22) × Int)) (v7 : Int) (v8 : Int) : SL := ⟨[(6, (.val .own (0 : Nat))), (8, (.val T2 v7)), (22, (.val .own (0 : Nat))), (23, (.val T2 (len y1.1))), (24, (.val T2 v8))], [(0, .row T22 y1.1 23)]⟩
noncomputable def near_Apart.c1q (o : Int) : SL := (fun v => ⟨[(8, (.val T2 v))], []⟩) o
noncomputable def near_Apart.c1x (o : Int) : Ex := (fun _ => (.exit 0)) o
noncomputable def near_Apart.c1n (o : Int) : Nat := (fun _ => 0) o
theorem near_Apart.c1_ok (k : Nat) (y1 : ((List V22) × Int)) : ∀ (n : Nat) (v7 : Int) (v8 : Int), Owp (near_Apart.c1 k y1 n v7 v8) fun o => LTriple PR (near_Apart.cx k) (sub near_Apart.code [1, 1, 1, 1, 1, 0, 1, 0, 0]) 1 (near_Apart.c1p y1 v7 v8) (near_Apart.c1x o) (near_Apart.c1n o) (near_Apart.c1q o)
  | 0, _, _ => fun _ h => nomatch h
  | n + 1, v7, v8 => Owp.of (near_Apart.c1.eq_2 ..) (
   Owp.bif (fun e9 =>
   Owp.req fun h10 =>
    Owp.req fun h11 =>
    Owp.req fun h12 =>
    Owp.bnd fun y13 e14 =>
    fun y hy => loop_back (near_Apart.cok k) hmix 1 (near_Apart.c1p y1 (imin v7 y13) (iadd .i64 v8 (1 : Int))) [.dec true, .res (.one (.dp T2)) y13] [] [(0, 0)] (via (finP (And.intro (And.intro (And.intro (And.intro (And.intro (And.intro (And.intro trivial e9) h10) h10) h11) h12) h12) e14) .normal [(0, 0)] (near_Apart.c1p y1 (imin v7 y13) (iadd .i64 v8 (1 : Int)))) (by kernel_rfl)) ((near_Apart.c1_ok k y1 n (imin v7 y13) (iadd .i64 v8 (1 : Int))).ap hy)) (fun e9 =>
   Owp.some (loop_exit (near_Apart.cok k) hmix [.dec false] [] [] (exne 0) (via (finP (And.intro trivial e9) (.exit 0) [] (near_Apart.c1q v7)) (by kernel_rfl)))))
theorem near_Apart.way (k : Nat) (a0 : (List V22)) (a1 : (List V22)) : Owp (near_Apart k a0 a1) fun y => ∃ answers cmds, exec PR (near_Apart.cx k) near_Apart.code 0 (entry (.pair T24 (.pair T24 .unit)) (a0, a1, ())).st answers (Ret (near_Apart.cx k) Try.f72 cmds (.more (.dp T2) (.one (.dp T2))) y) := by
  unfold near_Apart; exact
   Owp.bnd fun y1 e2 =>
   Owp.bif (fun e3 =>
   Owp.some (⟨[.res (.more (.ow T22 23) (.one (.dp T2))) y1, .dec true], [], via (retP (And.intro (And.intro trivial e2) e3) (.more (.dp T2) (.one (.dp T2))) (((0 : Int), y1.2) : (Int × Int))) (by kernel_rfl)⟩)) (fun e3 =>
   Owp.bnd fun y4 e5 =>
    Owp.bif (fun e6 =>
    Owp.some (⟨[.res (.more (.ow T22 23) (.one (.dp T2))) y1, .dec false, .res (.one (.dp T4)) y4, .dec true], [], via (retP (And.intro (And.intro (And.intro (And.intro trivial e2) e3) e5) e6) (.more (.dp T2) (.one (.dp T2))) (((0 : Int), (0 : Int)) : (Int × Int))) (by kernel_rfl)⟩)) (fun e6 =>
    Owp.bnd fun o15 e16 =>
     Owp.some (⟨[.res (.more (.ow T22 23) (.one (.dp T2))) y1, .dec false, .res (.one (.dp T4)) y4, .dec false, .cut ⟨[], [(0, 4)], (near_Apart.c1p y1 (1073741824 : Int) (0 : Int)), 1, (.exit 0), (near_Apart.c1q o15), 0⟩], [], via (cutP (And.intro (And.intro (And.intro (And.intro trivial e2) e3) e5) e6) [(0, 4)] (near_Apart.c1p y1 (1073741824 : Int) (0 : Int)) (((near_Apart.c1_ok k y1 k (1073741824 : Int) (0 : Int)).ap e16).triple) (retP trivial (.more (.dp T2) (.one (.dp T2))) ((o15, (0 : Int)) : (Int × Int)))) (by kernel_rfl)⟩)))
theorem near_Apart.ok (k : Nat) : FnOk PR 72 (near_Apart.sp k) :=
  fn_ok (near_Apart.cok k) hmix Try.func72 (code := near_Apart.code) (by kernel_rfl) (by kernel_rfl) (by kernel_rfl) rfl (by kernel_rfl) (by kernel_rfl) (by kernel_rfl) (fun x => Nat.le_of_ble_eq_true (by kernel_rfl)) fun x y hy => (near_Apart.way k x.1 x.2.1).ap hy

/-! tourney/tourkeep2.tests -/
noncomputable def tourkeep2_tests.code : Code := Func.cd Try.f63
def tourkeep2_tests (k : Nat) : Option Bool :=
  bnd (tourkeep2_square k 0 0 2) fun y1 =>
  bnd (tourkeep2_square k 3 1 2) fun y3 =>
  bnd (sat_Test k y1 y3) fun y5 =>
  bnd (tourkeep2_square k 0 0 1) fun y7 =>
  bnd (tourkeep2_square k 5 6 1) fun y9 =>
  bnd (near_Apart k y7 y9) fun y11 =>
  bif' y5.1
  (bif' (ieq y5.2.1 65536)
   (bif' (Ty.eqb T22 y5.2.2 ((65536 : Int), (0 : Int), ()))
    (bif' (ieq y11.2 0)
     (some (ieq y11.1 327680))
     (some false))
    (some false))
   (some false))
  (some false)
noncomputable def tourkeep2_tests.sp (k : Nat) : Go.Sx.Spec := ⟨.unit, (.one (.dp T4)), fun x => tourkeep2_tests k, false⟩
noncomputable def tourkeep2_tests.cx (k : Nat) : Go.Sx.Ctx := ⟨tys, [(107, tourkeep2_square.sp k), (25, sat_Test.sp k), (72, near_Apart.sp k)], eqs, 37, false⟩
theorem tourkeep2_tests.cok (k : Nat) : CtxOk PR (tourkeep2_tests.cx k) := ctx_ok tysOk eqsOk (FnsOk.cons (tourkeep2_square.ok k) (FnsOk.cons (sat_Test.ok k) (FnsOk.cons (near_Apart.ok k) FnsOk.nil)))
theorem tourkeep2_tests.way (k : Nat) : Owp (tourkeep2_tests k) fun y => ∃ answers cmds, exec PR (tourkeep2_tests.cx k) tourkeep2_tests.code 0 (entry .unit ()).st answers (Ret (tourkeep2_tests.cx k) Try.f63 cmds (.one (.dp T4)) y) := by
  unfold tourkeep2_tests; exact
   Owp.bnd fun y1 e2 =>
   Owp.bnd fun y3 e4 =>
   Owp.bnd fun y5 e6 =>
   Owp.bnd fun y7 e8 =>
   Owp.bnd fun y9 e10 =>
   Owp.bnd fun y11 e12 =>
   Owp.bif (fun e13 =>
   Owp.bif (fun e14 =>
    Owp.bif (fun e15 =>
     Owp.bif (fun e16 =>
      Owp.some (⟨[.res (.one (.ow T22 23)) y1, .res (.one (.ow T22 23)) y3, .res (.more (.dp T4) (.more (.dp T2) (.one (.dp T22)))) y5, .res (.one (.ow T22 23)) y7, .res (.one (.ow T22 23)) y9, .res (.more (.dp T2) (.one (.dp T2))) y11, .dec true, .dec true, .dec true, .dec true, .dec true, .dec true, .dec true, .dec true, .dec true, .dec true, .dec true, .dec true, .dec true], [], via (retP (And.intro (And.intro (And.intro (And.intro (And.intro (And.intro (And.intro (And.intro (And.intro (And.intro (And.intro (And.intro (And.intro (And.intro (And.intro (And.intro (And.intro (And.intro (And.intro trivial e2) e4) e6) e8) e10) e12) e13) e13) e13) e14) e14) e14) e14) e15) e15) e15) e16) e16) e16) (.one (.dp T4)) ((ieq y11.1 (327680 : Int)) : Bool)) (by kernel_rfl)⟩)) (fun e16 =>
      Owp.some (⟨[.res (.one (.ow T22 23)) y1, .res (.one (.ow T22 23)) y3, .res (.more (.dp T4) (.more (.dp T2) (.one (.dp T22)))) y5, .res (.one (.ow T22 23)) y7, .res (.one (.ow T22 23)) y9, .res (.more (.dp T2) (.one (.dp T2))) y11, .dec true, .dec true, .dec true, .dec true, .dec true, .dec true, .dec true, .dec true, .dec true, .dec true, .dec false, .dec false, .dec false], [], via (retP (And.intro (And.intro (And.intro (And.intro (And.intro (And.intro (And.intro (And.intro (And.intro (And.intro (And.intro (And.intro (And.intro (And.intro (And.intro (And.intro (And.intro (And.intro (And.intro trivial e2) e4) e6) e8) e10) e12) e13) e13) e13) e14) e14) e14) e14) e15) e15) e15) e16) e16) e16) (.one (.dp T4)) (false : Bool)) (by kernel_rfl)⟩))) (fun e15 =>
     Owp.some (⟨[.res (.one (.ow T22 23)) y1, .res (.one (.ow T22 23)) y3, .res (.more (.dp T4) (.more (.dp T2) (.one (.dp T22)))) y5, .res (.one (.ow T22 23)) y7, .res (.one (.ow T22 23)) y9, .res (.more (.dp T2) (.one (.dp T2))) y11, .dec true, .dec true, .dec true, .dec true, .dec true, .dec true, .dec true, .dec false, .dec false, .dec false, .dec false, .dec false, .dec false], [], via (retP (And.intro (And.intro (And.intro (And.intro (And.intro (And.intro (And.intro (And.intro (And.intro (And.intro (And.intro (And.intro (And.intro (And.intro (And.intro (And.intro (And.intro (And.intro (And.intro trivial e2) e4) e6) e8) e10) e12) e13) e13) e13) e14) e14) e14) e14) e15) e15) e15) ff) ff) ff) (.one (.dp T4)) (false : Bool)) (by kernel_rfl)⟩))) (fun e14 =>
    Owp.some (⟨[.res (.one (.ow T22 23)) y1, .res (.one (.ow T22 23)) y3, .res (.more (.dp T4) (.more (.dp T2) (.one (.dp T22)))) y5, .res (.one (.ow T22 23)) y7, .res (.one (.ow T22 23)) y9, .res (.more (.dp T2) (.one (.dp T2))) y11, .dec true, .dec true, .dec true, .dec false, .dec false, .dec false, .dec false, .dec false, .dec false, .dec false, .dec false, .dec false, .dec false], [], via (retP (And.intro (And.intro (And.intro (And.intro (And.intro (And.intro (And.intro (And.intro (And.intro (And.intro (And.intro (And.intro (And.intro (And.intro (And.intro (And.intro (And.intro (And.intro (And.intro trivial e2) e4) e6) e8) e10) e12) e13) e13) e13) e14) e14) e14) e14) ff) ff) ff) ff) ff) ff) (.one (.dp T4)) (false : Bool)) (by kernel_rfl)⟩))) (fun e13 =>
   Owp.some (⟨[.res (.one (.ow T22 23)) y1, .res (.one (.ow T22 23)) y3, .res (.more (.dp T4) (.more (.dp T2) (.one (.dp T22)))) y5, .res (.one (.ow T22 23)) y7, .res (.one (.ow T22 23)) y9, .res (.more (.dp T2) (.one (.dp T2))) y11, .dec false, .dec false, .dec false, .dec false, .dec false, .dec false, .dec false, .dec false, .dec false, .dec false, .dec false, .dec false, .dec false], [], via (retP (And.intro (And.intro (And.intro (And.intro (And.intro (And.intro (And.intro (And.intro (And.intro (And.intro (And.intro (And.intro (And.intro (And.intro (And.intro (And.intro (And.intro (And.intro (And.intro trivial e2) e4) e6) e8) e10) e12) e13) e13) e13) ff) ff) ff) ff) ff) ff) ff) ff) ff) ff) (.one (.dp T4)) (false : Bool)) (by kernel_rfl)⟩))
theorem tourkeep2_tests.ok (k : Nat) : FnOk PR 63 (tourkeep2_tests.sp k) :=
  fn_ok (tourkeep2_tests.cok k) hmix Try.func63 (code := tourkeep2_tests.code) (by kernel_rfl) (by kernel_rfl) (by kernel_rfl) rfl (by kernel_rfl) (by kernel_rfl) (by kernel_rfl) (fun x => Nat.le_of_ble_eq_true (by kernel_rfl)) fun x y hy => (tourkeep2_tests.way k).ap hy

/-! tourney/tourkeep2.SatMoved -/
noncomputable def tourkeep2_SatMoved.code : Code := Func.cd Try.f9
def tourkeep2_SatMoved (k : Nat) (a0 : (List Int)) (a1 : (List Int)) (a2 : Int) (a3 : Int) (a4 : Int) (a5 : Int) : Option Bool :=
  bnd (tourkeep2_pair k a0 a1 a2 a3) fun y1 =>
  bnd (tourkeep2_place k a4 a5) fun y3 =>
  bnd (sat_Test k y1.1 y1.2) fun y5 =>
  bnd (tourkeep2_moved k y1.1 y3) fun y7 =>
  bnd (tourkeep2_moved k y1.2 y3) fun y9 =>
  bnd (sat_Test k y7 y9) fun y11 =>
  bnd (tourkeep2_tests k) fun y13 =>
  bif' y13
  (bif' (Ty.eqb T4 y5.1 y11.1)
   (bif' (ieq y5.2.1 y11.2.1)
    (some (Ty.eqb T22 y5.2.2 y11.2.2))
    (some false))
   (some false))
  (some false)
noncomputable def tourkeep2_SatMoved.sp (k : Nat) : Go.Sx.Spec := ⟨(.pair T49 (.pair T49 (.pair T2 (.pair T2 T22)))), (.one (.dp T4)), fun x => tourkeep2_SatMoved k x.1 x.2.1 x.2.2.1 x.2.2.2.1 x.2.2.2.2.1 x.2.2.2.2.2.1, false⟩
noncomputable def tourkeep2_SatMoved.cx (k : Nat) : Go.Sx.Ctx := ⟨tys, [(60, tourkeep2_pair.sp k), (61, tourkeep2_place.sp k), (25, sat_Test.sp k), (62, tourkeep2_moved.sp k), (63, tourkeep2_tests.sp k)], eqs, 67, false⟩
theorem tourkeep2_SatMoved.cok (k : Nat) : CtxOk PR (tourkeep2_SatMoved.cx k) := ctx_ok tysOk eqsOk (FnsOk.cons (tourkeep2_pair.ok k) (FnsOk.cons (tourkeep2_place.ok k) (FnsOk.cons (sat_Test.ok k) (FnsOk.cons (tourkeep2_moved.ok k) (FnsOk.cons (tourkeep2_tests.ok k) FnsOk.nil)))))
theorem tourkeep2_SatMoved.way (k : Nat) (a0 : (List Int)) (a1 : (List Int)) (a2 : Int) (a3 : Int) (a4 : Int) (a5 : Int) : Owp (tourkeep2_SatMoved k a0 a1 a2 a3 a4 a5) fun y => ∃ answers cmds, exec PR (tourkeep2_SatMoved.cx k) tourkeep2_SatMoved.code 0 (entry (.pair T49 (.pair T49 (.pair T2 (.pair T2 T22)))) (a0, a1, a2, a3, a4, a5, ())).st answers (Ret (tourkeep2_SatMoved.cx k) Try.f9 cmds (.one (.dp T4)) y) := by
  unfold tourkeep2_SatMoved; exact
   Owp.bnd fun y1 e2 =>
   Owp.bnd fun y3 e4 =>
   Owp.bnd fun y5 e6 =>
   Owp.bnd fun y7 e8 =>
   Owp.bnd fun y9 e10 =>
   Owp.bnd fun y11 e12 =>
   Owp.bnd fun y13 e14 =>
   Owp.bif (fun e15 =>
   Owp.bif (fun e16 =>
    Owp.bif (fun e17 =>
     Owp.some (⟨[.res (.more (.dp T24) (.one (.ow T22 23))) y1, .res (.one (.dp T22)) y3, .res (.more (.dp T4) (.more (.dp T2) (.one (.dp T22)))) y5, .res (.one (.ow T22 23)) y7, .res (.one (.ow T22 23)) y9, .res (.more (.dp T4) (.more (.dp T2) (.one (.dp T22)))) y11, .res (.one (.dp T4)) y13, .dec true, .dec true, .dec true, .dec true, .dec true, .dec true, .dec true, .dec true, .dec true, .dec true, .dec true, .dec true], [], via (retP (And.intro (And.intro (And.intro (And.intro (And.intro (And.intro (And.intro (And.intro (And.intro (And.intro (And.intro (And.intro (And.intro (And.intro (And.intro (And.intro (And.intro (And.intro (And.intro trivial e2) e4) e6) e8) e10) e12) e14) e15) e15) e15) e15) e16) e16) e16) e16) e17) e17) e17) e17) (.one (.dp T4)) ((Ty.eqb T22 y5.2.2 y11.2.2) : Bool)) (by kernel_rfl)⟩)) (fun e17 =>
     Owp.some (⟨[.res (.more (.dp T24) (.one (.ow T22 23))) y1, .res (.one (.dp T22)) y3, .res (.more (.dp T4) (.more (.dp T2) (.one (.dp T22)))) y5, .res (.one (.ow T22 23)) y7, .res (.one (.ow T22 23)) y9, .res (.more (.dp T4) (.more (.dp T2) (.one (.dp T22)))) y11, .res (.one (.dp T4)) y13, .dec true, .dec true, .dec true, .dec true, .dec true, .dec true, .dec true, .dec true, .dec false, .dec false, .dec false, .dec false], [], via (retP (And.intro (And.intro (And.intro (And.intro (And.intro (And.intro (And.intro (And.intro (And.intro (And.intro (And.intro (And.intro (And.intro (And.intro (And.intro (And.intro (And.intro (And.intro (And.intro trivial e2) e4) e6) e8) e10) e12) e14) e15) e15) e15) e15) e16) e16) e16) e16) e17) e17) e17) e17) (.one (.dp T4)) (false : Bool)) (by kernel_rfl)⟩))) (fun e16 =>
    Owp.some (⟨[.res (.more (.dp T24) (.one (.ow T22 23))) y1, .res (.one (.dp T22)) y3, .res (.more (.dp T4) (.more (.dp T2) (.one (.dp T22)))) y5, .res (.one (.ow T22 23)) y7, .res (.one (.ow T22 23)) y9, .res (.more (.dp T4) (.more (.dp T2) (.one (.dp T22)))) y11, .res (.one (.dp T4)) y13, .dec true, .dec true, .dec true, .dec true, .dec false, .dec false, .dec false, .dec false, .dec false, .dec false, .dec false, .dec false], [], via (retP (And.intro (And.intro (And.intro (And.intro (And.intro (And.intro (And.intro (And.intro (And.intro (And.intro (And.intro (And.intro (And.intro (And.intro (And.intro (And.intro (And.intro (And.intro (And.intro trivial e2) e4) e6) e8) e10) e12) e14) e15) e15) e15) e15) e16) e16) e16) e16) ff) ff) ff) ff) (.one (.dp T4)) (false : Bool)) (by kernel_rfl)⟩))) (fun e15 =>
   Owp.some (⟨[.res (.more (.dp T24) (.one (.ow T22 23))) y1, .res (.one (.dp T22)) y3, .res (.more (.dp T4) (.more (.dp T2) (.one (.dp T22)))) y5, .res (.one (.ow T22 23)) y7, .res (.one (.ow T22 23)) y9, .res (.more (.dp T4) (.more (.dp T2) (.one (.dp T22)))) y11, .res (.one (.dp T4)) y13, .dec false, .dec false, .dec false, .dec false, .dec false, .dec false, .dec false, .dec false, .dec false, .dec false, .dec false, .dec false], [], via (retP (And.intro (And.intro (And.intro (And.intro (And.intro (And.intro (And.intro (And.intro (And.intro (And.intro (And.intro (And.intro (And.intro (And.intro (And.intro (And.intro (And.intro (And.intro (And.intro trivial e2) e4) e6) e8) e10) e12) e14) e15) e15) e15) e15) ff) ff) ff) ff) ff) ff) ff) ff) (.one (.dp T4)) (false : Bool)) (by kernel_rfl)⟩))
theorem tourkeep2_SatMoved.ok (k : Nat) : FnOk PR 9 (tourkeep2_SatMoved.sp k) :=
  fn_ok (tourkeep2_SatMoved.cok k) hmix Try.func9 (code := tourkeep2_SatMoved.code) (by kernel_rfl) (by kernel_rfl) (by kernel_rfl) rfl (by kernel_rfl) (by kernel_rfl) (by kernel_rfl) (fun x => Nat.le_of_ble_eq_true (by kernel_rfl)) fun x y hy => (tourkeep2_SatMoved.way k x.1 x.2.1 x.2.2.1 x.2.2.2.1 x.2.2.2.2.1 x.2.2.2.2.2.1).ap hy

/-! tourney/tourkeep2.SatSwapped -/
noncomputable def tourkeep2_SatSwapped.code : Code := Func.cd Try.f10
def tourkeep2_SatSwapped.c1 (k : Nat) (y3 : (Bool × (Int × V22))) (y5 : (Bool × (Int × V22))) : Option (Bool) :=
  bnd (tourkeep2_tests k) fun y7 =>
  bif' y7
  (bif' (Ty.eqb T4 y3.1 y5.1)
   (some (ine y3.2.1 y5.2.1))
   (some true))
  (some true)
def tourkeep2_SatSwapped (k : Nat) (a0 : (List Int)) (a1 : (List Int)) (a2 : Int) (a3 : Int) : Option Bool :=
  bnd (tourkeep2_pair k a0 a1 a2 a3) fun y1 =>
  bnd (sat_Test k y1.1 y1.2) fun y3 =>
  bnd (sat_Test k y1.2 y1.1) fun y5 =>
  bnd (tourkeep2_SatSwapped.c1 k y3 y5) fun o11 =>
  bif' o11
  (some false)
  (bif' y3.1
   (bnd (vec_Len k y3.2.2) fun y15 =>
    bnd (vec_Len k y5.2.2) fun y17 =>
    bif' (ile (imax y15 y17) 65538)
    (bnd (vec_Len k y3.2.2) fun y20 =>
     bnd (vec_Len k y5.2.2) fun y22 =>
     some (ige (imin y20 y22) 65534))
    (some false))
   (some true))
noncomputable def tourkeep2_SatSwapped.sp (k : Nat) : Go.Sx.Spec := ⟨(.pair T49 (.pair T49 T22)), (.one (.dp T4)), fun x => tourkeep2_SatSwapped k x.1 x.2.1 x.2.2.1 x.2.2.2.1, false⟩
noncomputable def tourkeep2_SatSwapped.cx (k : Nat) : Go.Sx.Ctx := ⟨tys, [(60, tourkeep2_pair.sp k), (25, sat_Test.sp k), (63, tourkeep2_tests.sp k), (64, vec_Len.sp k)], eqs, 69, false⟩
theorem tourkeep2_SatSwapped.cok (k : Nat) : CtxOk PR (tourkeep2_SatSwapped.cx k) := ctx_ok tysOk eqsOk (FnsOk.cons (tourkeep2_pair.ok k) (FnsOk.cons (sat_Test.ok k) (FnsOk.cons (tourkeep2_tests.ok k) (FnsOk.cons (vec_Len.ok k) FnsOk.nil))))
noncomputable def tourkeep2_SatSwapped.c1p (y3 : (Bool × (Int × V22))) (y5 : (Bool × (Int × V22))) : SL := ⟨[(11, (.val T4 y3.1)), (12, (.val T2 y3.2.1)), (13, (.val .ptr ⟨0, 0, (0 : Int), 0, 0⟩)), (14, (.val T4 y5.1)), (15, (.val T2 y5.2.1)), (16, (.val .ptr ⟨1, 0, (0 : Int), 0, 0⟩))], [(0, .cells T22 y3.2.2), (1, .cells T22 y5.2.2)]⟩
noncomputable def tourkeep2_SatSwapped.c1q (y3 : (Bool × (Int × V22))) (y5 : (Bool × (Int × V22))) (o : Bool) : SL := (fun v => ⟨[(11, (.val T4 y3.1)), (13, (.val .ptr ⟨0, 0, (0 : Int), 0, 0⟩)), (16, (.val .ptr ⟨1, 0, (0 : Int), 0, 0⟩)), (50, (.val T4 v))], [(0, .cells T22 y3.2.2), (1, .cells T22 y5.2.2)]⟩) o
noncomputable def tourkeep2_SatSwapped.c1x (o : Bool) : Ex := (fun _ => .normal) o
noncomputable def tourkeep2_SatSwapped.c1n (o : Bool) : Nat := (fun _ => 2) o
theorem tourkeep2_SatSwapped.c1_ok (k : Nat) (y3 : (Bool × (Int × V22))) (y5 : (Bool × (Int × V22))) : Owp (tourkeep2_SatSwapped.c1 k y3 y5) fun o => Triple PR (tourkeep2_SatSwapped.cx k) (sub tourkeep2_SatSwapped.code [1, 1, 1, 1, 0, 0]) 2 (tourkeep2_SatSwapped.c1p y3 y5) (tourkeep2_SatSwapped.c1x o) (tourkeep2_SatSwapped.c1n o) (tourkeep2_SatSwapped.c1q y3 y5 o) := by
  unfold tourkeep2_SatSwapped.c1; exact
   Owp.bnd fun y7 e8 =>
   Owp.bif (fun e9 =>
   Owp.bif (fun e10 =>
    Owp.some (triple_way (tourkeep2_SatSwapped.cok k) hmix [.res (.one (.dp T4)) y7, .dec false, .dec false, .dec false, .dec false, .dec false, .dec false, .dec false, .dec false] [] [(0, 0), (1, 1)] (via (finP (And.intro (And.intro (And.intro (And.intro (And.intro (And.intro (And.intro (And.intro (And.intro trivial e8) (congrArg not e9)) (congrArg not e9)) (congrArg not e9)) (congrArg not e9)) (congrArg not e10)) (congrArg not e10)) (congrArg not e10)) (congrArg not e10)) .normal [(0, 0), (1, 1)] (tourkeep2_SatSwapped.c1q y3 y5 (ine y3.2.1 y5.2.1))) (by kernel_rfl)))) (fun e10 =>
    Owp.some (triple_way (tourkeep2_SatSwapped.cok k) hmix [.res (.one (.dp T4)) y7, .dec false, .dec false, .dec false, .dec false, .dec true, .dec true, .dec true, .dec true] [] [(0, 0), (1, 1)] (via (finP (And.intro (And.intro (And.intro (And.intro (And.intro (And.intro (And.intro (And.intro (And.intro trivial e8) (congrArg not e9)) (congrArg not e9)) (congrArg not e9)) (congrArg not e9)) (congrArg not e10)) (congrArg not e10)) (congrArg not e10)) (congrArg not e10)) .normal [(0, 0), (1, 1)] (tourkeep2_SatSwapped.c1q y3 y5 true)) (by kernel_rfl))))) (fun e9 =>
   Owp.some (triple_way (tourkeep2_SatSwapped.cok k) hmix [.res (.one (.dp T4)) y7, .dec true, .dec true, .dec true, .dec true, .dec true, .dec true, .dec true, .dec true] [] [(0, 0), (1, 1)] (via (finP (And.intro (And.intro (And.intro (And.intro (And.intro (And.intro (And.intro (And.intro (And.intro trivial e8) (congrArg not e9)) (congrArg not e9)) (congrArg not e9)) (congrArg not e9)) tt) tt) tt) tt) .normal [(0, 0), (1, 1)] (tourkeep2_SatSwapped.c1q y3 y5 true)) (by kernel_rfl))))
theorem tourkeep2_SatSwapped.way (k : Nat) (a0 : (List Int)) (a1 : (List Int)) (a2 : Int) (a3 : Int) : Owp (tourkeep2_SatSwapped k a0 a1 a2 a3) fun y => ∃ answers cmds, exec PR (tourkeep2_SatSwapped.cx k) tourkeep2_SatSwapped.code 0 (entry (.pair T49 (.pair T49 T22)) (a0, a1, a2, a3, ())).st answers (Ret (tourkeep2_SatSwapped.cx k) Try.f10 cmds (.one (.dp T4)) y) := by
  unfold tourkeep2_SatSwapped; exact
   Owp.bnd fun y1 e2 =>
   Owp.bnd fun y3 e4 =>
   Owp.bnd fun y5 e6 =>
   Owp.bnd fun o11 e12 =>
   Owp.bif (fun e13 =>
   Owp.some (⟨[.res (.more (.dp T24) (.one (.ow T22 23))) y1, .res (.more (.dp T4) (.more (.dp T2) (.one (.dp T22)))) y3, .res (.more (.dp T4) (.more (.dp T2) (.one (.dp T22)))) y5, .cutR 4 ⟨[], [(0, 18), (1, 29)], (tourkeep2_SatSwapped.c1p y3 y5), 2, .normal, (tourkeep2_SatSwapped.c1q y3 y5 o11), 2⟩, .dec true], [], via (cutP (And.intro (And.intro (And.intro trivial e2) e4) e6) [(0, 18), (1, 29)] (tourkeep2_SatSwapped.c1p y3 y5) (((tourkeep2_SatSwapped.c1_ok k y3 y5).ap e12)) (retP (And.intro trivial e13) (.one (.dp T4)) (false : Bool))) (by kernel_rfl)⟩)) (fun e13 =>
   Owp.bif (fun e14 =>
    Owp.bnd fun y15 e16 =>
     Owp.bnd fun y17 e18 =>
     Owp.bif (fun e19 =>
     Owp.bnd fun y20 e21 =>
      Owp.bnd fun y22 e23 =>
      Owp.some (⟨[.res (.more (.dp T24) (.one (.ow T22 23))) y1, .res (.more (.dp T4) (.more (.dp T2) (.one (.dp T22)))) y3, .res (.more (.dp T4) (.more (.dp T2) (.one (.dp T22)))) y5, .cutR 4 ⟨[], [(0, 18), (1, 29)], (tourkeep2_SatSwapped.c1p y3 y5), 2, .normal, (tourkeep2_SatSwapped.c1q y3 y5 o11), 2⟩, .dec false, .dec false, .dec false, .res (.one (.dp T2)) y15, .dec false, .dec false, .res (.one (.dp T2)) y17, .dec false, .dec false, .dec false, .dec true, .dec true, .res (.one (.dp T2)) y20, .dec true, .dec true, .res (.one (.dp T2)) y22, .dec true, .dec true, .dec false, .dec true, .dec false], [], via (cutP (And.intro (And.intro (And.intro trivial e2) e4) e6) [(0, 18), (1, 29)] (tourkeep2_SatSwapped.c1p y3 y5) (((tourkeep2_SatSwapped.c1_ok k y3 y5).ap e12)) (retP (And.intro (And.intro (And.intro (And.intro (And.intro (And.intro (And.intro (And.intro (And.intro (And.intro (And.intro (And.intro (And.intro (And.intro (And.intro (And.intro trivial e13) (congrArg not e14)) (And.intro (congrArg not e14) e16)) (congrArg not e14)) (And.intro (congrArg not e14) e18)) (congrArg not e14)) (congrArg not e14)) (congrArg not e14)) e19) (And.intro e19 e21)) e19) (And.intro e19 e23)) e19) e19) (And.intro (congrArg not e14) e19)) (congrArg not e14)) (.one (.dp T4)) ((ige (imin y20 y22) (65534 : Int)) : Bool))) (by kernel_rfl)⟩)) (fun e19 =>
     Owp.some (⟨[.res (.more (.dp T24) (.one (.ow T22 23))) y1, .res (.more (.dp T4) (.more (.dp T2) (.one (.dp T22)))) y3, .res (.more (.dp T4) (.more (.dp T2) (.one (.dp T22)))) y5, .cutR 4 ⟨[], [(0, 18), (1, 29)], (tourkeep2_SatSwapped.c1p y3 y5), 2, .normal, (tourkeep2_SatSwapped.c1q y3 y5 o11), 2⟩, .dec false, .dec false, .dec false, .res (.one (.dp T2)) y15, .dec false, .dec false, .res (.one (.dp T2)) y17, .dec false, .dec false, .dec false, .dec false, .dec false, .dec true, .dec false, .dec false, .dec true, .dec false, .dec false, .dec false, .dec false, .dec false], [], via (cutP (And.intro (And.intro (And.intro trivial e2) e4) e6) [(0, 18), (1, 29)] (tourkeep2_SatSwapped.c1p y3 y5) (((tourkeep2_SatSwapped.c1_ok k y3 y5).ap e12)) (retP (And.intro (And.intro (And.intro (And.intro (And.intro (And.intro (And.intro (And.intro (And.intro (And.intro (And.intro (And.intro (And.intro (And.intro (And.intro (And.intro trivial e13) (congrArg not e14)) (And.intro (congrArg not e14) e16)) (congrArg not e14)) (And.intro (congrArg not e14) e18)) (congrArg not e14)) (congrArg not e14)) (congrArg not e14)) e19) e19) e19) e19) e19) e19) (And.intro (congrArg not e14) e19)) (congrArg not e14)) (.one (.dp T4)) (false : Bool))) (by kernel_rfl)⟩))) (fun e14 =>
    Owp.some (⟨[.res (.more (.dp T24) (.one (.ow T22 23))) y1, .res (.more (.dp T4) (.more (.dp T2) (.one (.dp T22)))) y3, .res (.more (.dp T4) (.more (.dp T2) (.one (.dp T22)))) y5, .cutR 4 ⟨[], [(0, 18), (1, 29)], (tourkeep2_SatSwapped.c1p y3 y5), 2, .normal, (tourkeep2_SatSwapped.c1q y3 y5 o11), 2⟩, .dec false, .dec true, .dec true, .dec true, .dec true, .dec true, .dec true, .dec true, .dec true, .dec true, .dec true, .dec true, .dec true, .dec true, .dec true, .dec true, .dec true, .dec true, .dec true, .dec true, .dec true], [], via (cutP (And.intro (And.intro (And.intro trivial e2) e4) e6) [(0, 18), (1, 29)] (tourkeep2_SatSwapped.c1p y3 y5) (((tourkeep2_SatSwapped.c1_ok k y3 y5).ap e12)) (retP (And.intro (And.intro (And.intro (And.intro (And.intro (And.intro (And.intro (And.intro (And.intro (And.intro trivial e13) (congrArg not e14)) (congrArg not e14)) (congrArg not e14)) (congrArg not e14)) (congrArg not e14)) (congrArg not e14)) (congrArg not e14)) (congrArg not e14)) (congrArg not e14)) (.one (.dp T4)) (true : Bool))) (by kernel_rfl)⟩)))
theorem tourkeep2_SatSwapped.ok (k : Nat) : FnOk PR 10 (tourkeep2_SatSwapped.sp k) :=
  fn_ok (tourkeep2_SatSwapped.cok k) hmix Try.func10 (code := tourkeep2_SatSwapped.code) (by kernel_rfl) (by kernel_rfl) (by kernel_rfl) rfl (by kernel_rfl) (by kernel_rfl) (by kernel_rfl) (fun x => Nat.le_of_ble_eq_true (by kernel_rfl)) fun x y hy => (tourkeep2_SatSwapped.way k x.1 x.2.1 x.2.2.1 x.2.2.2.1).ap hy

/-! tourney/tourkeep2.NearDifference -/
noncomputable def tourkeep2_NearDifference.code : Code := Func.cd Try.f11
def tourkeep2_NearDifference.c1 (k : Nat) (y1 : ((List V22) × (List V22))) (y3 : ((List V22) × Int)) : Option (Bool) :=
  bnd (tourkeep2_tests k) fun y5 =>
  bif' y5
  (bif' (ine y3.2 0)
   (some true)
   (bif' (ilt (len y3.1) 3)
    (some true)
    (some (igt (len y3.1) (iadd .i64 (len y1.1) (len y1.2))))))
  (some true)
def tourkeep2_NearDifference.c4 (k : Nat) (v13 : Int) (v16 : Int) (y1 : ((List V22) × (List V22))) (y3 : ((List V22) × Int)) : Nat → Int → Option (Unit ⊕ Unit)
  | 0, _ => none
  | n + 1, v19 =>
   bif' (ilt v19 (len y3.1))
   (req (inL v19 y3.1) <|
    req (nz (len y3.1)) <|
    req (inL (irem (iadd .i64 v19 1) (len y3.1)) y3.1) <|
    bnd (poly_Cross k ((isub .i64 (el Z22 y3.1 (irem (iadd .i64 v19 1) (len y3.1))).1 (el Z22 y3.1 v19).1), (isub .i64 (el Z22 y3.1 (irem (iadd .i64 v19 1) (len y3.1))).2.1 (el Z22 y3.1 v19).2.1), ()) ((isub .i64 (isub .i64 (el Z22 y1.1 v13).1 (el Z22 y1.2 v16).1) (el Z22 y3.1 v19).1), (isub .i64 (isub .i64 (el Z22 y1.1 v13).2.1 (el Z22 y1.2 v16).2.1) (el Z22 y3.1 v19).2.1), ())) fun y24 =>
    bnd (poly_Wide_Cmp k y24 (0, 0, ())) fun y26 =>
    bif' (ilt y26 0)
    (some (.inl ()))
    (tourkeep2_NearDifference.c4 k v13 v16 y1 y3 n (iadd .i64 v19 1)))
   (some (.inr ()))
def tourkeep2_NearDifference.c3 (k : Nat) (v13 : Int) (y1 : ((List V22) × (List V22))) (y3 : ((List V22) × Int)) : Nat → Int → Option (Unit ⊕ Unit)
  | 0, _ => none
  | n + 1, v16 =>
   bif' (ilt v16 (len y1.2))
   (req (inL v16 y1.2) <|
    bnd (tourkeep2_NearDifference.c4 k v13 v16 y1 y3 k 0) fun o29 =>
    two o29 (fun y31 =>
    some (.inl ())) (fun y33 =>
    tourkeep2_NearDifference.c3 k v13 y1 y3 n (iadd .i64 v16 1)))
   (some (.inr ()))
def tourkeep2_NearDifference.c2 (k : Nat) (y1 : ((List V22) × (List V22))) (y3 : ((List V22) × Int)) : Nat → Int → Option (Unit ⊕ Unit)
  | 0, _ => none
  | n + 1, v13 =>
   bif' (ilt v13 (len y1.1))
   (req (inL v13 y1.1) <|
    bnd (tourkeep2_NearDifference.c3 k v13 y1 y3 k 0) fun o35 =>
    two o35 (fun y37 =>
    some (.inl ())) (fun y39 =>
    tourkeep2_NearDifference.c2 k y1 y3 n (iadd .i64 v13 1)))
   (some (.inr ()))
def tourkeep2_NearDifference (k : Nat) (a0 : (List Int)) (a1 : (List Int)) (a2 : Int) (a3 : Int) : Option Bool :=
  bnd (tourkeep2_pair k a0 a1 a2 a3) fun y1 =>
  bnd (near_Minus k y1.1 y1.2) fun y3 =>
  bnd (tourkeep2_NearDifference.c1 k y1 y3) fun o10 =>
  bif' o10
  (some false)
  (bnd (tourkeep2_NearDifference.c2 k y1 y3 k 0) fun o41 =>
   two o41 (fun y43 =>
   some false) (fun y45 =>
   some true))
noncomputable def tourkeep2_NearDifference.sp (k : Nat) : Go.Sx.Spec := ⟨(.pair T49 (.pair T49 T22)), (.one (.dp T4)), fun x => tourkeep2_NearDifference k x.1 x.2.1 x.2.2.1 x.2.2.2.1, false⟩
noncomputable def tourkeep2_NearDifference.cx (k : Nat) : Go.Sx.Ctx := ⟨tys, [(60, tourkeep2_pair.sp k), (65, near_Minus.sp k), (63, tourkeep2_tests.sp k), (66, poly_Cross.sp k), (67, poly_Wide_Cmp.sp k)], eqs, 117, false⟩
theorem tourkeep2_NearDifference.cok (k : Nat) : CtxOk PR (tourkeep2_NearDifference.cx k) := ctx_ok tysOk eqsOk (FnsOk.cons (tourkeep2_pair.ok k) (FnsOk.cons (near_Minus.ok k) (FnsOk.cons (tourkeep2_tests.ok k) (FnsOk.cons (poly_Cross.ok k) (FnsOk.cons (poly_Wide_Cmp.ok k) FnsOk.nil)))))
noncomputable def tourkeep2_NearDifference.c1p (y1 : ((List V22) × (List V22))) (y3 : ((List V22) × Int)) : SL := ⟨[(9, (.val T24 y1.1)), (10, (.val .own (0 : Nat))), (11, (.val .own (1 : Nat))), (12, (.val T2 y3.2))], [(0, .row T22 y1.2 23), (1, .row T22 y3.1 23)]⟩
noncomputable def tourkeep2_NearDifference.c1q (y1 : ((List V22) × (List V22))) (y3 : ((List V22) × Int)) (o : Bool) : SL := (fun v => ⟨[(9, (.val T24 y1.1)), (10, (.val .own (0 : Nat))), (11, (.val .own (1 : Nat))), (54, (.val T4 v))], [(0, .row T22 y1.2 23), (1, .row T22 y3.1 23)]⟩) o
noncomputable def tourkeep2_NearDifference.c1x (o : Bool) : Ex := (fun _ => .normal) o
noncomputable def tourkeep2_NearDifference.c1n (o : Bool) : Nat := (fun _ => 2) o
theorem tourkeep2_NearDifference.c1_ok (k : Nat) (y1 : ((List V22) × (List V22))) (y3 : ((List V22) × Int)) : Owp (tourkeep2_NearDifference.c1 k y1 y3) fun o => Triple PR (tourkeep2_NearDifference.cx k) (sub tourkeep2_NearDifference.code [1, 1, 1, 0, 0]) 2 (tourkeep2_NearDifference.c1p y1 y3) (tourkeep2_NearDifference.c1x o) (tourkeep2_NearDifference.c1n o) (tourkeep2_NearDifference.c1q y1 y3 o) := by
  unfold tourkeep2_NearDifference.c1; exact
   Owp.bnd fun y5 e6 =>
   Owp.bif (fun e7 =>
   Owp.bif (fun e8 =>
    Owp.some (triple_way (tourkeep2_NearDifference.cok k) hmix [.res (.one (.dp T4)) y5, .dec false, .dec false, .dec false, .dec true, .dec true, .dec true, .dec true, .dec true, .dec true, .dec true, .dec true, .dec true, .dec true, .dec true, .dec true, .dec true] [] [(0, 0), (1, 1)] (via (finP (And.intro (And.intro (And.intro (And.intro (And.intro (And.intro (And.intro (And.intro (And.intro (And.intro (And.intro (And.intro (And.intro (And.intro (And.intro (And.intro (And.intro trivial e6) (congrArg not e7)) (congrArg not e7)) (congrArg not e7)) e8) e8) e8) e8) tt) tt) tt) tt) tt) tt) tt) tt) tt) .normal [(0, 0), (1, 1)] (tourkeep2_NearDifference.c1q y1 y3 true)) (by kernel_rfl)))) (fun e8 =>
    Owp.bif (fun e9 =>
     Owp.some (triple_way (tourkeep2_NearDifference.cok k) hmix [.res (.one (.dp T4)) y5, .dec false, .dec false, .dec false, .dec false, .dec false, .dec false, .dec false, .dec true, .dec true, .dec true, .dec true, .dec true, .dec true, .dec true, .dec true, .dec true] [] [(0, 0), (1, 1)] (via (finP (And.intro (And.intro (And.intro (And.intro (And.intro (And.intro (And.intro (And.intro (And.intro (And.intro (And.intro (And.intro (And.intro (And.intro (And.intro (And.intro (And.intro trivial e6) (congrArg not e7)) (congrArg not e7)) (congrArg not e7)) e8) e8) e8) e8) e9) e9) e9) e9) e9) e9) e9) e9) e9) .normal [(0, 0), (1, 1)] (tourkeep2_NearDifference.c1q y1 y3 true)) (by kernel_rfl)))) (fun e9 =>
     Owp.some (triple_way (tourkeep2_NearDifference.cok k) hmix [.res (.one (.dp T4)) y5, .dec false, .dec false, .dec false, .dec false, .dec false, .dec false, .dec false, .dec false, .dec false, .dec false, .dec false, .dec false, .dec false, .dec false, .dec false, .dec false] [] [(0, 0), (1, 1)] (via (finP (And.intro (And.intro (And.intro (And.intro (And.intro (And.intro (And.intro (And.intro (And.intro (And.intro (And.intro (And.intro (And.intro (And.intro (And.intro (And.intro (And.intro trivial e6) (congrArg not e7)) (congrArg not e7)) (congrArg not e7)) e8) e8) e8) e8) e9) e9) e9) e9) e9) e9) e9) e9) e9) .normal [(0, 0), (1, 1)] (tourkeep2_NearDifference.c1q y1 y3 (igt (len y3.1) (iadd .i64 (len y1.1) (len y1.2))))) (by kernel_rfl)))))) (fun e7 =>
   Owp.some (triple_way (tourkeep2_NearDifference.cok k) hmix [.res (.one (.dp T4)) y5, .dec true, .dec true, .dec true, .dec true, .dec true, .dec true, .dec true, .dec true, .dec true, .dec true, .dec true, .dec true, .dec true, .dec true, .dec true, .dec true] [] [(0, 0), (1, 1)] (via (finP (And.intro (And.intro (And.intro (And.intro (And.intro (And.intro (And.intro (And.intro (And.intro (And.intro (And.intro (And.intro (And.intro (And.intro (And.intro (And.intro (And.intro trivial e6) (congrArg not e7)) (congrArg not e7)) (congrArg not e7)) tt) tt) tt) tt) tt) tt) tt) tt) tt) tt) tt) tt) tt) .normal [(0, 0), (1, 1)] (tourkeep2_NearDifference.c1q y1 y3 true)) (by kernel_rfl))))
noncomputable def tourkeep2_NearDifference.c4p (v13 : Int) (v16 : Int) (y1 : ((List V22) × (List V22))) (y3 : ((List V22) × Int)) (v19 : Int) : SL := ⟨[(10, (.val .own (0 : Nat))), (11, (.val .own (1 : Nat))), (14, (.val .ptr ⟨2, 0, (0 : Int), 0, 0⟩)), (16, (.val .ptr ⟨3, 0, (0 : Int), 0, 0⟩)), (55, (.val T24 y1.1)), (56, (.val T2 (len y1.1))), (57, (.val T2 v13)), (61, (.val .own (0 : Nat))), (62, (.val T2 (len y1.2))), (63, (.val T2 v16)), (67, (.val .own (1 : Nat))), (68, (.val T2 (len y3.1))), (69, (.val T2 v19))], [(0, .row T22 y1.2 23), (1, .row T22 y3.1 23), (2, .cells T22 (el Z22 y1.1 v13)), (3, .cells T22 (el Z22 y1.2 v16))]⟩
noncomputable def tourkeep2_NearDifference.c4q (v13 : Int) (v16 : Int) (y1 : ((List V22) × (List V22))) (y3 : ((List V22) × Int)) (o : Unit ⊕ Unit) : SL := (fun o => two o (fun v => ⟨[(8, (.val T4 false))], []⟩) (fun v => ⟨[(10, (.val .own (0 : Nat))), (11, (.val .own (1 : Nat))), (14, (.val .ptr ⟨2, 0, (0 : Int), 0, 0⟩)), (55, (.val T24 y1.1)), (56, (.val T2 (len y1.1))), (57, (.val T2 v13)), (61, (.val .own (0 : Nat))), (62, (.val T2 (len y1.2))), (63, (.val T2 v16))], [(0, .row T22 y1.2 23), (1, .row T22 y3.1 23), (2, .cells T22 (el Z22 y1.1 v13))]⟩)) o
noncomputable def tourkeep2_NearDifference.c4x (o : Unit ⊕ Unit) : Ex := (fun o => two o (fun _ => .ret) (fun _ => (.exit 4))) o
noncomputable def tourkeep2_NearDifference.c4n (o : Unit ⊕ Unit) : Nat := (fun o => two o (fun _ => 0) (fun _ => 3)) o
theorem tourkeep2_NearDifference.c4_ok (k : Nat) (v13 : Int) (v16 : Int) (y1 : ((List V22) × (List V22))) (y3 : ((List V22) × Int)) : ∀ (n : Nat) (v19 : Int), Owp (tourkeep2_NearDifference.c4 k v13 v16 y1 y3 n v19) fun o => LTriple PR (tourkeep2_NearDifference.cx k) (sub tourkeep2_NearDifference.code [1, 1, 1, 1, 0, 1, 0, 0, 1, 1, 0, 0, 1, 1, 0, 0, 1, 1, 0, 0, 1, 1, 0, 0]) 4 (tourkeep2_NearDifference.c4p v13 v16 y1 y3 v19) (tourkeep2_NearDifference.c4x o) (tourkeep2_NearDifference.c4n o) (tourkeep2_NearDifference.c4q v13 v16 y1 y3 o)
  | 0, _ => fun _ h => nomatch h
  | n + 1, v19 => Owp.of (tourkeep2_NearDifference.c4.eq_2 ..) (
   Owp.bif (fun e20 =>
   Owp.req fun h21 =>
    Owp.req fun h22 =>
    Owp.req fun h23 =>
    Owp.bnd fun y24 e25 =>
    Owp.bnd fun y26 e27 =>
    Owp.bif (fun e28 =>
    Owp.some (loop_exit (tourkeep2_NearDifference.cok k) hmix [.dec true, .res (.one (.dp T90)) y24, .res (.one (.dp T2)) y26, .dec true] [] [] exne_ret (via (finP (And.intro (And.intro (And.intro (And.intro (And.intro (And.intro (And.intro (And.intro (And.intro trivial e20) h21) h21) h22) h23) h23) e25) e27) e28) .ret [] (tourkeep2_NearDifference.c4q v13 v16 y1 y3 (.inl ()))) (by kernel_rfl)))) (fun e28 =>
    fun y hy => loop_back (tourkeep2_NearDifference.cok k) hmix 4 (tourkeep2_NearDifference.c4p v13 v16 y1 y3 (iadd .i64 v19 (1 : Int))) [.dec true, .res (.one (.dp T90)) y24, .res (.one (.dp T2)) y26, .dec false] [] [(0, 0), (1, 1), (2, 2), (3, 3)] (via (finP (And.intro (And.intro (And.intro (And.intro (And.intro (And.intro (And.intro (And.intro (And.intro trivial e20) h21) h21) h22) h23) h23) e25) e27) e28) .normal [(0, 0), (1, 1), (2, 2), (3, 3)] (tourkeep2_NearDifference.c4p v13 v16 y1 y3 (iadd .i64 v19 (1 : Int)))) (by kernel_rfl)) ((tourkeep2_NearDifference.c4_ok k v13 v16 y1 y3 n (iadd .i64 v19 (1 : Int))).ap hy))) (fun e20 =>
   Owp.some (loop_exit (tourkeep2_NearDifference.cok k) hmix [.dec false] [] [(0, 0), (1, 1), (2, 2)] (exne 4) (via (finP (And.intro trivial e20) (.exit 4) [(0, 0), (1, 1), (2, 2)] (tourkeep2_NearDifference.c4q v13 v16 y1 y3 (.inr ()))) (by kernel_rfl)))))
noncomputable def tourkeep2_NearDifference.c3p (v13 : Int) (y1 : ((List V22) × (List V22))) (y3 : ((List V22) × Int)) (v16 : Int) : SL := ⟨[(10, (.val .own (0 : Nat))), (11, (.val .own (1 : Nat))), (14, (.val .ptr ⟨2, 0, (0 : Int), 0, 0⟩)), (55, (.val T24 y1.1)), (56, (.val T2 (len y1.1))), (57, (.val T2 v13)), (61, (.val .own (0 : Nat))), (62, (.val T2 (len y1.2))), (63, (.val T2 v16))], [(0, .row T22 y1.2 23), (1, .row T22 y3.1 23), (2, .cells T22 (el Z22 y1.1 v13))]⟩
noncomputable def tourkeep2_NearDifference.c3q (v13 : Int) (y1 : ((List V22) × (List V22))) (y3 : ((List V22) × Int)) (o : Unit ⊕ Unit) : SL := (fun o => two o (fun v => ⟨[(8, (.val T4 false))], []⟩) (fun v => ⟨[(10, (.val .own (0 : Nat))), (11, (.val .own (1 : Nat))), (55, (.val T24 y1.1)), (56, (.val T2 (len y1.1))), (57, (.val T2 v13))], [(0, .row T22 y1.2 23), (1, .row T22 y3.1 23)]⟩)) o
noncomputable def tourkeep2_NearDifference.c3x (o : Unit ⊕ Unit) : Ex := (fun o => two o (fun _ => .ret) (fun _ => (.exit 2))) o
noncomputable def tourkeep2_NearDifference.c3n (o : Unit ⊕ Unit) : Nat := (fun o => two o (fun _ => 0) (fun _ => 2)) o
theorem tourkeep2_NearDifference.c3_ok (k : Nat) (v13 : Int) (y1 : ((List V22) × (List V22))) (y3 : ((List V22) × Int)) : ∀ (n : Nat) (v16 : Int), Owp (tourkeep2_NearDifference.c3 k v13 y1 y3 n v16) fun o => LTriple PR (tourkeep2_NearDifference.cx k) (sub tourkeep2_NearDifference.code [1, 1, 1, 1, 0, 1, 0, 0, 1, 1, 0, 0, 1, 1, 0, 0]) 3 (tourkeep2_NearDifference.c3p v13 y1 y3 v16) (tourkeep2_NearDifference.c3x o) (tourkeep2_NearDifference.c3n o) (tourkeep2_NearDifference.c3q v13 y1 y3 o)
  | 0, _ => fun _ h => nomatch h
  | n + 1, v16 => Owp.of (tourkeep2_NearDifference.c3.eq_2 ..) (
   Owp.bif (fun e17 =>
   Owp.req fun h18 =>
    Owp.bnd fun o29 e30 =>
    Owp.two (fun y31 e32 =>
    Owp.some (loop_exit (tourkeep2_NearDifference.cok k) hmix [.dec true, .cut ⟨[], [(0, 0), (1, 1), (2, 2), (3, 6)], (tourkeep2_NearDifference.c4p v13 v16 y1 y3 (0 : Int)), 4, .ret, (tourkeep2_NearDifference.c4q v13 v16 y1 y3 (.inl ())), 0⟩] [] [] exne_ret (via (cutP (And.intro (And.intro (And.intro trivial e17) h18) h18) [(0, 0), (1, 1), (2, 2), (3, 6)] (tourkeep2_NearDifference.c4p v13 v16 y1 y3 (0 : Int)) (((tourkeep2_NearDifference.c4_ok k v13 v16 y1 y3 k (0 : Int)).ap (e30.trans (congrArg some e32))).triple) (finP trivial .ret [] (tourkeep2_NearDifference.c3q v13 y1 y3 (.inl ())))) (by kernel_rfl)))) (fun y33 e34 =>
    fun y hy => loop_back (tourkeep2_NearDifference.cok k) hmix 3 (tourkeep2_NearDifference.c3p v13 y1 y3 (iadd .i64 v16 (1 : Int))) [.dec true, .cut ⟨[], [(0, 0), (1, 1), (2, 2), (3, 6)], (tourkeep2_NearDifference.c4p v13 v16 y1 y3 (0 : Int)), 4, (.exit 4), (tourkeep2_NearDifference.c4q v13 v16 y1 y3 (.inr ())), 3⟩] [] [(0, 0), (1, 1), (2, 2)] (via (cutP (And.intro (And.intro (And.intro trivial e17) h18) h18) [(0, 0), (1, 1), (2, 2), (3, 6)] (tourkeep2_NearDifference.c4p v13 v16 y1 y3 (0 : Int)) (((tourkeep2_NearDifference.c4_ok k v13 v16 y1 y3 k (0 : Int)).ap (e30.trans (congrArg some e34))).triple) (finP trivial .normal [(0, 0), (1, 1), (2, 2)] (tourkeep2_NearDifference.c3p v13 y1 y3 (iadd .i64 v16 (1 : Int))))) (by kernel_rfl)) ((tourkeep2_NearDifference.c3_ok k v13 y1 y3 n (iadd .i64 v16 (1 : Int))).ap hy))) (fun e17 =>
   Owp.some (loop_exit (tourkeep2_NearDifference.cok k) hmix [.dec false] [] [(0, 0), (1, 1)] (exne 2) (via (finP (And.intro trivial e17) (.exit 2) [(0, 0), (1, 1)] (tourkeep2_NearDifference.c3q v13 y1 y3 (.inr ()))) (by kernel_rfl)))))
noncomputable def tourkeep2_NearDifference.c2p (y1 : ((List V22) × (List V22))) (y3 : ((List V22) × Int)) (v13 : Int) : SL := ⟨[(10, (.val .own (0 : Nat))), (11, (.val .own (1 : Nat))), (55, (.val T24 y1.1)), (56, (.val T2 (len y1.1))), (57, (.val T2 v13))], [(0, .row T22 y1.2 23), (1, .row T22 y3.1 23)]⟩
noncomputable def tourkeep2_NearDifference.c2q (o : Unit ⊕ Unit) : SL := (fun o => two o (fun v => ⟨[(8, (.val T4 false))], []⟩) (fun v => ⟨[], []⟩)) o
noncomputable def tourkeep2_NearDifference.c2x (o : Unit ⊕ Unit) : Ex := (fun o => two o (fun _ => .ret) (fun _ => (.exit 0))) o
noncomputable def tourkeep2_NearDifference.c2n (o : Unit ⊕ Unit) : Nat := (fun o => two o (fun _ => 0) (fun _ => 0)) o
theorem tourkeep2_NearDifference.c2_ok (k : Nat) (y1 : ((List V22) × (List V22))) (y3 : ((List V22) × Int)) : ∀ (n : Nat) (v13 : Int), Owp (tourkeep2_NearDifference.c2 k y1 y3 n v13) fun o => LTriple PR (tourkeep2_NearDifference.cx k) (sub tourkeep2_NearDifference.code [1, 1, 1, 1, 0, 1, 0, 0]) 2 (tourkeep2_NearDifference.c2p y1 y3 v13) (tourkeep2_NearDifference.c2x o) (tourkeep2_NearDifference.c2n o) (tourkeep2_NearDifference.c2q o)
  | 0, _ => fun _ h => nomatch h
  | n + 1, v13 => Owp.of (tourkeep2_NearDifference.c2.eq_2 ..) (
   Owp.bif (fun e14 =>
   Owp.req fun h15 =>
    Owp.bnd fun o35 e36 =>
    Owp.two (fun y37 e38 =>
    Owp.some (loop_exit (tourkeep2_NearDifference.cok k) hmix [.dec true, .cut ⟨[], [(0, 0), (1, 1), (2, 5)], (tourkeep2_NearDifference.c3p v13 y1 y3 (0 : Int)), 3, .ret, (tourkeep2_NearDifference.c3q v13 y1 y3 (.inl ())), 0⟩] [] [] exne_ret (via (cutP (And.intro (And.intro trivial e14) h15) [(0, 0), (1, 1), (2, 5)] (tourkeep2_NearDifference.c3p v13 y1 y3 (0 : Int)) (((tourkeep2_NearDifference.c3_ok k v13 y1 y3 k (0 : Int)).ap (e36.trans (congrArg some e38))).triple) (finP trivial .ret [] (tourkeep2_NearDifference.c2q (.inl ())))) (by kernel_rfl)))) (fun y39 e40 =>
    fun y hy => loop_back (tourkeep2_NearDifference.cok k) hmix 2 (tourkeep2_NearDifference.c2p y1 y3 (iadd .i64 v13 (1 : Int))) [.dec true, .cut ⟨[], [(0, 0), (1, 1), (2, 5)], (tourkeep2_NearDifference.c3p v13 y1 y3 (0 : Int)), 3, (.exit 2), (tourkeep2_NearDifference.c3q v13 y1 y3 (.inr ())), 2⟩] [] [(0, 0), (1, 1)] (via (cutP (And.intro (And.intro trivial e14) h15) [(0, 0), (1, 1), (2, 5)] (tourkeep2_NearDifference.c3p v13 y1 y3 (0 : Int)) (((tourkeep2_NearDifference.c3_ok k v13 y1 y3 k (0 : Int)).ap (e36.trans (congrArg some e40))).triple) (finP trivial .normal [(0, 0), (1, 1)] (tourkeep2_NearDifference.c2p y1 y3 (iadd .i64 v13 (1 : Int))))) (by kernel_rfl)) ((tourkeep2_NearDifference.c2_ok k y1 y3 n (iadd .i64 v13 (1 : Int))).ap hy))) (fun e14 =>
   Owp.some (loop_exit (tourkeep2_NearDifference.cok k) hmix [.dec false] [] [] (exne 0) (via (finP (And.intro trivial e14) (.exit 0) [] (tourkeep2_NearDifference.c2q (.inr ()))) (by kernel_rfl)))))
theorem tourkeep2_NearDifference.way (k : Nat) (a0 : (List Int)) (a1 : (List Int)) (a2 : Int) (a3 : Int) : Owp (tourkeep2_NearDifference k a0 a1 a2 a3) fun y => ∃ answers cmds, exec PR (tourkeep2_NearDifference.cx k) tourkeep2_NearDifference.code 0 (entry (.pair T49 (.pair T49 T22)) (a0, a1, a2, a3, ())).st answers (Ret (tourkeep2_NearDifference.cx k) Try.f11 cmds (.one (.dp T4)) y) := by
  unfold tourkeep2_NearDifference; exact
   Owp.bnd fun y1 e2 =>
   Owp.bnd fun y3 e4 =>
   Owp.bnd fun o10 e11 =>
   Owp.bif (fun e12 =>
   Owp.some (⟨[.res (.more (.dp T24) (.one (.ow T22 23))) y1, .res (.more (.ow T22 23) (.one (.dp T2))) y3, .cutR 3 ⟨[], [(0, 5), (1, 13)], (tourkeep2_NearDifference.c1p y1 y3), 2, .normal, (tourkeep2_NearDifference.c1q y1 y3 o10), 2⟩, .dec true], [], via (cutP (And.intro (And.intro trivial e2) e4) [(0, 5), (1, 13)] (tourkeep2_NearDifference.c1p y1 y3) (((tourkeep2_NearDifference.c1_ok k y1 y3).ap e11)) (retP (And.intro trivial e12) (.one (.dp T4)) (false : Bool))) (by kernel_rfl)⟩)) (fun e12 =>
   Owp.bnd fun o41 e42 =>
    Owp.two (fun y43 e44 =>
    Owp.some (⟨[.res (.more (.dp T24) (.one (.ow T22 23))) y1, .res (.more (.ow T22 23) (.one (.dp T2))) y3, .cutR 3 ⟨[], [(0, 5), (1, 13)], (tourkeep2_NearDifference.c1p y1 y3), 2, .normal, (tourkeep2_NearDifference.c1q y1 y3 o10), 2⟩, .dec false, .cut ⟨[], [(0, 0), (1, 1)], (tourkeep2_NearDifference.c2p y1 y3 (0 : Int)), 2, .ret, (tourkeep2_NearDifference.c2q (.inl ())), 0⟩], [], via (cutP (And.intro (And.intro trivial e2) e4) [(0, 5), (1, 13)] (tourkeep2_NearDifference.c1p y1 y3) (((tourkeep2_NearDifference.c1_ok k y1 y3).ap e11)) (cutP (And.intro trivial e12) [(0, 0), (1, 1)] (tourkeep2_NearDifference.c2p y1 y3 (0 : Int)) (((tourkeep2_NearDifference.c2_ok k y1 y3 k (0 : Int)).ap (e42.trans (congrArg some e44))).triple) (retP trivial (.one (.dp T4)) (false : Bool)))) (by kernel_rfl)⟩)) (fun y45 e46 =>
    Owp.some (⟨[.res (.more (.dp T24) (.one (.ow T22 23))) y1, .res (.more (.ow T22 23) (.one (.dp T2))) y3, .cutR 3 ⟨[], [(0, 5), (1, 13)], (tourkeep2_NearDifference.c1p y1 y3), 2, .normal, (tourkeep2_NearDifference.c1q y1 y3 o10), 2⟩, .dec false, .cut ⟨[], [(0, 0), (1, 1)], (tourkeep2_NearDifference.c2p y1 y3 (0 : Int)), 2, (.exit 0), (tourkeep2_NearDifference.c2q (.inr ())), 0⟩], [], via (cutP (And.intro (And.intro trivial e2) e4) [(0, 5), (1, 13)] (tourkeep2_NearDifference.c1p y1 y3) (((tourkeep2_NearDifference.c1_ok k y1 y3).ap e11)) (cutP (And.intro trivial e12) [(0, 0), (1, 1)] (tourkeep2_NearDifference.c2p y1 y3 (0 : Int)) (((tourkeep2_NearDifference.c2_ok k y1 y3 k (0 : Int)).ap (e42.trans (congrArg some e46))).triple) (retP trivial (.one (.dp T4)) (true : Bool)))) (by kernel_rfl)⟩)))
theorem tourkeep2_NearDifference.ok (k : Nat) : FnOk PR 11 (tourkeep2_NearDifference.sp k) :=
  fn_ok (tourkeep2_NearDifference.cok k) hmix Try.func11 (code := tourkeep2_NearDifference.code) (by kernel_rfl) (by kernel_rfl) (by kernel_rfl) rfl (by kernel_rfl) (by kernel_rfl) (by kernel_rfl) (fun x => Nat.le_of_ble_eq_true (by kernel_rfl)) fun x y hy => (tourkeep2_NearDifference.way k x.1 x.2.1 x.2.2.1 x.2.2.2.1).ap hy

/-! tourney/near.Meet -/
noncomputable def near_Meet.code : Code := Func.cd Try.f73
def near_Meet (k : Nat) (a0 : (List V22)) (a1 : (List V22)) : Option (Bool × Int) :=
  bnd (near_Minus k a0 a1) fun y1 =>
  bif' (ine y1.2 0)
  (some (false, y1.2))
  (bnd (near_inside k y1.1) fun y4 =>
   some (y4, 0))
noncomputable def near_Meet.sp (k : Nat) : Go.Sx.Spec := ⟨(.pair T24 (.pair T24 .unit)), (.more (.dp T4) (.one (.dp T2))), fun x => near_Meet k x.1 x.2.1, false⟩
noncomputable def near_Meet.cx (k : Nat) : Go.Sx.Ctx := ⟨tys, [(65, near_Minus.sp k), (150, near_inside.sp k)], eqs, 19, false⟩
theorem near_Meet.cok (k : Nat) : CtxOk PR (near_Meet.cx k) := ctx_ok tysOk eqsOk (FnsOk.cons (near_Minus.ok k) (FnsOk.cons (near_inside.ok k) FnsOk.nil))
theorem near_Meet.way (k : Nat) (a0 : (List V22)) (a1 : (List V22)) : Owp (near_Meet k a0 a1) fun y => ∃ answers cmds, exec PR (near_Meet.cx k) near_Meet.code 0 (entry (.pair T24 (.pair T24 .unit)) (a0, a1, ())).st answers (Ret (near_Meet.cx k) Try.f73 cmds (.more (.dp T4) (.one (.dp T2))) y) := by
  unfold near_Meet; exact
   Owp.bnd fun y1 e2 =>
   Owp.bif (fun e3 =>
   Owp.some (⟨[.res (.more (.ow T22 23) (.one (.dp T2))) y1, .dec true], [], via (retP (And.intro (And.intro trivial e2) e3) (.more (.dp T4) (.one (.dp T2))) ((false, y1.2) : (Bool × Int))) (by kernel_rfl)⟩)) (fun e3 =>
   Owp.bnd fun y4 e5 =>
    Owp.some (⟨[.res (.more (.ow T22 23) (.one (.dp T2))) y1, .dec false, .res (.one (.dp T4)) y4], [], via (retP (And.intro (And.intro (And.intro trivial e2) e3) e5) (.more (.dp T4) (.one (.dp T2))) ((y4, (0 : Int)) : (Bool × Int))) (by kernel_rfl)⟩))
theorem near_Meet.ok (k : Nat) : FnOk PR 73 (near_Meet.sp k) :=
  fn_ok (near_Meet.cok k) hmix Try.func73 (code := near_Meet.code) (by kernel_rfl) (by kernel_rfl) (by kernel_rfl) rfl (by kernel_rfl) (by kernel_rfl) (by kernel_rfl) (fun x => Nat.le_of_ble_eq_true (by kernel_rfl)) fun x y hy => (near_Meet.way k x.1 x.2.1).ap hy

/-! tourney/tourkeep2.NearSwapped -/
noncomputable def tourkeep2_NearSwapped.code : Code := Func.cd Try.f13
def tourkeep2_NearSwapped.c1 (k : Nat) (y5 : (Int × Int)) (y7 : (Int × Int)) (y11 : (Int × Int)) (y13 : (Bool × Int)) : Option (Bool) :=
  bnd (tourkeep2_tests k) fun y15 =>
  bif' y15
  (bif' (ine y5.2 0)
   (some true)
   (bif' (ine y7.2 0)
    (some true)
    (bif' (ine y11.2 0)
     (some true)
     (bif' (ine y13.2 0)
      (some true)
      (bif' (ine y5.1 y7.1)
       (some true)
       (bif' y13.1
        (some (ine y5.1 0))
        (some false)))))))
  (some true)
def tourkeep2_NearSwapped (k : Nat) (a0 : (List Int)) (a1 : (List Int)) (a2 : Int) (a3 : Int) (a4 : Int) (a5 : Int) : Option Bool :=
  bnd (tourkeep2_pair k a0 a1 a2 a3) fun y1 =>
  bnd (tourkeep2_place k a4 a5) fun y3 =>
  bnd (near_Apart k y1.1 y1.2) fun y5 =>
  bnd (near_Apart k y1.2 y1.1) fun y7 =>
  bnd (tourkeep2_moved k y1.2 y3) fun y9 =>
  bnd (near_Apart k y1.1 y9) fun y11 =>
  bnd (near_Meet k y1.1 y1.2) fun y13 =>
  bnd (tourkeep2_NearSwapped.c1 k y5 y7 y11 y13) fun o24 =>
  bif' o24
  (some false)
  (bnd (vec_Len k y3) fun y27 =>
   bif' (ile (isub .i64 y11.1 y5.1) (iadd .i64 y27 2))
   (some (ile (isub .i64 y5.1 y11.1) (iadd .i64 y27 2)))
   (some false))
noncomputable def tourkeep2_NearSwapped.sp (k : Nat) : Go.Sx.Spec := ⟨(.pair T49 (.pair T49 (.pair T2 (.pair T2 T22)))), (.one (.dp T4)), fun x => tourkeep2_NearSwapped k x.1 x.2.1 x.2.2.1 x.2.2.2.1 x.2.2.2.2.1 x.2.2.2.2.2.1, false⟩
noncomputable def tourkeep2_NearSwapped.cx (k : Nat) : Go.Sx.Ctx := ⟨tys, [(60, tourkeep2_pair.sp k), (61, tourkeep2_place.sp k), (72, near_Apart.sp k), (62, tourkeep2_moved.sp k), (73, near_Meet.sp k), (63, tourkeep2_tests.sp k), (64, vec_Len.sp k)], eqs, 107, false⟩
theorem tourkeep2_NearSwapped.cok (k : Nat) : CtxOk PR (tourkeep2_NearSwapped.cx k) := ctx_ok tysOk eqsOk (FnsOk.cons (tourkeep2_pair.ok k) (FnsOk.cons (tourkeep2_place.ok k) (FnsOk.cons (near_Apart.ok k) (FnsOk.cons (tourkeep2_moved.ok k) (FnsOk.cons (near_Meet.ok k) (FnsOk.cons (tourkeep2_tests.ok k) (FnsOk.cons (vec_Len.ok k) FnsOk.nil)))))))
noncomputable def tourkeep2_NearSwapped.c1p (y3 : V22) (y5 : (Int × Int)) (y7 : (Int × Int)) (y11 : (Int × Int)) (y13 : (Bool × Int)) : SL := ⟨[(15, (.val .ptr ⟨0, 0, (0 : Int), 0, 0⟩)), (16, (.val T2 y5.1)), (17, (.val T2 y5.2)), (18, (.val T2 y7.1)), (19, (.val T2 y7.2)), (20, (.val T2 y11.1)), (21, (.val T2 y11.2)), (22, (.val T4 y13.1)), (23, (.val T2 y13.2))], [(0, .cells T22 y3)]⟩
noncomputable def tourkeep2_NearSwapped.c1q (y3 : V22) (y5 : (Int × Int)) (y11 : (Int × Int)) (o : Bool) : SL := (fun v => ⟨[(15, (.val .ptr ⟨0, 0, (0 : Int), 0, 0⟩)), (16, (.val T2 y5.1)), (20, (.val T2 y11.1)), (91, (.val T4 v))], [(0, .cells T22 y3)]⟩) o
noncomputable def tourkeep2_NearSwapped.c1x (o : Bool) : Ex := (fun _ => .normal) o
noncomputable def tourkeep2_NearSwapped.c1n (o : Bool) : Nat := (fun _ => 1) o
theorem tourkeep2_NearSwapped.c1_ok (k : Nat) (y3 : V22) (y5 : (Int × Int)) (y7 : (Int × Int)) (y11 : (Int × Int)) (y13 : (Bool × Int)) : Owp (tourkeep2_NearSwapped.c1 k y5 y7 y11 y13) fun o => Triple PR (tourkeep2_NearSwapped.cx k) (sub tourkeep2_NearSwapped.code [1, 1, 1, 1, 1, 1, 1, 0, 0]) 1 (tourkeep2_NearSwapped.c1p y3 y5 y7 y11 y13) (tourkeep2_NearSwapped.c1x o) (tourkeep2_NearSwapped.c1n o) (tourkeep2_NearSwapped.c1q y3 y5 y11 o) := by
  unfold tourkeep2_NearSwapped.c1; exact
   Owp.bnd fun y15 e16 =>
   Owp.bif (fun e17 =>
   Owp.bif (fun e18 =>
    Owp.some (triple_way (tourkeep2_NearSwapped.cok k) hmix [.res (.one (.dp T4)) y15, .dec false, .dec false, .dec false, .dec true, .dec true, .dec true, .dec true, .dec true, .dec true, .dec true, .dec true, .dec true, .dec true, .dec true, .dec true, .dec true, .dec true, .dec true, .dec true, .dec true, .dec true, .dec true, .dec true] [] [(0, 0)] (via (finP (And.intro (And.intro (And.intro (And.intro (And.intro (And.intro (And.intro (And.intro (And.intro (And.intro (And.intro (And.intro (And.intro (And.intro (And.intro (And.intro (And.intro (And.intro (And.intro (And.intro (And.intro trivial e16) (congrArg not e17)) (congrArg not e17)) (congrArg not e17)) e18) e18) e18) tt) tt) tt) tt) tt) tt) tt) tt) tt) tt) tt) tt) tt) tt) .normal [(0, 0)] (tourkeep2_NearSwapped.c1q y3 y5 y11 true)) (by kernel_rfl)))) (fun e18 =>
    Owp.bif (fun e19 =>
     Owp.some (triple_way (tourkeep2_NearSwapped.cok k) hmix [.res (.one (.dp T4)) y15, .dec false, .dec false, .dec false, .dec false, .dec false, .dec false, .dec true, .dec true, .dec true, .dec true, .dec true, .dec true, .dec true, .dec true, .dec true, .dec true, .dec true, .dec true, .dec true, .dec true, .dec true, .dec true, .dec true] [] [(0, 0)] (via (finP (And.intro (And.intro (And.intro (And.intro (And.intro (And.intro (And.intro (And.intro (And.intro (And.intro (And.intro (And.intro (And.intro (And.intro (And.intro (And.intro (And.intro (And.intro (And.intro (And.intro (And.intro trivial e16) (congrArg not e17)) (congrArg not e17)) (congrArg not e17)) e18) e18) e18) e19) e19) e19) tt) tt) tt) tt) tt) tt) tt) tt) tt) tt) tt) .normal [(0, 0)] (tourkeep2_NearSwapped.c1q y3 y5 y11 true)) (by kernel_rfl)))) (fun e19 =>
     Owp.bif (fun e20 =>
      Owp.some (triple_way (tourkeep2_NearSwapped.cok k) hmix [.res (.one (.dp T4)) y15, .dec false, .dec false, .dec false, .dec false, .dec false, .dec false, .dec false, .dec false, .dec false, .dec true, .dec true, .dec true, .dec true, .dec true, .dec true, .dec true, .dec true, .dec true, .dec true, .dec true, .dec true, .dec true, .dec true] [] [(0, 0)] (via (finP (And.intro (And.intro (And.intro (And.intro (And.intro (And.intro (And.intro (And.intro (And.intro (And.intro (And.intro (And.intro (And.intro (And.intro (And.intro (And.intro (And.intro (And.intro (And.intro (And.intro (And.intro trivial e16) (congrArg not e17)) (congrArg not e17)) (congrArg not e17)) e18) e18) e18) e19) e19) e19) e20) e20) e20) tt) tt) tt) tt) tt) tt) tt) tt) .normal [(0, 0)] (tourkeep2_NearSwapped.c1q y3 y5 y11 true)) (by kernel_rfl)))) (fun e20 =>
      Owp.bif (fun e21 =>
       Owp.some (triple_way (tourkeep2_NearSwapped.cok k) hmix [.res (.one (.dp T4)) y15, .dec false, .dec false, .dec false, .dec false, .dec false, .dec false, .dec false, .dec false, .dec false, .dec false, .dec false, .dec false, .dec true, .dec true, .dec true, .dec true, .dec true, .dec true, .dec true, .dec true, .dec true, .dec true, .dec true] [] [(0, 0)] (via (finP (And.intro (And.intro (And.intro (And.intro (And.intro (And.intro (And.intro (And.intro (And.intro (And.intro (And.intro (And.intro (And.intro (And.intro (And.intro (And.intro (And.intro (And.intro (And.intro (And.intro (And.intro trivial e16) (congrArg not e17)) (congrArg not e17)) (congrArg not e17)) e18) e18) e18) e19) e19) e19) e20) e20) e20) e21) e21) e21) e21) tt) tt) tt) tt) .normal [(0, 0)] (tourkeep2_NearSwapped.c1q y3 y5 y11 true)) (by kernel_rfl)))) (fun e21 =>
       Owp.bif (fun e22 =>
        Owp.some (triple_way (tourkeep2_NearSwapped.cok k) hmix [.res (.one (.dp T4)) y15, .dec false, .dec false, .dec false, .dec false, .dec false, .dec false, .dec false, .dec false, .dec false, .dec false, .dec false, .dec false, .dec false, .dec false, .dec false, .dec false, .dec true, .dec true, .dec true, .dec true, .dec true, .dec true, .dec true] [] [(0, 0)] (via (finP (And.intro (And.intro (And.intro (And.intro (And.intro (And.intro (And.intro (And.intro (And.intro (And.intro (And.intro (And.intro (And.intro (And.intro (And.intro (And.intro (And.intro (And.intro (And.intro (And.intro (And.intro trivial e16) (congrArg not e17)) (congrArg not e17)) (congrArg not e17)) e18) e18) e18) e19) e19) e19) e20) e20) e20) e21) e21) e21) e21) e22) e22) e22) e22) .normal [(0, 0)] (tourkeep2_NearSwapped.c1q y3 y5 y11 true)) (by kernel_rfl)))) (fun e22 =>
        Owp.bif (fun e23 =>
         Owp.some (triple_way (tourkeep2_NearSwapped.cok k) hmix [.res (.one (.dp T4)) y15, .dec false, .dec false, .dec false, .dec false, .dec false, .dec false, .dec false, .dec false, .dec false, .dec false, .dec false, .dec false, .dec false, .dec false, .dec false, .dec false, .dec false, .dec false, .dec true, .dec true, .dec false, .dec true, .dec false] [] [(0, 0)] (via (finP (And.intro (And.intro (And.intro (And.intro (And.intro (And.intro (And.intro (And.intro (And.intro (And.intro (And.intro (And.intro (And.intro (And.intro (And.intro (And.intro (And.intro (And.intro (And.intro (And.intro (And.intro (And.intro (And.intro trivial e16) (congrArg not e17)) (congrArg not e17)) (congrArg not e17)) e18) e18) e18) e19) e19) e19) e20) e20) e20) e21) e21) e21) e21) e22) e22) e23) e23) (And.intro e22 e23)) e22) .normal [(0, 0)] (tourkeep2_NearSwapped.c1q y3 y5 y11 (ine y5.1 (0 : Int)))) (by kernel_rfl)))) (fun e23 =>
         Owp.some (triple_way (tourkeep2_NearSwapped.cok k) hmix [.res (.one (.dp T4)) y15, .dec false, .dec false, .dec false, .dec false, .dec false, .dec false, .dec false, .dec false, .dec false, .dec false, .dec false, .dec false, .dec false, .dec false, .dec false, .dec false, .dec false, .dec false, .dec false, .dec false, .dec false, .dec false, .dec false] [] [(0, 0)] (via (finP (And.intro (And.intro (And.intro (And.intro (And.intro (And.intro (And.intro (And.intro (And.intro (And.intro (And.intro (And.intro (And.intro (And.intro (And.intro (And.intro (And.intro (And.intro (And.intro (And.intro (And.intro (And.intro (And.intro trivial e16) (congrArg not e17)) (congrArg not e17)) (congrArg not e17)) e18) e18) e18) e19) e19) e19) e20) e20) e20) e21) e21) e21) e21) e22) e22) e23) e23) (And.intro e22 e23)) e22) .normal [(0, 0)] (tourkeep2_NearSwapped.c1q y3 y5 y11 false)) (by kernel_rfl)))))))))) (fun e17 =>
   Owp.some (triple_way (tourkeep2_NearSwapped.cok k) hmix [.res (.one (.dp T4)) y15, .dec true, .dec true, .dec true, .dec true, .dec true, .dec true, .dec true, .dec true, .dec true, .dec true, .dec true, .dec true, .dec true, .dec true, .dec true, .dec true, .dec true, .dec true, .dec true, .dec true, .dec true, .dec true, .dec true] [] [(0, 0)] (via (finP (And.intro (And.intro (And.intro (And.intro (And.intro (And.intro (And.intro (And.intro (And.intro (And.intro (And.intro (And.intro (And.intro (And.intro (And.intro (And.intro (And.intro (And.intro (And.intro (And.intro (And.intro trivial e16) (congrArg not e17)) (congrArg not e17)) (congrArg not e17)) tt) tt) tt) tt) tt) tt) tt) tt) tt) tt) tt) tt) tt) tt) tt) tt) tt) .normal [(0, 0)] (tourkeep2_NearSwapped.c1q y3 y5 y11 true)) (by kernel_rfl))))
theorem tourkeep2_NearSwapped.way (k : Nat) (a0 : (List Int)) (a1 : (List Int)) (a2 : Int) (a3 : Int) (a4 : Int) (a5 : Int) : Owp (tourkeep2_NearSwapped k a0 a1 a2 a3 a4 a5) fun y => ∃ answers cmds, exec PR (tourkeep2_NearSwapped.cx k) tourkeep2_NearSwapped.code 0 (entry (.pair T49 (.pair T49 (.pair T2 (.pair T2 T22)))) (a0, a1, a2, a3, a4, a5, ())).st answers (Ret (tourkeep2_NearSwapped.cx k) Try.f13 cmds (.one (.dp T4)) y) := by
  unfold tourkeep2_NearSwapped; exact
   Owp.bnd fun y1 e2 =>
   Owp.bnd fun y3 e4 =>
   Owp.bnd fun y5 e6 =>
   Owp.bnd fun y7 e8 =>
   Owp.bnd fun y9 e10 =>
   Owp.bnd fun y11 e12 =>
   Owp.bnd fun y13 e14 =>
   Owp.bnd fun o24 e25 =>
   Owp.bif (fun e26 =>
   Owp.some (⟨[.res (.more (.dp T24) (.one (.ow T22 23))) y1, .res (.one (.dp T22)) y3, .res (.more (.dp T2) (.one (.dp T2))) y5, .res (.more (.dp T2) (.one (.dp T2))) y7, .res (.one (.ow T22 23)) y9, .res (.more (.dp T2) (.one (.dp T2))) y11, .res (.more (.dp T4) (.one (.dp T2))) y13, .cutR 7 ⟨[], [(0, 14)], (tourkeep2_NearSwapped.c1p y3 y5 y7 y11 y13), 1, .normal, (tourkeep2_NearSwapped.c1q y3 y5 y11 o24), 1⟩, .dec true], [], via (cutP (And.intro (And.intro (And.intro (And.intro (And.intro (And.intro (And.intro trivial e2) e4) e6) e8) e10) e12) e14) [(0, 14)] (tourkeep2_NearSwapped.c1p y3 y5 y7 y11 y13) (((tourkeep2_NearSwapped.c1_ok k y3 y5 y7 y11 y13).ap e25)) (retP (And.intro trivial e26) (.one (.dp T4)) (false : Bool))) (by kernel_rfl)⟩)) (fun e26 =>
   Owp.bnd fun y27 e28 =>
    Owp.bif (fun e29 =>
    Owp.some (⟨[.res (.more (.dp T24) (.one (.ow T22 23))) y1, .res (.one (.dp T22)) y3, .res (.more (.dp T2) (.one (.dp T2))) y5, .res (.more (.dp T2) (.one (.dp T2))) y7, .res (.one (.ow T22 23)) y9, .res (.more (.dp T2) (.one (.dp T2))) y11, .res (.more (.dp T4) (.one (.dp T2))) y13, .cutR 7 ⟨[], [(0, 14)], (tourkeep2_NearSwapped.c1p y3 y5 y7 y11 y13), 1, .normal, (tourkeep2_NearSwapped.c1q y3 y5 y11 o24), 1⟩, .dec false, .res (.one (.dp T2)) y27, .dec true, .dec true, .dec true, .dec true, .dec true, .dec true], [], via (cutP (And.intro (And.intro (And.intro (And.intro (And.intro (And.intro (And.intro trivial e2) e4) e6) e8) e10) e12) e14) [(0, 14)] (tourkeep2_NearSwapped.c1p y3 y5 y7 y11 y13) (((tourkeep2_NearSwapped.c1_ok k y3 y5 y7 y11 y13).ap e25)) (retP (And.intro (And.intro (And.intro (And.intro (And.intro (And.intro (And.intro (And.intro trivial e26) e28) e29) e29) e29) e29) e29) e29) (.one (.dp T4)) ((ile (isub .i64 y5.1 y11.1) (iadd .i64 y27 (2 : Int))) : Bool))) (by kernel_rfl)⟩)) (fun e29 =>
    Owp.some (⟨[.res (.more (.dp T24) (.one (.ow T22 23))) y1, .res (.one (.dp T22)) y3, .res (.more (.dp T2) (.one (.dp T2))) y5, .res (.more (.dp T2) (.one (.dp T2))) y7, .res (.one (.ow T22 23)) y9, .res (.more (.dp T2) (.one (.dp T2))) y11, .res (.more (.dp T4) (.one (.dp T2))) y13, .cutR 7 ⟨[], [(0, 14)], (tourkeep2_NearSwapped.c1p y3 y5 y7 y11 y13), 1, .normal, (tourkeep2_NearSwapped.c1q y3 y5 y11 o24), 1⟩, .dec false, .res (.one (.dp T2)) y27, .dec false, .dec false, .dec false, .dec false, .dec false, .dec false], [], via (cutP (And.intro (And.intro (And.intro (And.intro (And.intro (And.intro (And.intro trivial e2) e4) e6) e8) e10) e12) e14) [(0, 14)] (tourkeep2_NearSwapped.c1p y3 y5 y7 y11 y13) (((tourkeep2_NearSwapped.c1_ok k y3 y5 y7 y11 y13).ap e25)) (retP (And.intro (And.intro (And.intro (And.intro (And.intro (And.intro (And.intro (And.intro trivial e26) e28) e29) e29) e29) e29) e29) e29) (.one (.dp T4)) (false : Bool))) (by kernel_rfl)⟩)))
theorem tourkeep2_NearSwapped.ok (k : Nat) : FnOk PR 13 (tourkeep2_NearSwapped.sp k) :=
  fn_ok (tourkeep2_NearSwapped.cok k) hmix Try.func13 (code := tourkeep2_NearSwapped.code) (by kernel_rfl) (by kernel_rfl) (by kernel_rfl) rfl (by kernel_rfl) (by kernel_rfl) (by kernel_rfl) (fun x => Nat.le_of_ble_eq_true (by kernel_rfl)) fun x y hy => (tourkeep2_NearSwapped.way k x.1 x.2.1 x.2.2.1 x.2.2.2.1 x.2.2.2.2.1 x.2.2.2.2.2.1).ap hy

end Go.Proofs.T1
