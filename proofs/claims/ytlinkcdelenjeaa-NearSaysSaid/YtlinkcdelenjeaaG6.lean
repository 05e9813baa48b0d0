import Derived.Test.YtlinkcdelenjeaaG0
import Derived.Test.YtlinkcdelenjeaaG1
import Derived.Test.YtlinkcdelenjeaaG3
import Derived.Test.YtlinkcdelenjeaaG5
namespace Go.Proofs.T1
open Go Go.Sx Go.Proofs
set_option maxRecDepth 100000
set_option linter.unusedVariables false
/-! tourney/near.inside -/
noncomputable def near_inside.code : Code := Func.cd Try.f52
def near_inside.c1 (k : Nat) (a0 : (List V33)) : Nat → Int → Option (Unit ⊕ Unit)
  | 0, _ => none
  | n + 1, v1 =>
   bif' (ilt v1 (len a0))
   (req (inL v1 a0) <|
    req (nz (len a0)) <|
    req (inL (irem (iadd .i64 v1 1) (len a0)) a0) <|
    bnd (near_cross k (el Z33 a0 v1) (el Z33 a0 (irem (iadd .i64 v1 1) (len a0)))) fun y6 =>
    bif' (ilt y6 0)
    (some (.inl ()))
    (near_inside.c1 k a0 n (iadd .i64 v1 1)))
   (some (.inr ()))
def near_inside (k : Nat) (a0 : (List V33)) : Option Bool :=
  bnd (near_inside.c1 k a0 k 0) fun o9 =>
  two o9 (fun y11 =>
  some false) (fun y13 =>
  some true)
noncomputable def near_inside.sp (k : Nat) : Go.Sx.Spec := ⟨(.pair T22 .unit), (.one (.dp T4)), fun x => near_inside k x.1, false⟩
noncomputable def near_inside.cx (k : Nat) : Go.Sx.Ctx := ⟨tys, [(56, near_cross.sp k)], eqs, 24, false⟩
theorem near_inside.cok (k : Nat) : CtxOk PR (near_inside.cx k) := ctx_ok tysOk eqsOk (FnsOk.cons (near_cross.ok k) FnsOk.nil)
noncomputable def near_inside.c1p (a0 : (List V33)) (v1 : Int) : SL := ⟨[(0, (.val T22 a0)), (5, (.val T22 a0)), (6, (.val T2 (len a0))), (7, (.val T2 v1))], []⟩
noncomputable def near_inside.c1q (o : Unit ⊕ Unit) : SL := (fun o => two o (fun v => ⟨[(2, (.val T4 false))], []⟩) (fun v => ⟨[], []⟩)) o
noncomputable def near_inside.c1x (o : Unit ⊕ Unit) : Ex := (fun o => two o (fun _ => .ret) (fun _ => (.exit 0))) o
noncomputable def near_inside.c1n (o : Unit ⊕ Unit) : Nat := (fun o => two o (fun _ => 0) (fun _ => 0)) o
theorem near_inside.c1_ok (k : Nat) (a0 : (List V33)) : ∀ (n : Nat) (v1 : Int), Owp (near_inside.c1 k a0 n v1) fun o => LTriple PR (near_inside.cx k) (sub near_inside.code [1, 0, 1, 0, 0]) 0 (near_inside.c1p a0 v1) (near_inside.c1x o) (near_inside.c1n o) (near_inside.c1q o)
  | 0, _ => fun _ h => nomatch h
  | n + 1, v1 => Owp.of (near_inside.c1.eq_2 ..) (
   Owp.bif (fun e2 =>
   Owp.req fun h3 =>
    Owp.req fun h4 =>
    Owp.req fun h5 =>
    Owp.bnd fun y6 e7 =>
    Owp.bif (fun e8 =>
    Owp.some (loop_exit (near_inside.cok k) hmix [.dec true, .res (.one (.dp T2)) y6, .dec true] [] [] exne_ret (via (finP (And.intro (And.intro (And.intro (And.intro (And.intro (And.intro trivial e2) h3) h4) h5) e7) e8) .ret [] (near_inside.c1q (.inl ()))) (by kernel_rfl)))) (fun e8 =>
    fun y hy => loop_back (near_inside.cok k) hmix 0 (near_inside.c1p a0 (iadd .i64 v1 (1 : Int))) [.dec true, .res (.one (.dp T2)) y6, .dec false] [] [] (via (finP (And.intro (And.intro (And.intro (And.intro (And.intro (And.intro trivial e2) h3) h4) h5) e7) e8) .normal [] (near_inside.c1p a0 (iadd .i64 v1 (1 : Int)))) (by kernel_rfl)) ((near_inside.c1_ok k a0 n (iadd .i64 v1 (1 : Int))).ap hy))) (fun e2 =>
   Owp.some (loop_exit (near_inside.cok k) hmix [.dec false] [] [] (exne 0) (via (finP (And.intro trivial e2) (.exit 0) [] (near_inside.c1q (.inr ()))) (by kernel_rfl)))))
theorem near_inside.way (k : Nat) (a0 : (List V33)) : Owp (near_inside k a0) fun y => ∃ answers cmds, exec PR (near_inside.cx k) near_inside.code 0 (entry (.pair T22 .unit) (a0, ())).st answers (Ret (near_inside.cx k) Try.f52 cmds (.one (.dp T4)) y) := by
  unfold near_inside; exact
   Owp.bnd fun o9 e10 =>
   Owp.two (fun y11 e12 =>
   Owp.some (⟨[.cut ⟨[], [], (near_inside.c1p a0 (0 : Int)), 0, .ret, (near_inside.c1q (.inl ())), 0⟩], [], via (cutP trivial [] (near_inside.c1p a0 (0 : Int)) (((near_inside.c1_ok k a0 k (0 : Int)).ap (e10.trans (congrArg some e12))).triple) (retP trivial (.one (.dp T4)) (false : Bool))) (by kernel_rfl)⟩)) (fun y13 e14 =>
   Owp.some (⟨[.cut ⟨[], [], (near_inside.c1p a0 (0 : Int)), 0, (.exit 0), (near_inside.c1q (.inr ())), 0⟩], [], via (cutP trivial [] (near_inside.c1p a0 (0 : Int)) (((near_inside.c1_ok k a0 k (0 : Int)).ap (e10.trans (congrArg some e14))).triple) (retP trivial (.one (.dp T4)) (true : Bool))) (by kernel_rfl)⟩))
theorem near_inside.ok (k : Nat) : FnOk PR 52 (near_inside.sp k) :=
  fn_ok (near_inside.cok k) hmix Try.func52 (code := near_inside.code) (by kernel_rfl) (by kernel_rfl) (by kernel_rfl) rfl (by kernel_rfl) (by kernel_rfl) (by kernel_rfl) (fun x => Nat.le_of_ble_eq_true (by kernel_rfl)) fun x y hy => (near_inside.way k x.1).ap hy

/-! tourney/near.greatest -/
noncomputable def near_greatest.code : Code := Func.cd Try.f95
def near_greatest.c1 (k : Nat) (a0 : ((Int × Unit) → Option Bool)) : Nat → Int → Int → Option (Int)
  | 0, _, _ => none
  | n + 1, v1, v2 =>
   bif' (igt (isub .i64 v2 v1) 1)
   (bnd (a0 ((iquo .i64 (iadd .i64 v1 v2) 2), ())) fun y4 =>
    bif' y4
    (near_greatest.c1 k a0 n (iquo .i64 (iadd .i64 v1 v2) 2) v2)
    (near_greatest.c1 k a0 n v1 (iquo .i64 (iadd .i64 v1 v2) 2)))
   (some v1)
def near_greatest (k : Nat) (a0 : ((Int × Unit) → Option Bool)) : Option Int :=
  bnd (near_greatest.c1 k a0 k 0 536870912) fun o7 =>
  some o7
noncomputable def near_greatest.sp (k : Nat) : Go.Sx.Spec := ⟨(.pair (.fn (.pair T2 .unit) T4) .unit), (.one (.dp T2)), fun x => near_greatest k x.1, false⟩
noncomputable def near_greatest.cx (k : Nat) : Go.Sx.Ctx := ⟨tys, [], eqs, 20, false⟩
theorem near_greatest.cok (k : Nat) : CtxOk PR (near_greatest.cx k) := ctx_ok tysOk eqsOk FnsOk.nil
noncomputable def near_greatest.c1p (a0 : ((Int × Unit) → Option Bool)) (v1 : Int) (v2 : Int) : SL := ⟨[(0, (.val (.fn (.pair T2 .unit) T4) a0)), (3, (.val T2 v1)), (4, (.val T2 v2))], []⟩
noncomputable def near_greatest.c1q (o : Int) : SL := (fun v => ⟨[(3, (.val T2 v))], []⟩) o
noncomputable def near_greatest.c1x (o : Int) : Ex := (fun _ => (.exit 0)) o
noncomputable def near_greatest.c1n (o : Int) : Nat := (fun _ => 0) o
theorem near_greatest.c1_ok (k : Nat) (a0 : ((Int × Unit) → Option Bool)) : ∀ (n : Nat) (v1 : Int) (v2 : Int), Owp (near_greatest.c1 k a0 n v1 v2) fun o => LTriple PR (near_greatest.cx k) (sub near_greatest.code [1, 1, 0, 0, 0]) 0 (near_greatest.c1p a0 v1 v2) (near_greatest.c1x o) (near_greatest.c1n o) (near_greatest.c1q o)
  | 0, _, _ => fun _ h => nomatch h
  | n + 1, v1, v2 => Owp.of (near_greatest.c1.eq_2 ..) (
   Owp.bif (fun e3 =>
   Owp.bnd fun y4 e5 =>
    Owp.bif (fun e6 =>
    fun y hy => loop_back (near_greatest.cok k) hmix 0 (near_greatest.c1p a0 (iquo .i64 (iadd .i64 v1 v2) (2 : Int)) v2) [.dec true, .res (.one (.dp T4)) y4, .dec true] [] [] (via (finP (And.intro (And.intro (And.intro (And.intro trivial e3) (by decide : nz (2 : Int))) e5) e6) .normal [] (near_greatest.c1p a0 (iquo .i64 (iadd .i64 v1 v2) (2 : Int)) v2)) (by kernel_rfl)) ((near_greatest.c1_ok k a0 n (iquo .i64 (iadd .i64 v1 v2) (2 : Int)) v2).ap hy)) (fun e6 =>
    fun y hy => loop_back (near_greatest.cok k) hmix 0 (near_greatest.c1p a0 v1 (iquo .i64 (iadd .i64 v1 v2) (2 : Int))) [.dec true, .res (.one (.dp T4)) y4, .dec false] [] [] (via (finP (And.intro (And.intro (And.intro (And.intro trivial e3) (by decide : nz (2 : Int))) e5) e6) .normal [] (near_greatest.c1p a0 v1 (iquo .i64 (iadd .i64 v1 v2) (2 : Int)))) (by kernel_rfl)) ((near_greatest.c1_ok k a0 n v1 (iquo .i64 (iadd .i64 v1 v2) (2 : Int))).ap hy))) (fun e3 =>
   Owp.some (loop_exit (near_greatest.cok k) hmix [.dec false] [] [] (exne 0) (via (finP (And.intro trivial e3) (.exit 0) [] (near_greatest.c1q v1)) (by kernel_rfl)))))
theorem near_greatest.way (k : Nat) (a0 : ((Int × Unit) → Option Bool)) : Owp (near_greatest k a0) fun y => ∃ answers cmds, exec PR (near_greatest.cx k) near_greatest.code 0 (entry (.pair (.fn (.pair T2 .unit) T4) .unit) (a0, ())).st answers (Ret (near_greatest.cx k) Try.f95 cmds (.one (.dp T2)) y) := by
  unfold near_greatest; exact
   Owp.bnd fun o7 e8 =>
   Owp.some (⟨[.cut ⟨[], [], (near_greatest.c1p a0 (0 : Int) (536870912 : Int)), 0, (.exit 0), (near_greatest.c1q o7), 0⟩], [], via (cutP trivial [] (near_greatest.c1p a0 (0 : Int) (536870912 : Int)) (((near_greatest.c1_ok k a0 k (0 : Int) (536870912 : Int)).ap e8).triple) (retP trivial (.one (.dp T2)) (o7 : Int))) (by kernel_rfl)⟩)
theorem near_greatest.ok (k : Nat) : FnOk PR 95 (near_greatest.sp k) :=
  fn_ok (near_greatest.cok k) hmix Try.func95 (code := near_greatest.code) (by kernel_rfl) (by kernel_rfl) (by kernel_rfl) rfl (by kernel_rfl) (by kernel_rfl) (by kernel_rfl) (fun x => Nat.le_of_ble_eq_true (by kernel_rfl)) fun x y hy => (near_greatest.way k x.1).ap hy

/-! tourney/near.far$1 -/
noncomputable def near_far_1.code : Code := Func.cd Try.f96
def near_far_1 (k : Nat) (a0 : Int) (a1 : V33) : Option Bool :=
  some (ile (imul .i64 a0 a0) (iadd .i64 (imul .i64 a1.1 a1.1) (imul .i64 a1.2.1 a1.2.1)))
noncomputable def near_far_1.sp (k : Nat) : Go.Sx.Spec := ⟨(.pair T2 (.pair (.ref T33) .unit)), (.one (.dp T4)), fun x => near_far_1 k x.1 x.2.1, false⟩
noncomputable def near_far_1.cx (k : Nat) : Go.Sx.Ctx := ⟨tys, [], eqs, 19, false⟩
theorem near_far_1.cok (k : Nat) : CtxOk PR (near_far_1.cx k) := ctx_ok tysOk eqsOk FnsOk.nil
theorem near_far_1.way (k : Nat) (a0 : Int) (a1 : V33) : Owp (near_far_1 k a0 a1) fun y => ∃ answers cmds, exec PR (near_far_1.cx k) near_far_1.code 0 (entry (.pair T2 (.pair (.ref T33) .unit)) (a0, a1, ())).st answers (Ret (near_far_1.cx k) Try.f96 cmds (.one (.dp T4)) y) := by
  unfold near_far_1; exact
   Owp.some (⟨[], [], via (retP trivial (.one (.dp T4)) ((ile (imul .i64 a0 a0) (iadd .i64 (imul .i64 a1.1 a1.1) (imul .i64 a1.2.1 a1.2.1))) : Bool)) (by kernel_rfl)⟩)
theorem near_far_1.ok (k : Nat) : FnOk PR 96 (near_far_1.sp k) :=
  fn_ok (near_far_1.cok k) hmix Try.func96 (code := near_far_1.code) (by kernel_rfl) (by kernel_rfl) (by kernel_rfl) rfl (by kernel_rfl) (by kernel_rfl) (by kernel_rfl) (fun x => Nat.le_of_ble_eq_true (by kernel_rfl)) fun x y hy => (near_far_1.way k x.1 x.2.1).ap hy

/-! tourney/near.far$2 -/
noncomputable def near_far_2.code : Code := Func.cd Try.f97
def near_far_2 (k : Nat) (a0 : Int) (a1 : V33) : Option Bool :=
  some (ile (imul .i64 a0 a0) (iadd .i64 (imul .i64 a1.1 a1.1) (imul .i64 a1.2.1 a1.2.1)))
noncomputable def near_far_2.sp (k : Nat) : Go.Sx.Spec := ⟨(.pair T2 (.pair (.ref T33) .unit)), (.one (.dp T4)), fun x => near_far_2 k x.1 x.2.1, false⟩
noncomputable def near_far_2.cx (k : Nat) : Go.Sx.Ctx := ⟨tys, [], eqs, 19, false⟩
theorem near_far_2.cok (k : Nat) : CtxOk PR (near_far_2.cx k) := ctx_ok tysOk eqsOk FnsOk.nil
theorem near_far_2.way (k : Nat) (a0 : Int) (a1 : V33) : Owp (near_far_2 k a0 a1) fun y => ∃ answers cmds, exec PR (near_far_2.cx k) near_far_2.code 0 (entry (.pair T2 (.pair (.ref T33) .unit)) (a0, a1, ())).st answers (Ret (near_far_2.cx k) Try.f97 cmds (.one (.dp T4)) y) := by
  unfold near_far_2; exact
   Owp.some (⟨[], [], via (retP trivial (.one (.dp T4)) ((ile (imul .i64 a0 a0) (iadd .i64 (imul .i64 a1.1 a1.1) (imul .i64 a1.2.1 a1.2.1))) : Bool)) (by kernel_rfl)⟩)
theorem near_far_2.ok (k : Nat) : FnOk PR 97 (near_far_2.sp k) :=
  fn_ok (near_far_2.cok k) hmix Try.func97 (code := near_far_2.code) (by kernel_rfl) (by kernel_rfl) (by kernel_rfl) rfl (by kernel_rfl) (by kernel_rfl) (by kernel_rfl) (fun x => Nat.le_of_ble_eq_true (by kernel_rfl)) fun x y hy => (near_far_2.way k x.1 x.2.1).ap hy

/-! tourney/near.far$3 -/
noncomputable def near_far_3.code : Code := Func.cd Try.f98
def near_far_3 (k : Nat) (a0 : Int) (a1 : Int) (a2 : Int) : Option Bool :=
  bnd (poly_Times k (imul .i64 a0 a0) a1) fun y1 =>
  bnd (poly_Times k a2 a2) fun y3 =>
  bnd (poly_Wide_Cmp k y1 y3) fun y5 =>
  some (ile y5 0)
noncomputable def near_far_3.sp (k : Nat) : Go.Sx.Spec := ⟨(.pair T2 (.pair (.ref T2) (.pair (.ref T2) .unit))), (.one (.dp T4)), fun x => near_far_3 k x.1 x.2.1 x.2.2.1, false⟩
noncomputable def near_far_3.cx (k : Nat) : Go.Sx.Ctx := ⟨tys, [(99, poly_Times.sp k), (100, poly_Wide_Cmp.sp k)], eqs, 15, false⟩
theorem near_far_3.cok (k : Nat) : CtxOk PR (near_far_3.cx k) := ctx_ok tysOk eqsOk (FnsOk.cons (poly_Times.ok k) (FnsOk.cons (poly_Wide_Cmp.ok k) FnsOk.nil))
theorem near_far_3.way (k : Nat) (a0 : Int) (a1 : Int) (a2 : Int) : Owp (near_far_3 k a0 a1 a2) fun y => ∃ answers cmds, exec PR (near_far_3.cx k) near_far_3.code 0 (entry (.pair T2 (.pair (.ref T2) (.pair (.ref T2) .unit))) (a0, a1, a2, ())).st answers (Ret (near_far_3.cx k) Try.f98 cmds (.one (.dp T4)) y) := by
  unfold near_far_3; exact
   Owp.bnd fun y1 e2 =>
   Owp.bnd fun y3 e4 =>
   Owp.bnd fun y5 e6 =>
   Owp.some (⟨[.res (.one (.dp T108)) y1, .res (.one (.dp T108)) y3, .res (.one (.dp T2)) y5], [], via (retP (And.intro (And.intro (And.intro trivial e2) e4) e6) (.one (.dp T4)) ((ile y5 (0 : Int)) : Bool)) (by kernel_rfl)⟩)
theorem near_far_3.ok (k : Nat) : FnOk PR 98 (near_far_3.sp k) :=
  fn_ok (near_far_3.cok k) hmix Try.func98 (code := near_far_3.code) (by kernel_rfl) (by kernel_rfl) (by kernel_rfl) rfl (by kernel_rfl) (by kernel_rfl) (by kernel_rfl) (fun x => Nat.le_of_ble_eq_true (by kernel_rfl)) fun x y hy => (near_far_3.way k x.1 x.2.1 x.2.2.1).ap hy

/-! tourney/near.far -/
noncomputable def near_far.code : Code := Func.cd Try.f53
def near_far (k : Nat) (a0 : V33) (a1 : V33) : Option Int :=
  bif' (ile (isub .i64 (imul .i64 (ineg .i64 a0.1) (isub .i64 a1.1 a0.1)) (imul .i64 a0.2.1 (isub .i64 a1.2.1 a0.2.1))) 0)
  (bnd (near_greatest k (fun x : (Int × Unit) => near_far_1 k (x.1) a0)) fun y2 =>
   some y2)
  (bif' (ige (isub .i64 (imul .i64 (ineg .i64 a0.1) (isub .i64 a1.1 a0.1)) (imul .i64 a0.2.1 (isub .i64 a1.2.1 a0.2.1))) (iadd .i64 (imul .i64 (isub .i64 a1.1 a0.1) (isub .i64 a1.1 a0.1)) (imul .i64 (isub .i64 a1.2.1 a0.2.1) (isub .i64 a1.2.1 a0.2.1))))
   (bnd (near_greatest k (fun x : (Int × Unit) => near_far_2 k (x.1) a1)) fun y5 =>
    some y5)
   (bnd (near_cross k a0 a1) fun y7 =>
    bnd (near_greatest k (fun x : (Int × Unit) => near_far_3 k (x.1) (iadd .i64 (imul .i64 (isub .i64 a1.1 a0.1) (isub .i64 a1.1 a0.1)) (imul .i64 (isub .i64 a1.2.1 a0.2.1) (isub .i64 a1.2.1 a0.2.1))) y7)) fun y9 =>
    some y9))
noncomputable def near_far.sp (k : Nat) : Go.Sx.Spec := ⟨(.pair T33 (.pair T33 .unit)), (.one (.dp T2)), fun x => near_far k x.1 x.2.1, false⟩
noncomputable def near_far.cx (k : Nat) : Go.Sx.Ctx := ⟨tys, [(95, near_greatest.sp k), (96, near_far_1.sp k), (97, near_far_2.sp k), (56, near_cross.sp k), (98, near_far_3.sp k)], eqs, 59, false⟩
theorem near_far.cok (k : Nat) : CtxOk PR (near_far.cx k) := ctx_ok tysOk eqsOk (FnsOk.cons (near_greatest.ok k) (FnsOk.cons (near_far_1.ok k) (FnsOk.cons (near_far_2.ok k) (FnsOk.cons (near_cross.ok k) (FnsOk.cons (near_far_3.ok k) FnsOk.nil)))))
theorem near_far.way (k : Nat) (a0 : V33) (a1 : V33) : Owp (near_far k a0 a1) fun y => ∃ answers cmds, exec PR (near_far.cx k) near_far.code 0 (entry (.pair T33 (.pair T33 .unit)) (a0, a1, ())).st answers (Ret (near_far.cx k) Try.f53 cmds (.one (.dp T2)) y) := by
  unfold near_far; exact
   Owp.bif (fun e1 =>
   Owp.bnd fun y2 e3 =>
    Owp.some (⟨[.dec true, .res (.one (.dp T2)) y2], [], via (retP (And.intro (And.intro trivial e1) e3) (.one (.dp T2)) (y2 : Int)) (by kernel_rfl)⟩)) (fun e1 =>
   Owp.bif (fun e4 =>
    Owp.bnd fun y5 e6 =>
     Owp.some (⟨[.dec false, .dec true, .res (.one (.dp T2)) y5], [], via (retP (And.intro (And.intro (And.intro trivial e1) e4) e6) (.one (.dp T2)) (y5 : Int)) (by kernel_rfl)⟩)) (fun e4 =>
    Owp.bnd fun y7 e8 =>
     Owp.bnd fun y9 e10 =>
     Owp.some (⟨[.dec false, .dec false, .res (.one (.dp T2)) y7, .res (.one (.dp T2)) y9], [], via (retP (And.intro (And.intro (And.intro (And.intro trivial e1) e4) e8) e10) (.one (.dp T2)) (y9 : Int)) (by kernel_rfl)⟩)))
theorem near_far.ok (k : Nat) : FnOk PR 53 (near_far.sp k) :=
  fn_ok (near_far.cok k) hmix Try.func53 (code := near_far.code) (by kernel_rfl) (by kernel_rfl) (by kernel_rfl) rfl (by kernel_rfl) (by kernel_rfl) (by kernel_rfl) (fun x => Nat.le_of_ble_eq_true (by kernel_rfl)) fun x y hy => (near_far.way k x.1 x.2.1).ap hy

/-! tourney/near.Apart -/
noncomputable def near_Apart.code : Code := Func.cd Try.f10
def near_Apart.c1 (k : Nat) (y1 : ((List V33) × Int)) : Nat → Int → Int → Option (Int)
  | 0, _, _ => none
  | n + 1, v7, v8 =>
   bif' (ilt v8 (len y1.1))
   (req (inL v8 y1.1) <|
    req (nz (len y1.1)) <|
    req (inL (irem (iadd .i64 v8 1) (len y1.1)) y1.1) <|
    bnd (near_far k (el Z33 y1.1 v8) (el Z33 y1.1 (irem (iadd .i64 v8 1) (len y1.1)))) fun y13 =>
    near_Apart.c1 k y1 n (imin v7 y13) (iadd .i64 v8 1))
   (some v7)
def near_Apart (k : Nat) (a0 : (List V33)) (a1 : (List V33)) : Option (Int × Int) :=
  bnd (near_Minus k a0 a1) fun y1 =>
  bif' (ine y1.2 0)
  (some (0, y1.2))
  (bnd (near_inside k y1.1) fun y4 =>
   bif' y4
   (some (0, 0))
   (bnd (near_Apart.c1 k y1 k 1073741824 0) fun o15 =>
    some (o15, 0)))
noncomputable def near_Apart.sp (k : Nat) : Go.Sx.Spec := ⟨(.pair T22 (.pair T22 .unit)), (.more (.dp T2) (.one (.dp T2))), fun x => near_Apart k x.1 x.2.1, false⟩
noncomputable def near_Apart.cx (k : Nat) : Go.Sx.Ctx := ⟨tys, [(12, near_Minus.sp k), (52, near_inside.sp k), (53, near_far.sp k)], eqs, 43, false⟩
theorem near_Apart.cok (k : Nat) : CtxOk PR (near_Apart.cx k) := ctx_ok tysOk eqsOk (FnsOk.cons (near_Minus.ok k) (FnsOk.cons (near_inside.ok k) (FnsOk.cons (near_far.ok k) FnsOk.nil)))
noncomputable def near_Apart.c1p (y1 : ((List V33) × Int)) (v7 : Int) (v8 : Int) : SL := ⟨[(6, (.val .own (0 : Nat))), (8, (.val T2 v7)), (22, (.val .own (0 : Nat))), (23, (.val T2 (len y1.1))), (24, (.val T2 v8))], [(0, .row T33 y1.1 34)]⟩
noncomputable def near_Apart.c1q (o : Int) : SL := (fun v => ⟨[(8, (.val T2 v))], []⟩) o
noncomputable def near_Apart.c1x (o : Int) : Ex := (fun _ => (.exit 0)) o
noncomputable def near_Apart.c1n (o : Int) : Nat := (fun _ => 0) o
theorem near_Apart.c1_ok (k : Nat) (y1 : ((List V33) × Int)) : ∀ (n : Nat) (v7 : Int) (v8 : Int), Owp (near_Apart.c1 k y1 n v7 v8) fun o => LTriple PR (near_Apart.cx k) (sub near_Apart.code [1, 1, 1, 1, 1, 0, 1, 0, 0]) 1 (near_Apart.c1p y1 v7 v8) (near_Apart.c1x o) (near_Apart.c1n o) (near_Apart.c1q o)
  | 0, _, _ => fun _ h => nomatch h
  | n + 1, v7, v8 => Owp.of (near_Apart.c1.eq_2 ..) (
   Owp.bif (fun e9 =>
   Owp.req fun h10 =>
    Owp.req fun h11 =>
    Owp.req fun h12 =>
    Owp.bnd fun y13 e14 =>
    fun y hy => loop_back (near_Apart.cok k) hmix 1 (near_Apart.c1p y1 (imin v7 y13) (iadd .i64 v8 (1 : Int))) [.dec true, .res (.one (.dp T2)) y13] [] [(0, 0)] (via (finP (And.intro (And.intro (And.intro (And.intro (And.intro (And.intro (And.intro trivial e9) h10) h10) h11) h12) h12) e14) .normal [(0, 0)] (near_Apart.c1p y1 (imin v7 y13) (iadd .i64 v8 (1 : Int)))) (by kernel_rfl)) ((near_Apart.c1_ok k y1 n (imin v7 y13) (iadd .i64 v8 (1 : Int))).ap hy)) (fun e9 =>
   Owp.some (loop_exit (near_Apart.cok k) hmix [.dec false] [] [] (exne 0) (via (finP (And.intro trivial e9) (.exit 0) [] (near_Apart.c1q v7)) (by kernel_rfl)))))
theorem near_Apart.way (k : Nat) (a0 : (List V33)) (a1 : (List V33)) : Owp (near_Apart k a0 a1) fun y => ∃ answers cmds, exec PR (near_Apart.cx k) near_Apart.code 0 (entry (.pair T22 (.pair T22 .unit)) (a0, a1, ())).st answers (Ret (near_Apart.cx k) Try.f10 cmds (.more (.dp T2) (.one (.dp T2))) y) := by
  unfold near_Apart; exact
   Owp.bnd fun y1 e2 =>
   Owp.bif (fun e3 =>
   Owp.some (⟨[.res (.more (.ow T33 34) (.one (.dp T2))) y1, .dec true], [], via (retP (And.intro (And.intro trivial e2) e3) (.more (.dp T2) (.one (.dp T2))) (((0 : Int), y1.2) : (Int × Int))) (by kernel_rfl)⟩)) (fun e3 =>
   Owp.bnd fun y4 e5 =>
    Owp.bif (fun e6 =>
    Owp.some (⟨[.res (.more (.ow T33 34) (.one (.dp T2))) y1, .dec false, .res (.one (.dp T4)) y4, .dec true], [], via (retP (And.intro (And.intro (And.intro (And.intro trivial e2) e3) e5) e6) (.more (.dp T2) (.one (.dp T2))) (((0 : Int), (0 : Int)) : (Int × Int))) (by kernel_rfl)⟩)) (fun e6 =>
    Owp.bnd fun o15 e16 =>
     Owp.some (⟨[.res (.more (.ow T33 34) (.one (.dp T2))) y1, .dec false, .res (.one (.dp T4)) y4, .dec false, .cut ⟨[], [(0, 4)], (near_Apart.c1p y1 (1073741824 : Int) (0 : Int)), 1, (.exit 0), (near_Apart.c1q o15), 0⟩], [], via (cutP (And.intro (And.intro (And.intro (And.intro trivial e2) e3) e5) e6) [(0, 4)] (near_Apart.c1p y1 (1073741824 : Int) (0 : Int)) (((near_Apart.c1_ok k y1 k (1073741824 : Int) (0 : Int)).ap e16).triple) (retP trivial (.more (.dp T2) (.one (.dp T2))) ((o15, (0 : Int)) : (Int × Int)))) (by kernel_rfl)⟩)))
theorem near_Apart.ok (k : Nat) : FnOk PR 10 (near_Apart.sp k) :=
  fn_ok (near_Apart.cok k) hmix Try.func10 (code := near_Apart.code) (by kernel_rfl) (by kernel_rfl) (by kernel_rfl) rfl (by kernel_rfl) (by kernel_rfl) (by kernel_rfl) (fun x => Nat.le_of_ble_eq_true (by kernel_rfl)) fun x y hy => (near_Apart.way k x.1 x.2.1).ap hy

/-! tourney/tourkeep2.tests -/
noncomputable def tourkeep2_tests.code : Code := Func.cd Try.f27
def tourkeep2_tests (k : Nat) : Option Bool :=
  bnd (tourkeep2_square k 0 0 2) fun y1 =>
  bnd (tourkeep2_square k 3 1 2) fun y3 =>
  bnd (sat_Test k y1 y3) fun y5 =>
  bnd (tourkeep2_square k 0 0 1) fun y7 =>
  bnd (tourkeep2_square k 5 6 1) fun y9 =>
  bnd (near_Apart k y7 y9) fun y11 =>
  bif' y5.1
  (bif' (ieq y5.2.1 65536)
   (bif' (Ty.eqb T33 y5.2.2 ((65536 : Int), (0 : Int), ()))
    (bif' (ieq y11.2 0)
     (some (ieq y11.1 327680))
     (some false))
    (some false))
   (some false))
  (some false)
noncomputable def tourkeep2_tests.sp (k : Nat) : Go.Sx.Spec := ⟨.unit, (.one (.dp T4)), fun x => tourkeep2_tests k, false⟩
noncomputable def tourkeep2_tests.cx (k : Nat) : Go.Sx.Ctx := ⟨tys, [(45, tourkeep2_square.sp k), (26, sat_Test.sp k), (10, near_Apart.sp k)], eqs, 37, false⟩
theorem tourkeep2_tests.cok (k : Nat) : CtxOk PR (tourkeep2_tests.cx k) := ctx_ok tysOk eqsOk (FnsOk.cons (tourkeep2_square.ok k) (FnsOk.cons (sat_Test.ok k) (FnsOk.cons (near_Apart.ok k) FnsOk.nil)))
theorem tourkeep2_tests.way (k : Nat) : Owp (tourkeep2_tests k) fun y => ∃ answers cmds, exec PR (tourkeep2_tests.cx k) tourkeep2_tests.code 0 (entry .unit ()).st answers (Ret (tourkeep2_tests.cx k) Try.f27 cmds (.one (.dp T4)) y) := by
  unfold tourkeep2_tests; exact
   Owp.bnd fun y1 e2 =>
   Owp.bnd fun y3 e4 =>
   Owp.bnd fun y5 e6 =>
   Owp.bnd fun y7 e8 =>
   Owp.bnd fun y9 e10 =>
   Owp.bnd fun y11 e12 =>
   Owp.bif (fun e13 =>
   Owp.bif (fun e14 =>
    Owp.bif (fun e15 =>
     Owp.bif (fun e16 =>
      Owp.some (⟨[.res (.one (.ow T33 34)) y1, .res (.one (.ow T33 34)) y3, .res (.more (.dp T4) (.more (.dp T2) (.one (.dp T33)))) y5, .res (.one (.ow T33 34)) y7, .res (.one (.ow T33 34)) y9, .res (.more (.dp T2) (.one (.dp T2))) y11, .dec true, .dec true, .dec true, .dec true, .dec true, .dec true, .dec true, .dec true, .dec true, .dec true, .dec true, .dec true, .dec true], [], via (retP (And.intro (And.intro (And.intro (And.intro (And.intro (And.intro (And.intro (And.intro (And.intro (And.intro (And.intro (And.intro (And.intro (And.intro (And.intro (And.intro (And.intro (And.intro (And.intro trivial e2) e4) e6) e8) e10) e12) e13) e13) e13) e14) e14) e14) e14) e15) e15) e15) e16) e16) e16) (.one (.dp T4)) ((ieq y11.1 (327680 : Int)) : Bool)) (by kernel_rfl)⟩)) (fun e16 =>
      Owp.some (⟨[.res (.one (.ow T33 34)) y1, .res (.one (.ow T33 34)) y3, .res (.more (.dp T4) (.more (.dp T2) (.one (.dp T33)))) y5, .res (.one (.ow T33 34)) y7, .res (.one (.ow T33 34)) y9, .res (.more (.dp T2) (.one (.dp T2))) y11, .dec true, .dec true, .dec true, .dec true, .dec true, .dec true, .dec true, .dec true, .dec true, .dec true, .dec false, .dec false, .dec false], [], via (retP (And.intro (And.intro (And.intro (And.intro (And.intro (And.intro (And.intro (And.intro (And.intro (And.intro (And.intro (And.intro (And.intro (And.intro (And.intro (And.intro (And.intro (And.intro (And.intro trivial e2) e4) e6) e8) e10) e12) e13) e13) e13) e14) e14) e14) e14) e15) e15) e15) e16) e16) e16) (.one (.dp T4)) (false : Bool)) (by kernel_rfl)⟩))) (fun e15 =>
     Owp.some (⟨[.res (.one (.ow T33 34)) y1, .res (.one (.ow T33 34)) y3, .res (.more (.dp T4) (.more (.dp T2) (.one (.dp T33)))) y5, .res (.one (.ow T33 34)) y7, .res (.one (.ow T33 34)) y9, .res (.more (.dp T2) (.one (.dp T2))) y11, .dec true, .dec true, .dec true, .dec true, .dec true, .dec true, .dec true, .dec false, .dec false, .dec false, .dec false, .dec false, .dec false], [], via (retP (And.intro (And.intro (And.intro (And.intro (And.intro (And.intro (And.intro (And.intro (And.intro (And.intro (And.intro (And.intro (And.intro (And.intro (And.intro (And.intro (And.intro (And.intro (And.intro trivial e2) e4) e6) e8) e10) e12) e13) e13) e13) e14) e14) e14) e14) e15) e15) e15) ff) ff) ff) (.one (.dp T4)) (false : Bool)) (by kernel_rfl)⟩))) (fun e14 =>
    Owp.some (⟨[.res (.one (.ow T33 34)) y1, .res (.one (.ow T33 34)) y3, .res (.more (.dp T4) (.more (.dp T2) (.one (.dp T33)))) y5, .res (.one (.ow T33 34)) y7, .res (.one (.ow T33 34)) y9, .res (.more (.dp T2) (.one (.dp T2))) y11, .dec true, .dec true, .dec true, .dec false, .dec false, .dec false, .dec false, .dec false, .dec false, .dec false, .dec false, .dec false, .dec false], [], via (retP (And.intro (And.intro (And.intro (And.intro (And.intro (And.intro (And.intro (And.intro (And.intro (And.intro (And.intro (And.intro (And.intro (And.intro (And.intro (And.intro (And.intro (And.intro (And.intro trivial e2) e4) e6) e8) e10) e12) e13) e13) e13) e14) e14) e14) e14) ff) ff) ff) ff) ff) ff) (.one (.dp T4)) (false : Bool)) (by kernel_rfl)⟩))) (fun e13 =>
   Owp.some (⟨[.res (.one (.ow T33 34)) y1, .res (.one (.ow T33 34)) y3, .res (.more (.dp T4) (.more (.dp T2) (.one (.dp T33)))) y5, .res (.one (.ow T33 34)) y7, .res (.one (.ow T33 34)) y9, .res (.more (.dp T2) (.one (.dp T2))) y11, .dec false, .dec false, .dec false, .dec false, .dec false, .dec false, .dec false, .dec false, .dec false, .dec false, .dec false, .dec false, .dec false], [], via (retP (And.intro (And.intro (And.intro (And.intro (And.intro (And.intro (And.intro (And.intro (And.intro (And.intro (And.intro (And.intro (And.intro (And.intro (And.intro (And.intro (And.intro (And.intro (And.intro trivial e2) e4) e6) e8) e10) e12) e13) e13) e13) ff) ff) ff) ff) ff) ff) ff) ff) ff) ff) (.one (.dp T4)) (false : Bool)) (by kernel_rfl)⟩))
theorem tourkeep2_tests.ok (k : Nat) : FnOk PR 27 (tourkeep2_tests.sp k) :=
  fn_ok (tourkeep2_tests.cok k) hmix Try.func27 (code := tourkeep2_tests.code) (by kernel_rfl) (by kernel_rfl) (by kernel_rfl) rfl (by kernel_rfl) (by kernel_rfl) (by kernel_rfl) (fun x => Nat.le_of_ble_eq_true (by kernel_rfl)) fun x y hy => (tourkeep2_tests.way k).ap hy

/-! tourney/tourkeep2.SatApart -/
noncomputable def tourkeep2_SatApart.code : Code := Func.cd Try.f6
def tourkeep2_SatApart.c1 (k : Nat) (y3 : (Bool × (Int × V33))) : Option (Bool) :=
  bif' (ieq y3.2.1 0)
  (some (Ty.eqb T33 y3.2.2 ((0 : Int), (0 : Int), ())))
  (some false)
def tourkeep2_SatApart (k : Nat) (a0 : (List Int)) (a1 : (List Int)) (a2 : Int) (a3 : Int) : Option Bool :=
  bnd (tourkeep2_pair k a0 a1 a2 a3) fun y1 =>
  bnd (sat_Test k y1.1 y1.2) fun y3 =>
  bnd (tourkeep2_tests k) fun y5 =>
  bif' y5
  (bif' y3.1
   (bnd (vec_Scale k y3.2.2 (iadd .i64 y3.2.1 64)) fun y9 =>
    bnd (tourkeep2_moved k y1.2 y9) fun y11 =>
    bnd (sat_Test k y1.1 y11) fun y13 =>
    some (!y13.1))
   (bnd (tourkeep2_SatApart.c1 k y3) fun o16 =>
    some o16))
  (some false)
noncomputable def tourkeep2_SatApart.sp (k : Nat) : Go.Sx.Spec := ⟨(.pair T39 (.pair T39 T33)), (.one (.dp T4)), fun x => tourkeep2_SatApart k x.1 x.2.1 x.2.2.1 x.2.2.2.1, false⟩
noncomputable def tourkeep2_SatApart.cx (k : Nat) : Go.Sx.Ctx := ⟨tys, [(25, tourkeep2_pair.sp k), (26, sat_Test.sp k), (27, tourkeep2_tests.sp k), (29, vec_Scale.sp k), (28, tourkeep2_moved.sp k)], eqs, 57, false⟩
theorem tourkeep2_SatApart.cok (k : Nat) : CtxOk PR (tourkeep2_SatApart.cx k) := ctx_ok tysOk eqsOk (FnsOk.cons (tourkeep2_pair.ok k) (FnsOk.cons (sat_Test.ok k) (FnsOk.cons (tourkeep2_tests.ok k) (FnsOk.cons (vec_Scale.ok k) (FnsOk.cons (tourkeep2_moved.ok k) FnsOk.nil)))))
noncomputable def tourkeep2_SatApart.c1p (y3 : (Bool × (Int × V33))) : SL := ⟨[(12, (.val T2 y3.2.1)), (13, (.val .ptr ⟨0, 0, (0 : Int), 0, 0⟩))], [(0, .cells T33 y3.2.2)]⟩
noncomputable def tourkeep2_SatApart.c1q (o : Bool) : SL := (fun v => ⟨[(8, (.val T4 v))], []⟩) o
noncomputable def tourkeep2_SatApart.c1x (o : Bool) : Ex := (fun _ => .normal) o
noncomputable def tourkeep2_SatApart.c1n (o : Bool) : Nat := (fun _ => 0) o
theorem tourkeep2_SatApart.c1_ok (k : Nat) (y3 : (Bool × (Int × V33))) : Owp (tourkeep2_SatApart.c1 k y3) fun o => Triple PR (tourkeep2_SatApart.cx k) (sub tourkeep2_SatApart.code [1, 1, 1, 1, 0, 1, 0, 0]) 1 (tourkeep2_SatApart.c1p y3) (tourkeep2_SatApart.c1x o) (tourkeep2_SatApart.c1n o) (tourkeep2_SatApart.c1q o) := by
  unfold tourkeep2_SatApart.c1; exact
   Owp.bif (fun e15 =>
   Owp.some (triple_way (tourkeep2_SatApart.cok k) hmix [.dec true, .dec true, .dec true, .dec true] [] [] (via (finP (And.intro (And.intro (And.intro (And.intro trivial e15) e15) e15) e15) .normal [] (tourkeep2_SatApart.c1q (Ty.eqb T33 y3.2.2 ((0 : Int), (0 : Int), ())))) (by kernel_rfl)))) (fun e15 =>
   Owp.some (triple_way (tourkeep2_SatApart.cok k) hmix [.dec false, .dec false, .dec false, .dec false] [] [] (via (finP (And.intro (And.intro (And.intro (And.intro trivial e15) e15) e15) e15) .normal [] (tourkeep2_SatApart.c1q false)) (by kernel_rfl))))
theorem tourkeep2_SatApart.way (k : Nat) (a0 : (List Int)) (a1 : (List Int)) (a2 : Int) (a3 : Int) : Owp (tourkeep2_SatApart k a0 a1 a2 a3) fun y => ∃ answers cmds, exec PR (tourkeep2_SatApart.cx k) tourkeep2_SatApart.code 0 (entry (.pair T39 (.pair T39 T33)) (a0, a1, a2, a3, ())).st answers (Ret (tourkeep2_SatApart.cx k) Try.f6 cmds (.one (.dp T4)) y) := by
  unfold tourkeep2_SatApart; exact
   Owp.bnd fun y1 e2 =>
   Owp.bnd fun y3 e4 =>
   Owp.bnd fun y5 e6 =>
   Owp.bif (fun e7 =>
   Owp.bif (fun e8 =>
    Owp.bnd fun y9 e10 =>
     Owp.bnd fun y11 e12 =>
     Owp.bnd fun y13 e14 =>
     Owp.some (⟨[.res (.more (.dp T22) (.one (.ow T33 34))) y1, .res (.more (.dp T4) (.more (.dp T2) (.one (.dp T33)))) y3, .res (.one (.dp T4)) y5, .dec false, .dec false, .res (.one (.dp T33)) y9, .res (.one (.ow T33 34)) y11, .res (.more (.dp T4) (.more (.dp T2) (.one (.dp T33)))) y13], [], via (retP (And.intro (And.intro (And.intro (And.intro (And.intro (And.intro (And.intro (And.intro trivial e2) e4) e6) (congrArg not e7)) (congrArg not e8)) e10) e12) e14) (.one (.dp T4)) ((!y13.1) : Bool)) (by kernel_rfl)⟩)) (fun e8 =>
    Owp.bnd fun o16 e17 =>
     Owp.some (⟨[.res (.more (.dp T22) (.one (.ow T33 34))) y1, .res (.more (.dp T4) (.more (.dp T2) (.one (.dp T33)))) y3, .res (.one (.dp T4)) y5, .dec false, .dec true, .cutR 6 ⟨[], [(0, 18)], (tourkeep2_SatApart.c1p y3), 1, .normal, (tourkeep2_SatApart.c1q o16), 0⟩], [], via (cutP (And.intro (And.intro (And.intro (And.intro (And.intro trivial e2) e4) e6) (congrArg not e7)) (congrArg not e8)) [(0, 18)] (tourkeep2_SatApart.c1p y3) (((tourkeep2_SatApart.c1_ok k y3).ap e17)) (retP trivial (.one (.dp T4)) (o16 : Bool))) (by kernel_rfl)⟩))) (fun e7 =>
   Owp.some (⟨[.res (.more (.dp T22) (.one (.ow T33 34))) y1, .res (.more (.dp T4) (.more (.dp T2) (.one (.dp T33)))) y3, .res (.one (.dp T4)) y5, .dec true], [], via (retP (And.intro (And.intro (And.intro (And.intro trivial e2) e4) e6) (congrArg not e7)) (.one (.dp T4)) (false : Bool)) (by kernel_rfl)⟩))
theorem tourkeep2_SatApart.ok (k : Nat) : FnOk PR 6 (tourkeep2_SatApart.sp k) :=
  fn_ok (tourkeep2_SatApart.cok k) hmix Try.func6 (code := tourkeep2_SatApart.code) (by kernel_rfl) (by kernel_rfl) (by kernel_rfl) rfl (by kernel_rfl) (by kernel_rfl) (by kernel_rfl) (fun x => Nat.le_of_ble_eq_true (by kernel_rfl)) fun x y hy => (tourkeep2_SatApart.way k x.1 x.2.1 x.2.2.1 x.2.2.2.1).ap hy

/-! tourney/near.Meet -/
noncomputable def near_Meet.code : Code := Func.cd Try.f13
def near_Meet (k : Nat) (a0 : (List V33)) (a1 : (List V33)) : Option (Bool × Int) :=
  bnd (near_Minus k a0 a1) fun y1 =>
  bif' (ine y1.2 0)
  (some (false, y1.2))
  (bnd (near_inside k y1.1) fun y4 =>
   some (y4, 0))
noncomputable def near_Meet.sp (k : Nat) : Go.Sx.Spec := ⟨(.pair T22 (.pair T22 .unit)), (.more (.dp T4) (.one (.dp T2))), fun x => near_Meet k x.1 x.2.1, false⟩
noncomputable def near_Meet.cx (k : Nat) : Go.Sx.Ctx := ⟨tys, [(12, near_Minus.sp k), (52, near_inside.sp k)], eqs, 19, false⟩
theorem near_Meet.cok (k : Nat) : CtxOk PR (near_Meet.cx k) := ctx_ok tysOk eqsOk (FnsOk.cons (near_Minus.ok k) (FnsOk.cons (near_inside.ok k) FnsOk.nil))
theorem near_Meet.way (k : Nat) (a0 : (List V33)) (a1 : (List V33)) : Owp (near_Meet k a0 a1) fun y => ∃ answers cmds, exec PR (near_Meet.cx k) near_Meet.code 0 (entry (.pair T22 (.pair T22 .unit)) (a0, a1, ())).st answers (Ret (near_Meet.cx k) Try.f13 cmds (.more (.dp T4) (.one (.dp T2))) y) := by
  unfold near_Meet; exact
   Owp.bnd fun y1 e2 =>
   Owp.bif (fun e3 =>
   Owp.some (⟨[.res (.more (.ow T33 34) (.one (.dp T2))) y1, .dec true], [], via (retP (And.intro (And.intro trivial e2) e3) (.more (.dp T4) (.one (.dp T2))) ((false, y1.2) : (Bool × Int))) (by kernel_rfl)⟩)) (fun e3 =>
   Owp.bnd fun y4 e5 =>
    Owp.some (⟨[.res (.more (.ow T33 34) (.one (.dp T2))) y1, .dec false, .res (.one (.dp T4)) y4], [], via (retP (And.intro (And.intro (And.intro trivial e2) e3) e5) (.more (.dp T4) (.one (.dp T2))) ((y4, (0 : Int)) : (Bool × Int))) (by kernel_rfl)⟩))
theorem near_Meet.ok (k : Nat) : FnOk PR 13 (near_Meet.sp k) :=
  fn_ok (near_Meet.cok k) hmix Try.func13 (code := near_Meet.code) (by kernel_rfl) (by kernel_rfl) (by kernel_rfl) rfl (by kernel_rfl) (by kernel_rfl) (by kernel_rfl) (fun x => Nat.le_of_ble_eq_true (by kernel_rfl)) fun x y hy => (near_Meet.way k x.1 x.2.1).ap hy

end Go.Proofs.T1
