import Derived.Test.YtabllngnpponiaaG0
import Derived.Test.YtabllngnpponiaaG1
import Derived.Test.YtabllngnpponiaaG2
namespace Go.Proofs.T1
open Go Go.Sx Go.Proofs
set_option maxRecDepth 100000
set_option linter.unusedVariables false
/-! slices.Equal[[]tourney/api.Vec,tourney/api.Vec] -/
noncomputable def slices_Equal.code : Code := Func.cd Try.f16
def slices_Equal.c1 (k : Nat) (a0 : (List V27)) (a1 : (List V27)) : Nat → Int → Option (Unit ⊕ Unit)
  | 0, _ => none
  | n + 1, v2 =>
   bif' (ilt v2 (len a0))
   (req (inL v2 a0) <|
    req (inL v2 a1) <|
    bif' (Ty.eqb T27 (el Z27 a0 v2) (el Z27 a1 v2))
    (slices_Equal.c1 k a0 a1 n (iadd .i64 v2 1))
    (some (.inl ())))
   (some (.inr ()))
def slices_Equal (k : Nat) (a0 : (List V27)) (a1 : (List V27)) : Option Bool :=
  bif' (ine (len a0) (len a1))
  (some false)
  (bnd (slices_Equal.c1 k a0 a1 k 0) fun o7 =>
   two o7 (fun y9 =>
   some false) (fun y11 =>
   some true))
noncomputable def slices_Equal.sp (k : Nat) : Go.Sx.Spec := ⟨(.pair T22 (.pair T22 .unit)), (.one (.dp T4)), fun x => slices_Equal k x.1 x.2.1, false⟩
noncomputable def slices_Equal.cx (k : Nat) : Go.Sx.Ctx := ⟨tys, [], eqs, 26, 0, [], false⟩
theorem slices_Equal.cok (k : Nat) : CtxOk PR (slices_Equal.cx k) := ctx_ok tysOk eqsOk FnsOk.nil HsOk.nil
noncomputable def slices_Equal.c1p (a0 : (List V27)) (a1 : (List V27)) (v2 : Int) : SL := ⟨[(0, (.val T22 a0)), (1, (.val T22 a1)), (12, (.val T2 (len a0))), (13, (.val T2 v2))], []⟩
noncomputable def slices_Equal.c1q (o : Unit ⊕ Unit) : SL := (fun o => two o (fun v => ⟨[(4, (.val T4 false))], []⟩) (fun v => ⟨[], []⟩)) o
noncomputable def slices_Equal.c1x (o : Unit ⊕ Unit) : Ex := (fun o => two o (fun _ => .ret) (fun _ => (.exit 0))) o
noncomputable def slices_Equal.c1n (o : Unit ⊕ Unit) : Nat := (fun o => two o (fun _ => 0) (fun _ => 0)) o
theorem slices_Equal.c1_ok (k : Nat) (a0 : (List V27)) (a1 : (List V27)) : ∀ (n : Nat) (v2 : Int), Owp (slices_Equal.c1 k a0 a1 n v2) fun o => LTriple PR (slices_Equal.cx k) (sub slices_Equal.code [1, 1, 0, 1, 0, 0]) 0 (slices_Equal.c1p a0 a1 v2) (slices_Equal.c1x o) (slices_Equal.c1n o) (slices_Equal.c1q o)
  | 0, _ => fun _ h => nomatch h
  | n + 1, v2 => Owp.of (slices_Equal.c1.eq_2 ..) (
   Owp.bif (fun e3 =>
   Owp.req fun h4 =>
    Owp.req fun h5 =>
    Owp.bif (fun e6 =>
    fun y hy => loop_back (slices_Equal.cok k) hmix 0 (slices_Equal.c1p a0 a1 (iadd .i64 v2 (1 : Int))) [.dec true, .dec false] [] [] (via (finP (And.intro (And.intro (And.intro (And.intro trivial e3) h4) h5) (congrArg not e6)) .normal [] (slices_Equal.c1p a0 a1 (iadd .i64 v2 (1 : Int)))) (by kernel_rfl)) ((slices_Equal.c1_ok k a0 a1 n (iadd .i64 v2 (1 : Int))).ap hy)) (fun e6 =>
    Owp.some (loop_exit (slices_Equal.cok k) hmix [.dec true, .dec true] [] [] exne_ret (via (finP (And.intro (And.intro (And.intro (And.intro trivial e3) h4) h5) (congrArg not e6)) .ret [] (slices_Equal.c1q (.inl ()))) (by kernel_rfl))))) (fun e3 =>
   Owp.some (loop_exit (slices_Equal.cok k) hmix [.dec false] [] [] (exne 0) (via (finP (And.intro trivial e3) (.exit 0) [] (slices_Equal.c1q (.inr ()))) (by kernel_rfl)))))
theorem slices_Equal.way (k : Nat) (a0 : (List V27)) (a1 : (List V27)) : Owp (slices_Equal k a0 a1) fun y => ∃ answers cmds, exec PR (slices_Equal.cx k) slices_Equal.code 0 (entry (.pair T22 (.pair T22 .unit)) (a0, a1, ())).st answers (Ret (slices_Equal.cx k) Try.f16 cmds (.one (.dp T4)) y) := by
  unfold slices_Equal; exact
   Owp.bif (fun e1 =>
   Owp.some (⟨[.dec true], [], via (retP (And.intro trivial e1) (.one (.dp T4)) (false : Bool)) (by kernel_rfl)⟩)) (fun e1 =>
   Owp.bnd fun o7 e8 =>
    Owp.two (fun y9 e10 =>
    Owp.some (⟨[.dec false, .cut ⟨[], [], (slices_Equal.c1p a0 a1 (0 : Int)), 0, .ret, (slices_Equal.c1q (.inl ())), 0⟩], [], via (cutP (And.intro trivial e1) [] (slices_Equal.c1p a0 a1 (0 : Int)) (((slices_Equal.c1_ok k a0 a1 k (0 : Int)).ap (e8.trans (congrArg some e10))).triple) (retP trivial (.one (.dp T4)) (false : Bool))) (by kernel_rfl)⟩)) (fun y11 e12 =>
    Owp.some (⟨[.dec false, .cut ⟨[], [], (slices_Equal.c1p a0 a1 (0 : Int)), 0, (.exit 0), (slices_Equal.c1q (.inr ())), 0⟩], [], via (cutP (And.intro trivial e1) [] (slices_Equal.c1p a0 a1 (0 : Int)) (((slices_Equal.c1_ok k a0 a1 k (0 : Int)).ap (e8.trans (congrArg some e12))).triple) (retP trivial (.one (.dp T4)) (true : Bool))) (by kernel_rfl)⟩)))
theorem slices_Equal.ok (k : Nat) : FnOk PR 16 (slices_Equal.sp k) :=
  fn_ok (slices_Equal.cok k) hmix Try.func16 (code := slices_Equal.code) (by kernel_rfl) (by kernel_rfl) (by kernel_rfl) rfl rfl (by kernel_rfl) (by kernel_rfl) (by kernel_rfl) (fun x => Nat.le_of_ble_eq_true (by kernel_rfl)) fun x y hy => (slices_Equal.way k x.1 x.2.1).ap hy

/-! tourney/tourref2.coord -/
noncomputable def tourref2_coord.code : Code := Func.cd Try.f94
def tourref2_coord (k : Nat) (a0 : V27) (a1 : Int) : Option Bool :=
  bif' (ige a0.1 (ineg .i64 a1))
  (bif' (ile a0.1 a1)
   (bif' (ige a0.2.1 (ineg .i64 a1))
    (some (ile a0.2.1 a1))
    (some false))
   (some false))
  (some false)
noncomputable def tourref2_coord.sp (k : Nat) : Go.Sx.Spec := ⟨(.pair T27 (.pair T2 .unit)), (.one (.dp T4)), fun x => tourref2_coord k x.1 x.2.1, false⟩
noncomputable def tourref2_coord.cx (k : Nat) : Go.Sx.Ctx := ⟨tys, [], eqs, 29, 0, [], false⟩
theorem tourref2_coord.cok (k : Nat) : CtxOk PR (tourref2_coord.cx k) := ctx_ok tysOk eqsOk FnsOk.nil HsOk.nil
theorem tourref2_coord.way (k : Nat) (a0 : V27) (a1 : Int) : Owp (tourref2_coord k a0 a1) fun y => ∃ answers cmds, exec PR (tourref2_coord.cx k) tourref2_coord.code 0 (entry (.pair T27 (.pair T2 .unit)) (a0, a1, ())).st answers (Ret (tourref2_coord.cx k) Try.f94 cmds (.one (.dp T4)) y) := by
  unfold tourref2_coord; exact
   Owp.bif (fun e1 =>
   Owp.bif (fun e2 =>
    Owp.bif (fun e3 =>
     Owp.some (⟨[.dec true, .dec true, .dec true, .dec true, .dec true, .dec true, .dec true, .dec true, .dec true, .dec true, .dec true, .dec true, .dec true, .dec true, .dec true, .dec true], [], via (retP (And.intro (And.intro (And.intro (And.intro (And.intro (And.intro (And.intro (And.intro (And.intro (And.intro (And.intro (And.intro (And.intro (And.intro (And.intro (And.intro trivial e1) e1) e1) e1) e1) e2) e2) e2) e2) e2) e2) e3) e3) e3) e3) e3) (.one (.dp T4)) ((ile a0.2.1 a1) : Bool)) (by kernel_rfl)⟩)) (fun e3 =>
     Owp.some (⟨[.dec true, .dec true, .dec true, .dec true, .dec true, .dec true, .dec true, .dec true, .dec true, .dec true, .dec true, .dec false, .dec false, .dec false, .dec false, .dec false], [], via (retP (And.intro (And.intro (And.intro (And.intro (And.intro (And.intro (And.intro (And.intro (And.intro (And.intro (And.intro (And.intro (And.intro (And.intro (And.intro (And.intro trivial e1) e1) e1) e1) e1) e2) e2) e2) e2) e2) e2) e3) e3) e3) e3) e3) (.one (.dp T4)) (false : Bool)) (by kernel_rfl)⟩))) (fun e2 =>
    Owp.some (⟨[.dec true, .dec true, .dec true, .dec true, .dec true, .dec false, .dec false, .dec false, .dec false, .dec false, .dec false, .dec false, .dec false, .dec false, .dec false, .dec false], [], via (retP (And.intro (And.intro (And.intro (And.intro (And.intro (And.intro (And.intro (And.intro (And.intro (And.intro (And.intro (And.intro (And.intro (And.intro (And.intro (And.intro trivial e1) e1) e1) e1) e1) e2) e2) e2) e2) e2) e2) ff) ff) ff) ff) ff) (.one (.dp T4)) (false : Bool)) (by kernel_rfl)⟩))) (fun e1 =>
   Owp.some (⟨[.dec false, .dec false, .dec false, .dec false, .dec false, .dec false, .dec false, .dec false, .dec false, .dec false, .dec false, .dec false, .dec false, .dec false, .dec false, .dec false], [], via (retP (And.intro (And.intro (And.intro (And.intro (And.intro (And.intro (And.intro (And.intro (And.intro (And.intro (And.intro (And.intro (And.intro (And.intro (And.intro (And.intro trivial e1) e1) e1) e1) e1) ff) ff) ff) ff) ff) ff) ff) ff) ff) ff) ff) (.one (.dp T4)) (false : Bool)) (by kernel_rfl)⟩))
theorem tourref2_coord.ok (k : Nat) : FnOk PR 94 (tourref2_coord.sp k) :=
  fn_ok (tourref2_coord.cok k) hmix Try.func94 (code := tourref2_coord.code) (by kernel_rfl) (by kernel_rfl) (by kernel_rfl) rfl rfl (by kernel_rfl) (by kernel_rfl) (by kernel_rfl) (fun x => Nat.le_of_ble_eq_true (by kernel_rfl)) fun x y hy => (tourref2_coord.way k x.1 x.2.1).ap hy

/-! tourney/tourref2.sub -/
noncomputable def tourref2_sub.code : Code := Func.cd Try.f119
def tourref2_sub (k : Nat) (a0 : V27) (a1 : V27) : Option V27 :=
  some ((isub .i64 a0.1 a1.1), (isub .i64 a0.2.1 a1.2.1), ())
noncomputable def tourref2_sub.sp (k : Nat) : Go.Sx.Spec := ⟨T35, (.one (.dp T27)), fun x => tourref2_sub k x.1 x.2.1, false⟩
noncomputable def tourref2_sub.cx (k : Nat) : Go.Sx.Ctx := ⟨tys, [], eqs, 16, 0, [], false⟩
theorem tourref2_sub.cok (k : Nat) : CtxOk PR (tourref2_sub.cx k) := ctx_ok tysOk eqsOk FnsOk.nil HsOk.nil
theorem tourref2_sub.way (k : Nat) (a0 : V27) (a1 : V27) : Owp (tourref2_sub k a0 a1) fun y => ∃ answers cmds, exec PR (tourref2_sub.cx k) tourref2_sub.code 0 (entry T35 (a0, a1, ())).st answers (Ret (tourref2_sub.cx k) Try.f119 cmds (.one (.dp T27)) y) := by
  unfold tourref2_sub; exact
   Owp.some (⟨[], [], via (retP trivial (.one (.dp T27)) (((isub .i64 a0.1 a1.1), (isub .i64 a0.2.1 a1.2.1), ()) : V27)) (by kernel_rfl)⟩)
theorem tourref2_sub.ok (k : Nat) : FnOk PR 119 (tourref2_sub.sp k) :=
  fn_ok (tourref2_sub.cok k) hmix Try.func119 (code := tourref2_sub.code) (by kernel_rfl) (by kernel_rfl) (by kernel_rfl) rfl rfl (by kernel_rfl) (by kernel_rfl) (by kernel_rfl) (fun x => Nat.le_of_ble_eq_true (by kernel_rfl)) fun x y hy => (tourref2_sub.way k x.1 x.2.1).ap hy

/-! tourney/tourref2.Cross -/
noncomputable def tourref2_Cross.code : Code := Func.cd Try.f160
def tourref2_Cross (k : Nat) (a0 : V27) (a1 : V27) : Option (List Int) :=
  bnd (tourref2_Of k a0.1) fun y1 =>
  bnd (tourref2_Of k a1.2.1) fun y3 =>
  bnd (tourref2_Big_Mul k y1 y3) fun y5 =>
  bnd (tourref2_Of k a0.2.1) fun y7 =>
  bnd (tourref2_Of k a1.1) fun y9 =>
  bnd (tourref2_Big_Mul k y7 y9) fun y11 =>
  bnd (tourref2_Big_Sub k y5 y11) fun y13 =>
  some y13
noncomputable def tourref2_Cross.sp (k : Nat) : Go.Sx.Spec := ⟨T35, (.one (.dp T130)), fun x => tourref2_Cross k x.1 x.2.1, false⟩
noncomputable def tourref2_Cross.cx (k : Nat) : Go.Sx.Ctx := ⟨tys, [(162, tourref2_Of.sp k), (163, tourref2_Big_Mul.sp k), (214, tourref2_Big_Sub.sp k)], eqs, 20, 0, [], false⟩
theorem tourref2_Cross.cok (k : Nat) : CtxOk PR (tourref2_Cross.cx k) := ctx_ok tysOk eqsOk (FnsOk.cons (tourref2_Of.ok k) (FnsOk.cons (tourref2_Big_Mul.ok k) (FnsOk.cons (tourref2_Big_Sub.ok k) FnsOk.nil))) HsOk.nil
theorem tourref2_Cross.way (k : Nat) (a0 : V27) (a1 : V27) : Owp (tourref2_Cross k a0 a1) fun y => ∃ answers cmds, exec PR (tourref2_Cross.cx k) tourref2_Cross.code 0 (entry T35 (a0, a1, ())).st answers (Ret (tourref2_Cross.cx k) Try.f160 cmds (.one (.dp T130)) y) := by
  unfold tourref2_Cross; exact
   Owp.bnd fun y1 e2 =>
   Owp.bnd fun y3 e4 =>
   Owp.bnd fun y5 e6 =>
   Owp.bnd fun y7 e8 =>
   Owp.bnd fun y9 e10 =>
   Owp.bnd fun y11 e12 =>
   Owp.bnd fun y13 e14 =>
   Owp.some (⟨[.res (.one (.dp T130)) y1, .res (.one (.dp T130)) y3, .res (.one (.dp T130)) y5, .res (.one (.dp T130)) y7, .res (.one (.dp T130)) y9, .res (.one (.dp T130)) y11, .res (.one (.dp T130)) y13], [], via (retP (And.intro (And.intro (And.intro (And.intro (And.intro (And.intro (And.intro trivial e2) e4) e6) e8) e10) e12) e14) (.one (.dp T130)) (y13 : (List Int))) (by kernel_rfl)⟩)
theorem tourref2_Cross.ok (k : Nat) : FnOk PR 160 (tourref2_Cross.sp k) :=
  fn_ok (tourref2_Cross.cok k) hmix Try.func160 (code := tourref2_Cross.code) (by kernel_rfl) (by kernel_rfl) (by kernel_rfl) rfl rfl (by kernel_rfl) (by kernel_rfl) (by kernel_rfl) (fun x => Nat.le_of_ble_eq_true (by kernel_rfl)) fun x y hy => (tourref2_Cross.way k x.1 x.2.1).ap hy

/-! tourney/tourref2.left -/
noncomputable def tourref2_left.code : Code := Func.cd Try.f114
def tourref2_left (k : Nat) (a0 : V27) (a1 : V27) (a2 : V27) : Option Int :=
  bnd (tourref2_sub k a1 a0) fun y1 =>
  bnd (tourref2_sub k a2 a0) fun y3 =>
  bnd (tourref2_Cross k y1 y3) fun y5 =>
  bnd (tourref2_Big_Cmp k y5 (List.replicate 8 0)) fun y7 =>
  some y7
noncomputable def tourref2_left.sp (k : Nat) : Go.Sx.Spec := ⟨(.pair T27 T35), (.one (.dp T2)), fun x => tourref2_left k x.1 x.2.1 x.2.2.1, false⟩
noncomputable def tourref2_left.cx (k : Nat) : Go.Sx.Ctx := ⟨tys, [(119, tourref2_sub.sp k), (160, tourref2_Cross.sp k), (120, tourref2_Big_Cmp.sp k)], eqs, 16, 0, [], false⟩
theorem tourref2_left.cok (k : Nat) : CtxOk PR (tourref2_left.cx k) := ctx_ok tysOk eqsOk (FnsOk.cons (tourref2_sub.ok k) (FnsOk.cons (tourref2_Cross.ok k) (FnsOk.cons (tourref2_Big_Cmp.ok k) FnsOk.nil))) HsOk.nil
theorem tourref2_left.way (k : Nat) (a0 : V27) (a1 : V27) (a2 : V27) : Owp (tourref2_left k a0 a1 a2) fun y => ∃ answers cmds, exec PR (tourref2_left.cx k) tourref2_left.code 0 (entry (.pair T27 T35) (a0, a1, a2, ())).st answers (Ret (tourref2_left.cx k) Try.f114 cmds (.one (.dp T2)) y) := by
  unfold tourref2_left; exact
   Owp.bnd fun y1 e2 =>
   Owp.bnd fun y3 e4 =>
   Owp.bnd fun y5 e6 =>
   Owp.bnd fun y7 e8 =>
   Owp.some (⟨[.res (.one (.dp T27)) y1, .res (.one (.dp T27)) y3, .res (.one (.dp T130)) y5, .res (.one (.dp T2)) y7], [], via (retP (And.intro (And.intro (And.intro (And.intro trivial e2) e4) e6) e8) (.one (.dp T2)) (y7 : Int)) (by kernel_rfl)⟩)
theorem tourref2_left.ok (k : Nat) : FnOk PR 114 (tourref2_left.sp k) :=
  fn_ok (tourref2_left.cok k) hmix Try.func114 (code := tourref2_left.code) (by kernel_rfl) (by kernel_rfl) (by kernel_rfl) rfl rfl (by kernel_rfl) (by kernel_rfl) (by kernel_rfl) (fun x => Nat.le_of_ble_eq_true (by kernel_rfl)) fun x y hy => (tourref2_left.way k x.1 x.2.1 x.2.2.1).ap hy

/-! tourney/tourref2.Dot -/
noncomputable def tourref2_Dot.code : Code := Func.cd Try.f118
def tourref2_Dot (k : Nat) (a0 : V27) (a1 : V27) : Option (List Int) :=
  bnd (tourref2_Of k a0.1) fun y1 =>
  bnd (tourref2_Of k a1.1) fun y3 =>
  bnd (tourref2_Big_Mul k y1 y3) fun y5 =>
  bnd (tourref2_Of k a0.2.1) fun y7 =>
  bnd (tourref2_Of k a1.2.1) fun y9 =>
  bnd (tourref2_Big_Mul k y7 y9) fun y11 =>
  bnd (tourref2_Big_Add k y5 y11) fun y13 =>
  some y13
noncomputable def tourref2_Dot.sp (k : Nat) : Go.Sx.Spec := ⟨T35, (.one (.dp T130)), fun x => tourref2_Dot k x.1 x.2.1, false⟩
noncomputable def tourref2_Dot.cx (k : Nat) : Go.Sx.Ctx := ⟨tys, [(162, tourref2_Of.sp k), (163, tourref2_Big_Mul.sp k), (164, tourref2_Big_Add.sp k)], eqs, 20, 0, [], false⟩
theorem tourref2_Dot.cok (k : Nat) : CtxOk PR (tourref2_Dot.cx k) := ctx_ok tysOk eqsOk (FnsOk.cons (tourref2_Of.ok k) (FnsOk.cons (tourref2_Big_Mul.ok k) (FnsOk.cons (tourref2_Big_Add.ok k) FnsOk.nil))) HsOk.nil
theorem tourref2_Dot.way (k : Nat) (a0 : V27) (a1 : V27) : Owp (tourref2_Dot k a0 a1) fun y => ∃ answers cmds, exec PR (tourref2_Dot.cx k) tourref2_Dot.code 0 (entry T35 (a0, a1, ())).st answers (Ret (tourref2_Dot.cx k) Try.f118 cmds (.one (.dp T130)) y) := by
  unfold tourref2_Dot; exact
   Owp.bnd fun y1 e2 =>
   Owp.bnd fun y3 e4 =>
   Owp.bnd fun y5 e6 =>
   Owp.bnd fun y7 e8 =>
   Owp.bnd fun y9 e10 =>
   Owp.bnd fun y11 e12 =>
   Owp.bnd fun y13 e14 =>
   Owp.some (⟨[.res (.one (.dp T130)) y1, .res (.one (.dp T130)) y3, .res (.one (.dp T130)) y5, .res (.one (.dp T130)) y7, .res (.one (.dp T130)) y9, .res (.one (.dp T130)) y11, .res (.one (.dp T130)) y13], [], via (retP (And.intro (And.intro (And.intro (And.intro (And.intro (And.intro (And.intro trivial e2) e4) e6) e8) e10) e12) e14) (.one (.dp T130)) (y13 : (List Int))) (by kernel_rfl)⟩)
theorem tourref2_Dot.ok (k : Nat) : FnOk PR 118 (tourref2_Dot.sp k) :=
  fn_ok (tourref2_Dot.cok k) hmix Try.func118 (code := tourref2_Dot.code) (by kernel_rfl) (by kernel_rfl) (by kernel_rfl) rfl rfl (by kernel_rfl) (by kernel_rfl) (by kernel_rfl) (fun x => Nat.le_of_ble_eq_true (by kernel_rfl)) fun x y hy => (tourref2_Dot.way k x.1 x.2.1).ap hy

/-! tourney/tourref2.Wrap -/
noncomputable def tourref2_Wrap.code : Code := Func.cd Try.f95
def tourref2_Wrap.c2 (k : Nat) (a0 : (List V27)) (v3 : Int) (v4 : V27) : Option (Bool) :=
  bif' (ilt (el Z27 a0 v3).2.1 v4.2.1)
  (some true)
  (bif' (ieq (el Z27 a0 v3).2.1 v4.2.1)
   (some (ilt (el Z27 a0 v3).1 v4.1))
   (some false))
def tourref2_Wrap.c1 (k : Nat) (a0 : (List V27)) : Nat → Int → V27 → Option (V27)
  | 0, _, _ => none
  | n + 1, v3, v4 =>
   bif' (ilt v3 (len a0))
   (req (inL v3 a0) <|
    bnd (tourref2_Wrap.c2 k a0 v3 v4) fun o9 =>
    bif' o9
    (tourref2_Wrap.c1 k a0 n (iadd .i64 v3 1) (el Z27 a0 v3))
    (tourref2_Wrap.c1 k a0 n (iadd .i64 v3 1) v4))
   (some v4)
def tourref2_Wrap.c5 (k : Nat) (a0 : (List V27)) (v14 : (List V27)) (v17 : Int) (v18 : V27) : Option (Int) :=
  bif' (Ty.eqb T27 v18 (el Z27 v14 (isub .i64 (len v14) (1 : Int))))
  (some 0)
  (bnd (tourref2_left k (el Z27 v14 (isub .i64 (len v14) 1)) v18 (el Z27 a0 v17)) fun y23 =>
   some y23)
def tourref2_Wrap.c6 (k : Nat) (a0 : (List V27)) (o25 : Int) (v14 : (List V27)) (v17 : Int) (v18 : V27) : Option (Bool) :=
  bif' (Ty.eqb T27 v18 (el Z27 v14 (isub .i64 (len v14) (1 : Int))))
  (some true)
  (bif' (ilt o25 0)
   (some true)
   (bif' (ieq o25 0)
    (bnd (tourref2_sub k (el Z27 a0 v17) (el Z27 v14 (isub .i64 (len v14) 1))) fun y30 =>
     bnd (tourref2_sub k (el Z27 a0 v17) (el Z27 v14 (isub .i64 (len v14) 1))) fun y32 =>
     bnd (tourref2_Dot k y30 y32) fun y34 =>
     bnd (tourref2_sub k v18 (el Z27 v14 (isub .i64 (len v14) 1))) fun y36 =>
     bnd (tourref2_sub k v18 (el Z27 v14 (isub .i64 (len v14) 1))) fun y38 =>
     bnd (tourref2_Dot k y36 y38) fun y40 =>
     bnd (tourref2_Big_Cmp k y34 y40) fun y42 =>
     some (igt y42 0))
    (some false)))
def tourref2_Wrap.c4 (k : Nat) (a0 : (List V27)) (v14 : (List V27)) : Nat → Int → V27 → Option (V27)
  | 0, _, _ => none
  | n + 1, v17, v18 =>
   bif' (ilt v17 (len a0))
   (req (inL v17 a0) <|
    bif' (Ty.eqb T27 (el Z27 a0 v17) (el Z27 v14 (isub .i64 (len v14) (1 : Int))))
    (tourref2_Wrap.c4 k a0 v14 n (iadd .i64 v17 1) v18)
    (bnd (tourref2_Wrap.c5 k a0 v14 v17 v18) fun o25 =>
     bnd (tourref2_Wrap.c6 k a0 o25 v14 v17 v18) fun o44 =>
     bif' o44
     (tourref2_Wrap.c4 k a0 v14 n (iadd .i64 v17 1) (el Z27 a0 v17))
     (tourref2_Wrap.c4 k a0 v14 n (iadd .i64 v17 1) v18)))
   (some v18)
def tourref2_Wrap.c7 (k : Nat) (o12 : V27) (o47 : V27) (v14 : (List V27)) : Option (Bool) :=
  bif' (Ty.eqb T27 o47 o12)
  (some true)
  (some (Ty.eqb T27 o47 (el Z27 v14 (isub .i64 (len v14) (1 : Int)))))
def tourref2_Wrap.c3 (k : Nat) (a0 : (List V27)) (o12 : V27) : Nat → (List V27) → Option ((List V27))
  | 0, _ => none
  | n + 1, v14 =>
   bif' (ile (len v14) (len a0))
   (req (inL (isub .i64 (len v14) 1) v14) <|
    bnd (tourref2_Wrap.c4 k a0 v14 k 0 (el Z27 v14 (isub .i64 (len v14) 1))) fun o47 =>
    bnd (tourref2_Wrap.c7 k o12 o47 v14) fun o50 =>
    bif' o50
    (some v14)
    (req (room 16 v14 [o47]) <|
     tourref2_Wrap.c3 k a0 o12 n (v14 ++ [o47])))
   (some v14)
def tourref2_Wrap (k : Nat) (a0 : (List V27)) : Option (List V27) :=
  bif' (ieq (len a0) 0)
  (some [])
  (req (inL 0 a0) <|
   bnd (tourref2_Wrap.c1 k a0 k 0 (el Z27 a0 0)) fun o12 =>
   bnd (tourref2_Wrap.c3 k a0 o12 k [o12]) fun o54 =>
   some o54)
noncomputable def tourref2_Wrap.sp (k : Nat) : Go.Sx.Spec := ⟨(.pair T22 .unit), (.one (.ow T27 28)), fun x => tourref2_Wrap k x.1, false⟩
noncomputable def tourref2_Wrap.cx (k : Nat) : Go.Sx.Ctx := ⟨tys, [(114, tourref2_left.sp k), (119, tourref2_sub.sp k), (118, tourref2_Dot.sp k), (120, tourref2_Big_Cmp.sp k)], eqs, 119, 0, [], false⟩
theorem tourref2_Wrap.cok (k : Nat) : CtxOk PR (tourref2_Wrap.cx k) := ctx_ok tysOk eqsOk (FnsOk.cons (tourref2_left.ok k) (FnsOk.cons (tourref2_sub.ok k) (FnsOk.cons (tourref2_Dot.ok k) (FnsOk.cons (tourref2_Big_Cmp.ok k) FnsOk.nil)))) HsOk.nil
noncomputable def tourref2_Wrap.c2p (a0 : (List V27)) (v3 : Int) (v4 : V27) : SL := ⟨[(0, (.val T22 a0)), (3, (.val .ptr ⟨0, 0, (0 : Int), 0, 0⟩)), (5, (.val .ptr ⟨1, 0, (0 : Int), 0, 0⟩)), (18, (.val T22 a0)), (19, (.val T2 (len a0))), (20, (.val T2 v3))], [(0, .cells T27 v4), (1, .cells T27 (el Z27 a0 v3))]⟩
noncomputable def tourref2_Wrap.c2q (a0 : (List V27)) (v3 : Int) (v4 : V27) (o : Bool) : SL := (fun v => ⟨[(0, (.val T22 a0)), (3, (.val .ptr ⟨0, 0, (0 : Int), 0, 0⟩)), (5, (.val .ptr ⟨1, 0, (0 : Int), 0, 0⟩)), (18, (.val T22 a0)), (19, (.val T2 (len a0))), (20, (.val T2 v3)), (42, (.val T4 v))], [(0, .cells T27 v4), (1, .cells T27 (el Z27 a0 v3))]⟩) o
noncomputable def tourref2_Wrap.c2x (o : Bool) : Ex := (fun _ => .normal) o
noncomputable def tourref2_Wrap.c2n (o : Bool) : Nat := (fun _ => 2) o
theorem tourref2_Wrap.c2_ok (k : Nat) (a0 : (List V27)) (v3 : Int) (v4 : V27) : Owp (tourref2_Wrap.c2 k a0 v3 v4) fun o => Triple PR (tourref2_Wrap.cx k) (sub tourref2_Wrap.code [1, 1, 1, 0, 1, 0, 0, 1, 1, 0, 0, 1, 0]) 2 (tourref2_Wrap.c2p a0 v3 v4) (tourref2_Wrap.c2x o) (tourref2_Wrap.c2n o) (tourref2_Wrap.c2q a0 v3 v4 o) := by
  unfold tourref2_Wrap.c2; exact
   Owp.bif (fun e7 =>
   Owp.some (triple_way (tourref2_Wrap.cok k) hmix [.dec true, .dec true, .dec true, .dec true, .dec true, .dec true, .dec true, .dec true, .dec true, .dec true, .dec true, .dec true, .dec true, .dec true] [] [(0, 0), (1, 1)] (via (finP (And.intro (And.intro (And.intro (And.intro (And.intro (And.intro (And.intro (And.intro trivial e7) e7) e7) e7) e7) e7) e7) e7) .normal [(0, 0), (1, 1)] (tourref2_Wrap.c2q a0 v3 v4 true)) (by kernel_rfl)))) (fun e7 =>
   Owp.bif (fun e8 =>
    Owp.some (triple_way (tourref2_Wrap.cok k) hmix [.dec false, .dec false, .dec false, .dec false, .dec false, .dec false, .dec true, .dec true, .dec true, .dec true, .dec true, .dec false, .dec true, .dec false] [] [(0, 0), (1, 1)] (via (finP (And.intro (And.intro (And.intro (And.intro (And.intro (And.intro (And.intro (And.intro (And.intro (And.intro (And.intro (And.intro (And.intro trivial e7) e7) e7) e7) e7) e7) e8) e8) e8) e8) e8) (And.intro e7 e8)) e7) .normal [(0, 0), (1, 1)] (tourref2_Wrap.c2q a0 v3 v4 (ilt (el Z27 a0 v3).1 v4.1))) (by kernel_rfl)))) (fun e8 =>
    Owp.some (triple_way (tourref2_Wrap.cok k) hmix [.dec false, .dec false, .dec false, .dec false, .dec false, .dec false, .dec false, .dec false, .dec false, .dec false, .dec false, .dec false, .dec false, .dec false] [] [(0, 0), (1, 1)] (via (finP (And.intro (And.intro (And.intro (And.intro (And.intro (And.intro (And.intro (And.intro (And.intro (And.intro (And.intro (And.intro (And.intro trivial e7) e7) e7) e7) e7) e7) e8) e8) e8) e8) e8) (And.intro e7 e8)) e7) .normal [(0, 0), (1, 1)] (tourref2_Wrap.c2q a0 v3 v4 false)) (by kernel_rfl)))))
noncomputable def tourref2_Wrap.c1p (a0 : (List V27)) (v3 : Int) (v4 : V27) : SL := ⟨[(0, (.val T22 a0)), (3, (.val .ptr ⟨0, 0, (0 : Int), 0, 0⟩)), (18, (.val T22 a0)), (19, (.val T2 (len a0))), (20, (.val T2 v3))], [(0, .cells T27 v4)]⟩
noncomputable def tourref2_Wrap.c1q (a0 : (List V27)) (o : V27) : SL := (fun v => ⟨[(0, (.val T22 a0)), (3, (.val .ptr ⟨0, 0, (0 : Int), 0, 0⟩))], [(0, .cells T27 v)]⟩) o
noncomputable def tourref2_Wrap.c1x (o : V27) : Ex := (fun _ => (.exit 0)) o
noncomputable def tourref2_Wrap.c1n (o : V27) : Nat := (fun _ => 1) o
theorem tourref2_Wrap.c1_ok (k : Nat) (a0 : (List V27)) : ∀ (n : Nat) (v3 : Int) (v4 : V27), Owp (tourref2_Wrap.c1 k a0 n v3 v4) fun o => LTriple PR (tourref2_Wrap.cx k) (sub tourref2_Wrap.code [1, 1, 1, 0, 1, 0, 0]) 1 (tourref2_Wrap.c1p a0 v3 v4) (tourref2_Wrap.c1x o) (tourref2_Wrap.c1n o) (tourref2_Wrap.c1q a0 o)
  | 0, _, _ => fun _ h => nomatch h
  | n + 1, v3, v4 => Owp.of (tourref2_Wrap.c1.eq_2 ..) (
   Owp.bif (fun e5 =>
   Owp.req fun h6 =>
    Owp.bnd fun o9 e10 =>
    Owp.bif (fun e11 =>
    fun y hy => loop_back (tourref2_Wrap.cok k) hmix 1 (tourref2_Wrap.c1p a0 (iadd .i64 v3 (1 : Int)) (el Z27 a0 v3)) [.dec true, .cutR 7 ⟨[], [(0, 0), (1, 4)], (tourref2_Wrap.c2p a0 v3 v4), 2, .normal, (tourref2_Wrap.c2q a0 v3 v4 o9), 2⟩, .dec true] [] [(0, 0)] (via (cutP (And.intro (And.intro trivial e5) h6) [(0, 0), (1, 4)] (tourref2_Wrap.c2p a0 v3 v4) (((tourref2_Wrap.c2_ok k a0 v3 v4).ap e10)) (finP (And.intro trivial e11) .normal [(0, 0)] (tourref2_Wrap.c1p a0 (iadd .i64 v3 (1 : Int)) (el Z27 a0 v3)))) (by kernel_rfl)) ((tourref2_Wrap.c1_ok k a0 n (iadd .i64 v3 (1 : Int)) (el Z27 a0 v3)).ap hy)) (fun e11 =>
    fun y hy => loop_back (tourref2_Wrap.cok k) hmix 1 (tourref2_Wrap.c1p a0 (iadd .i64 v3 (1 : Int)) v4) [.dec true, .cutR 7 ⟨[], [(0, 0), (1, 4)], (tourref2_Wrap.c2p a0 v3 v4), 2, .normal, (tourref2_Wrap.c2q a0 v3 v4 o9), 2⟩, .dec false] [] [(0, 0)] (via (cutP (And.intro (And.intro trivial e5) h6) [(0, 0), (1, 4)] (tourref2_Wrap.c2p a0 v3 v4) (((tourref2_Wrap.c2_ok k a0 v3 v4).ap e10)) (finP (And.intro trivial e11) .normal [(0, 0)] (tourref2_Wrap.c1p a0 (iadd .i64 v3 (1 : Int)) v4))) (by kernel_rfl)) ((tourref2_Wrap.c1_ok k a0 n (iadd .i64 v3 (1 : Int)) v4).ap hy))) (fun e5 =>
   Owp.some (loop_exit (tourref2_Wrap.cok k) hmix [.dec false] [] [(0, 0)] (exne 0) (via (finP (And.intro trivial e5) (.exit 0) [(0, 0)] (tourref2_Wrap.c1q a0 v4)) (by kernel_rfl)))))
noncomputable def tourref2_Wrap.c5p (a0 : (List V27)) (o12 : V27) (v14 : (List V27)) (v17 : Int) (v18 : V27) : SL := ⟨[(0, (.val T22 a0)), (3, (.val .ptr ⟨0, 0, (0 : Int), 0, 0⟩)), (6, (.val .own (1 : Nat))), (7, (.val .ptr ⟨2, 0, (0 : Int), 0, 0⟩)), (8, (.val .ptr ⟨3, 0, (0 : Int), 0, 0⟩)), (10, (.val .ptr ⟨4, 0, (0 : Int), 0, 0⟩)), (11, (.val T2 (0 : Int))), (59, (.val T22 a0)), (60, (.val T2 (len a0))), (61, (.val T2 v17)), (70, (.val T4 (!(Ty.eqb T27 v18 (el Z27 v14 (isub .i64 (len v14) (1 : Int)))))))], [(0, .cells T27 o12), (1, .row T27 v14 28), (2, .cells T27 (el Z27 v14 (isub .i64 (len v14) (1 : Int)))), (3, .cells T27 v18), (4, .cells T27 (el Z27 a0 v17))]⟩
noncomputable def tourref2_Wrap.c5q (a0 : (List V27)) (o12 : V27) (v14 : (List V27)) (v17 : Int) (v18 : V27) (o : Int) : SL := (fun v => ⟨[(0, (.val T22 a0)), (3, (.val .ptr ⟨0, 0, (0 : Int), 0, 0⟩)), (6, (.val .own (1 : Nat))), (7, (.val .ptr ⟨2, 0, (0 : Int), 0, 0⟩)), (8, (.val .ptr ⟨3, 0, (0 : Int), 0, 0⟩)), (10, (.val .ptr ⟨4, 0, (0 : Int), 0, 0⟩)), (11, (.val T2 v)), (59, (.val T22 a0)), (60, (.val T2 (len a0))), (61, (.val T2 v17))], [(0, .cells T27 o12), (1, .row T27 v14 28), (2, .cells T27 (el Z27 v14 (isub .i64 (len v14) (1 : Int)))), (3, .cells T27 v18), (4, .cells T27 (el Z27 a0 v17))]⟩) o
noncomputable def tourref2_Wrap.c5x (o : Int) : Ex := (fun _ => .normal) o
noncomputable def tourref2_Wrap.c5n (o : Int) : Nat := (fun _ => 5) o
theorem tourref2_Wrap.c5_ok (k : Nat) (a0 : (List V27)) (o12 : V27) (v14 : (List V27)) (v17 : Int) (v18 : V27) : Owp (tourref2_Wrap.c5 k a0 v14 v17 v18) fun o => Triple PR (tourref2_Wrap.cx k) (sub tourref2_Wrap.code [1, 1, 1, 1, 1, 0, 0, 0, 1, 0, 1, 1, 0, 1, 0, 0, 1, 1, 0, 0, 1, 1, 1, 0, 1]) 5 (tourref2_Wrap.c5p a0 o12 v14 v17 v18) (tourref2_Wrap.c5x o) (tourref2_Wrap.c5n o) (tourref2_Wrap.c5q a0 o12 v14 v17 v18 o) := by
  unfold tourref2_Wrap.c5; exact
   Owp.bif (fun e22 =>
   Owp.some (triple_way (tourref2_Wrap.cok k) hmix [.dec false] [] [(0, 0), (1, 1), (2, 2), (3, 3), (4, 4)] (via (finP (And.intro trivial (congrArg not e22)) .normal [(0, 0), (1, 1), (2, 2), (3, 3), (4, 4)] (tourref2_Wrap.c5q a0 o12 v14 v17 v18 (0 : Int))) (by kernel_rfl)))) (fun e22 =>
   Owp.bnd fun y23 e24 =>
    Owp.some (triple_way (tourref2_Wrap.cok k) hmix [.dec true, .res (.one (.dp T2)) y23] [] [(0, 0), (1, 1), (2, 2), (3, 3), (4, 4)] (via (finP (And.intro (And.intro trivial (congrArg not e22)) e24) .normal [(0, 0), (1, 1), (2, 2), (3, 3), (4, 4)] (tourref2_Wrap.c5q a0 o12 v14 v17 v18 y23)) (by kernel_rfl))))
noncomputable def tourref2_Wrap.c6p (a0 : (List V27)) (o12 : V27) (o25 : Int) (v14 : (List V27)) (v17 : Int) (v18 : V27) : SL := ⟨[(0, (.val T22 a0)), (3, (.val .ptr ⟨0, 0, (0 : Int), 0, 0⟩)), (6, (.val .own (1 : Nat))), (7, (.val .ptr ⟨2, 0, (0 : Int), 0, 0⟩)), (8, (.val .ptr ⟨3, 0, (0 : Int), 0, 0⟩)), (10, (.val .ptr ⟨4, 0, (0 : Int), 0, 0⟩)), (11, (.val T2 o25)), (59, (.val T22 a0)), (60, (.val T2 (len a0))), (61, (.val T2 v17))], [(0, .cells T27 o12), (1, .row T27 v14 28), (2, .cells T27 (el Z27 v14 (isub .i64 (len v14) (1 : Int)))), (3, .cells T27 v18), (4, .cells T27 (el Z27 a0 v17))]⟩
noncomputable def tourref2_Wrap.c6q (a0 : (List V27)) (o12 : V27) (v14 : (List V27)) (v17 : Int) (v18 : V27) (o : Bool) : SL := (fun v => ⟨[(0, (.val T22 a0)), (3, (.val .ptr ⟨0, 0, (0 : Int), 0, 0⟩)), (6, (.val .own (1 : Nat))), (7, (.val .ptr ⟨2, 0, (0 : Int), 0, 0⟩)), (8, (.val .ptr ⟨3, 0, (0 : Int), 0, 0⟩)), (10, (.val .ptr ⟨4, 0, (0 : Int), 0, 0⟩)), (59, (.val T22 a0)), (60, (.val T2 (len a0))), (61, (.val T2 v17)), (103, (.val T4 v))], [(0, .cells T27 o12), (1, .row T27 v14 28), (2, .cells T27 (el Z27 v14 (isub .i64 (len v14) (1 : Int)))), (3, .cells T27 v18), (4, .cells T27 (el Z27 a0 v17))]⟩) o
noncomputable def tourref2_Wrap.c6x (o : Bool) : Ex := (fun _ => .normal) o
noncomputable def tourref2_Wrap.c6n (o : Bool) : Nat := (fun _ => 5) o
theorem tourref2_Wrap.c6_ok (k : Nat) (a0 : (List V27)) (o12 : V27) (o25 : Int) (v14 : (List V27)) (v17 : Int) (v18 : V27) : Owp (tourref2_Wrap.c6 k a0 o25 v14 v17 v18) fun o => Triple PR (tourref2_Wrap.cx k) (sub tourref2_Wrap.code [1, 1, 1, 1, 1, 0, 0, 0, 1, 0, 1, 1, 0, 1, 0, 0, 1, 1, 0, 0, 1, 1, 1, 1, 0]) 5 (tourref2_Wrap.c6p a0 o12 o25 v14 v17 v18) (tourref2_Wrap.c6x o) (tourref2_Wrap.c6n o) (tourref2_Wrap.c6q a0 o12 v14 v17 v18 o) := by
  unfold tourref2_Wrap.c6; exact
   Owp.bif (fun e27 =>
   Owp.some (triple_way (tourref2_Wrap.cok k) hmix [.dec true, .dec true, .dec true, .dec true, .dec true, .dec true, .dec true, .dec true, .dec true, .dec true, .dec true, .dec true, .dec true, .dec true, .dec true, .dec true, .dec true, .dec true, .dec true, .dec true, .dec true, .dec true, .dec true, .dec true, .dec true, .dec true, .dec true, .dec true, .dec true, .dec true, .dec true, .dec true] [] [(0, 0), (1, 1), (2, 2), (3, 3), (4, 4)] (via (finP (And.intro (And.intro (And.intro (And.intro (And.intro (And.intro (And.intro (And.intro trivial e27) e27) e27) tt) tt) tt) tt) tt) .normal [(0, 0), (1, 1), (2, 2), (3, 3), (4, 4)] (tourref2_Wrap.c6q a0 o12 v14 v17 v18 true)) (by kernel_rfl)))) (fun e27 =>
   Owp.bif (fun e28 =>
    Owp.some (triple_way (tourref2_Wrap.cok k) hmix [.dec false, .dec false, .dec false, .dec true, .dec true, .dec true, .dec true, .dec true, .dec true, .dec true, .dec true, .dec true, .dec true, .dec true, .dec true, .dec true, .dec true, .dec true, .dec true, .dec true, .dec true, .dec true, .dec true, .dec true, .dec true, .dec true, .dec true, .dec true, .dec true, .dec true, .dec true, .dec true] [] [(0, 0), (1, 1), (2, 2), (3, 3), (4, 4)] (via (finP (And.intro (And.intro (And.intro (And.intro (And.intro (And.intro (And.intro (And.intro trivial e27) e27) e27) e28) e28) e28) e28) e28) .normal [(0, 0), (1, 1), (2, 2), (3, 3), (4, 4)] (tourref2_Wrap.c6q a0 o12 v14 v17 v18 true)) (by kernel_rfl)))) (fun e28 =>
    Owp.bif (fun e29 =>
     Owp.bnd fun y30 e31 =>
      Owp.bnd fun y32 e33 =>
      Owp.bnd fun y34 e35 =>
      Owp.bnd fun y36 e37 =>
      Owp.bnd fun y38 e39 =>
      Owp.bnd fun y40 e41 =>
      Owp.bnd fun y42 e43 =>
      Owp.some (triple_way (tourref2_Wrap.cok k) hmix [.dec false, .dec false, .dec false, .dec false, .dec false, .dec false, .dec true, .dec true, .dec true, .res (.one (.dp T27)) y30, .dec true, .dec true, .dec true, .res (.one (.dp T27)) y32, .dec true, .res (.one (.dp T130)) y34, .dec true, .dec true, .dec true, .res (.one (.dp T27)) y36, .dec true, .dec true, .dec true, .res (.one (.dp T27)) y38, .dec true, .res (.one (.dp T130)) y40, .dec true, .res (.one (.dp T2)) y42, .dec true, .dec false, .dec true, .dec false] [] [(0, 0), (1, 1), (2, 2), (3, 3), (4, 4)] (via (finP (And.intro (And.intro (And.intro (And.intro (And.intro (And.intro (And.intro (And.intro (And.intro (And.intro (And.intro (And.intro (And.intro (And.intro (And.intro (And.intro (And.intro (And.intro (And.intro (And.intro (And.intro (And.intro (And.intro (And.intro trivial e27) e27) e27) e28) e28) e28) e29) e29) (And.intro e29 e31)) e29) e29) (And.intro e29 e33)) (And.intro e29 e35)) e29) e29) (And.intro e29 e37)) e29) e29) (And.intro e29 e39)) (And.intro e29 e41)) (And.intro e29 e43)) e29) (And.intro e28 e29)) e28) .normal [(0, 0), (1, 1), (2, 2), (3, 3), (4, 4)] (tourref2_Wrap.c6q a0 o12 v14 v17 v18 (igt y42 (0 : Int)))) (by kernel_rfl)))) (fun e29 =>
     Owp.some (triple_way (tourref2_Wrap.cok k) hmix [.dec false, .dec false, .dec false, .dec false, .dec false, .dec false, .dec false, .dec false, .dec false, .dec true, .dec false, .dec false, .dec false, .dec true, .dec false, .dec true, .dec false, .dec false, .dec false, .dec true, .dec false, .dec false, .dec false, .dec true, .dec false, .dec true, .dec false, .dec true, .dec false, .dec false, .dec false, .dec false] [] [(0, 0), (1, 1), (2, 2), (3, 3), (4, 4)] (via (finP (And.intro (And.intro (And.intro (And.intro (And.intro (And.intro (And.intro (And.intro (And.intro (And.intro (And.intro (And.intro (And.intro (And.intro (And.intro (And.intro (And.intro (And.intro (And.intro (And.intro (And.intro (And.intro (And.intro (And.intro trivial e27) e27) e27) e28) e28) e28) e29) e29) e29) e29) e29) e29) e29) e29) e29) e29) e29) e29) e29) e29) e29) e29) (And.intro e28 e29)) e28) .normal [(0, 0), (1, 1), (2, 2), (3, 3), (4, 4)] (tourref2_Wrap.c6q a0 o12 v14 v17 v18 false)) (by kernel_rfl))))))
noncomputable def tourref2_Wrap.c4p (a0 : (List V27)) (o12 : V27) (v14 : (List V27)) (v17 : Int) (v18 : V27) : SL := ⟨[(0, (.val T22 a0)), (3, (.val .ptr ⟨0, 0, (0 : Int), 0, 0⟩)), (6, (.val .own (1 : Nat))), (7, (.val .ptr ⟨2, 0, (0 : Int), 0, 0⟩)), (8, (.val .ptr ⟨3, 0, (0 : Int), 0, 0⟩)), (59, (.val T22 a0)), (60, (.val T2 (len a0))), (61, (.val T2 v17))], [(0, .cells T27 o12), (1, .row T27 v14 28), (2, .cells T27 (el Z27 v14 (isub .i64 (len v14) (1 : Int)))), (3, .cells T27 v18)]⟩
noncomputable def tourref2_Wrap.c4q (a0 : (List V27)) (o12 : V27) (v14 : (List V27)) (o : V27) : SL := (fun v => ⟨[(0, (.val T22 a0)), (3, (.val .ptr ⟨0, 0, (0 : Int), 0, 0⟩)), (6, (.val .own (1 : Nat))), (7, (.val .ptr ⟨2, 0, (0 : Int), 0, 0⟩)), (8, (.val .ptr ⟨3, 0, (0 : Int), 0, 0⟩))], [(0, .cells T27 o12), (1, .row T27 v14 28), (2, .cells T27 (el Z27 v14 (isub .i64 (len v14) (1 : Int)))), (3, .cells T27 v)]⟩) o
noncomputable def tourref2_Wrap.c4x (o : V27) : Ex := (fun _ => (.exit 4)) o
noncomputable def tourref2_Wrap.c4n (o : V27) : Nat := (fun _ => 4) o
theorem tourref2_Wrap.c4_ok (k : Nat) (a0 : (List V27)) (o12 : V27) (v14 : (List V27)) : ∀ (n : Nat) (v17 : Int) (v18 : V27), Owp (tourref2_Wrap.c4 k a0 v14 n v17 v18) fun o => LTriple PR (tourref2_Wrap.cx k) (sub tourref2_Wrap.code [1, 1, 1, 1, 1, 0, 0, 0, 1, 0, 1, 1, 0, 1, 0, 0]) 4 (tourref2_Wrap.c4p a0 o12 v14 v17 v18) (tourref2_Wrap.c4x o) (tourref2_Wrap.c4n o) (tourref2_Wrap.c4q a0 o12 v14 o)
  | 0, _, _ => fun _ h => nomatch h
  | n + 1, v17, v18 => Owp.of (tourref2_Wrap.c4.eq_2 ..) (
   Owp.bif (fun e19 =>
   Owp.req fun h20 =>
    Owp.bif (fun e21 =>
    fun y hy => loop_back (tourref2_Wrap.cok k) hmix 4 (tourref2_Wrap.c4p a0 o12 v14 (iadd .i64 v17 (1 : Int)) v18) [.dec true, .dec true] [] [(0, 0), (1, 1), (2, 2), (3, 3)] (via (finP (And.intro (And.intro (And.intro trivial e19) h20) e21) .normal [(0, 0), (1, 1), (2, 2), (3, 3)] (tourref2_Wrap.c4p a0 o12 v14 (iadd .i64 v17 (1 : Int)) v18)) (by kernel_rfl)) ((tourref2_Wrap.c4_ok k a0 o12 v14 n (iadd .i64 v17 (1 : Int)) v18).ap hy)) (fun e21 =>
    Owp.bnd fun o25 e26 =>
     Owp.bnd fun o44 e45 =>
     Owp.bif (fun e46 =>
     fun y hy => loop_back (tourref2_Wrap.cok k) hmix 4 (tourref2_Wrap.c4p a0 o12 v14 (iadd .i64 v17 (1 : Int)) (el Z27 a0 v17)) [.dec true, .dec false, .cut ⟨[], [(0, 0), (1, 1), (2, 2), (3, 3), (4, 7)], (tourref2_Wrap.c5p a0 o12 v14 v17 v18), 5, .normal, (tourref2_Wrap.c5q a0 o12 v14 v17 v18 o25), 5⟩, .cutR 21 ⟨[], [(0, 0), (1, 1), (2, 2), (3, 3), (4, 4)], (tourref2_Wrap.c6p a0 o12 o25 v14 v17 v18), 5, .normal, (tourref2_Wrap.c6q a0 o12 v14 v17 v18 o44), 5⟩, .dec true] [] [(0, 0), (1, 1), (2, 2), (3, 3)] (via (cutP (And.intro (And.intro (And.intro trivial e19) h20) e21) [(0, 0), (1, 1), (2, 2), (3, 3), (4, 7)] (tourref2_Wrap.c5p a0 o12 v14 v17 v18) (((tourref2_Wrap.c5_ok k a0 o12 v14 v17 v18).ap e26)) (cutP trivial [(0, 0), (1, 1), (2, 2), (3, 3), (4, 4)] (tourref2_Wrap.c6p a0 o12 o25 v14 v17 v18) (((tourref2_Wrap.c6_ok k a0 o12 o25 v14 v17 v18).ap e45)) (finP (And.intro trivial e46) .normal [(0, 0), (1, 1), (2, 2), (3, 3)] (tourref2_Wrap.c4p a0 o12 v14 (iadd .i64 v17 (1 : Int)) (el Z27 a0 v17))))) (by kernel_rfl)) ((tourref2_Wrap.c4_ok k a0 o12 v14 n (iadd .i64 v17 (1 : Int)) (el Z27 a0 v17)).ap hy)) (fun e46 =>
     fun y hy => loop_back (tourref2_Wrap.cok k) hmix 4 (tourref2_Wrap.c4p a0 o12 v14 (iadd .i64 v17 (1 : Int)) v18) [.dec true, .dec false, .cut ⟨[], [(0, 0), (1, 1), (2, 2), (3, 3), (4, 7)], (tourref2_Wrap.c5p a0 o12 v14 v17 v18), 5, .normal, (tourref2_Wrap.c5q a0 o12 v14 v17 v18 o25), 5⟩, .cutR 21 ⟨[], [(0, 0), (1, 1), (2, 2), (3, 3), (4, 4)], (tourref2_Wrap.c6p a0 o12 o25 v14 v17 v18), 5, .normal, (tourref2_Wrap.c6q a0 o12 v14 v17 v18 o44), 5⟩, .dec false] [] [(0, 0), (1, 1), (2, 2), (3, 3)] (via (cutP (And.intro (And.intro (And.intro trivial e19) h20) e21) [(0, 0), (1, 1), (2, 2), (3, 3), (4, 7)] (tourref2_Wrap.c5p a0 o12 v14 v17 v18) (((tourref2_Wrap.c5_ok k a0 o12 v14 v17 v18).ap e26)) (cutP trivial [(0, 0), (1, 1), (2, 2), (3, 3), (4, 4)] (tourref2_Wrap.c6p a0 o12 o25 v14 v17 v18) (((tourref2_Wrap.c6_ok k a0 o12 o25 v14 v17 v18).ap e45)) (finP (And.intro trivial e46) .normal [(0, 0), (1, 1), (2, 2), (3, 3)] (tourref2_Wrap.c4p a0 o12 v14 (iadd .i64 v17 (1 : Int)) v18)))) (by kernel_rfl)) ((tourref2_Wrap.c4_ok k a0 o12 v14 n (iadd .i64 v17 (1 : Int)) v18).ap hy)))) (fun e19 =>
   Owp.some (loop_exit (tourref2_Wrap.cok k) hmix [.dec false] [] [(0, 0), (1, 1), (2, 2), (3, 3)] (exne 4) (via (finP (And.intro trivial e19) (.exit 4) [(0, 0), (1, 1), (2, 2), (3, 3)] (tourref2_Wrap.c4q a0 o12 v14 v18)) (by kernel_rfl)))))
noncomputable def tourref2_Wrap.c7p (a0 : (List V27)) (o12 : V27) (o47 : V27) (v14 : (List V27)) : SL := ⟨[(0, (.val T22 a0)), (3, (.val .ptr ⟨0, 0, (0 : Int), 0, 0⟩)), (6, (.val .own (1 : Nat))), (7, (.val .ptr ⟨2, 0, (0 : Int), 0, 0⟩)), (8, (.val .ptr ⟨3, 0, (0 : Int), 0, 0⟩))], [(0, .cells T27 o12), (1, .row T27 v14 28), (2, .cells T27 (el Z27 v14 (isub .i64 (len v14) (1 : Int)))), (3, .cells T27 o47)]⟩
noncomputable def tourref2_Wrap.c7q (a0 : (List V27)) (o12 : V27) (o47 : V27) (v14 : (List V27)) (o : Bool) : SL := (fun v => ⟨[(0, (.val T22 a0)), (3, (.val .ptr ⟨0, 0, (0 : Int), 0, 0⟩)), (6, (.val .own (1 : Nat))), (8, (.val .ptr ⟨2, 0, (0 : Int), 0, 0⟩)), (113, (.val T4 v))], [(0, .cells T27 o12), (1, .row T27 v14 28), (2, .cells T27 o47)]⟩) o
noncomputable def tourref2_Wrap.c7x (o : Bool) : Ex := (fun _ => .normal) o
noncomputable def tourref2_Wrap.c7n (o : Bool) : Nat := (fun _ => 3) o
theorem tourref2_Wrap.c7_ok (k : Nat) (a0 : (List V27)) (o12 : V27) (o47 : V27) (v14 : (List V27)) : Owp (tourref2_Wrap.c7 k o12 o47 v14) fun o => Triple PR (tourref2_Wrap.cx k) (sub tourref2_Wrap.code [1, 1, 1, 1, 1, 0, 0, 0, 1, 0, 1, 1, 1, 0, 0]) 4 (tourref2_Wrap.c7p a0 o12 o47 v14) (tourref2_Wrap.c7x o) (tourref2_Wrap.c7n o) (tourref2_Wrap.c7q a0 o12 o47 v14 o) := by
  unfold tourref2_Wrap.c7; exact
   Owp.bif (fun e49 =>
   Owp.some (triple_way (tourref2_Wrap.cok k) hmix [.dec true, .dec true, .dec true, .dec true] [] [(0, 0), (1, 1), (2, 3)] (via (finP (And.intro (And.intro (And.intro (And.intro trivial e49) e49) e49) e49) .normal [(0, 0), (1, 1), (2, 3)] (tourref2_Wrap.c7q a0 o12 o47 v14 true)) (by kernel_rfl)))) (fun e49 =>
   Owp.some (triple_way (tourref2_Wrap.cok k) hmix [.dec false, .dec false, .dec false, .dec false] [] [(0, 0), (1, 1), (2, 3)] (via (finP (And.intro (And.intro (And.intro (And.intro trivial e49) e49) e49) e49) .normal [(0, 0), (1, 1), (2, 3)] (tourref2_Wrap.c7q a0 o12 o47 v14 (Ty.eqb T27 o47 (el Z27 v14 (isub .i64 (len v14) (1 : Int)))))) (by kernel_rfl))))
noncomputable def tourref2_Wrap.c3p (a0 : (List V27)) (o12 : V27) (v14 : (List V27)) : SL := ⟨[(0, (.val T22 a0)), (3, (.val .ptr ⟨0, 0, (0 : Int), 0, 0⟩)), (6, (.val .own (1 : Nat)))], [(0, .cells T27 o12), (1, .row T27 v14 28)]⟩
noncomputable def tourref2_Wrap.c3q (o : (List V27)) : SL := (fun v => ⟨[(6, (.val .own (0 : Nat)))], [(0, .row T27 v 28)]⟩) o
noncomputable def tourref2_Wrap.c3x (o : (List V27)) : Ex := (fun _ => (.exit 2)) o
noncomputable def tourref2_Wrap.c3n (o : (List V27)) : Nat := (fun _ => 1) o
theorem tourref2_Wrap.c3_ok (k : Nat) (a0 : (List V27)) (o12 : V27) : ∀ (n : Nat) (v14 : (List V27)), Owp (tourref2_Wrap.c3 k a0 o12 n v14) fun o => LTriple PR (tourref2_Wrap.cx k) (sub tourref2_Wrap.code [1, 1, 1, 1, 1, 0, 0, 0]) 2 (tourref2_Wrap.c3p a0 o12 v14) (tourref2_Wrap.c3x o) (tourref2_Wrap.c3n o) (tourref2_Wrap.c3q o)
  | 0, _ => fun _ h => nomatch h
  | n + 1, v14 => Owp.of (tourref2_Wrap.c3.eq_2 ..) (
   Owp.bif (fun e15 =>
   Owp.req fun h16 =>
    Owp.bnd fun o47 e48 =>
    Owp.bnd fun o50 e51 =>
    Owp.bif (fun e52 =>
    Owp.some (loop_exit (tourref2_Wrap.cok k) hmix [.dec true, .cut ⟨[], [(0, 0), (1, 1), (2, 13), (3, 16)], (tourref2_Wrap.c4p a0 o12 v14 (0 : Int) (el Z27 v14 (isub .i64 (len v14) (1 : Int)))), 4, (.exit 4), (tourref2_Wrap.c4q a0 o12 v14 o47), 4⟩, .cutR 24 ⟨[], [(0, 0), (1, 1), (2, 2), (3, 3)], (tourref2_Wrap.c7p a0 o12 o47 v14), 4, .normal, (tourref2_Wrap.c7q a0 o12 o47 v14 o50), 3⟩, .dec true] [] [(0, 1)] (exne 2) (via (cutP (And.intro (And.intro (And.intro trivial e15) h16) h16) [(0, 0), (1, 1), (2, 13), (3, 16)] (tourref2_Wrap.c4p a0 o12 v14 (0 : Int) (el Z27 v14 (isub .i64 (len v14) (1 : Int)))) (((tourref2_Wrap.c4_ok k a0 o12 v14 k (0 : Int) (el Z27 v14 (isub .i64 (len v14) (1 : Int)))).ap e48).triple) (cutP trivial [(0, 0), (1, 1), (2, 2), (3, 3)] (tourref2_Wrap.c7p a0 o12 o47 v14) (((tourref2_Wrap.c7_ok k a0 o12 o47 v14).ap e51)) (finP (And.intro trivial e52) (.exit 2) [(0, 1)] (tourref2_Wrap.c3q v14)))) (by kernel_rfl)))) (fun e52 =>
    Owp.req fun h53 =>
     fun y hy => loop_back (tourref2_Wrap.cok k) hmix 2 (tourref2_Wrap.c3p a0 o12 (v14 ++ [o47])) [.dec true, .cut ⟨[], [(0, 0), (1, 1), (2, 13), (3, 16)], (tourref2_Wrap.c4p a0 o12 v14 (0 : Int) (el Z27 v14 (isub .i64 (len v14) (1 : Int)))), 4, (.exit 4), (tourref2_Wrap.c4q a0 o12 v14 o47), 4⟩, .cutR 24 ⟨[], [(0, 0), (1, 1), (2, 2), (3, 3)], (tourref2_Wrap.c7p a0 o12 o47 v14), 4, .normal, (tourref2_Wrap.c7q a0 o12 o47 v14 o50), 3⟩, .dec false, .dec true] [] [(0, 0), (1, 6)] (via (cutP (And.intro (And.intro (And.intro trivial e15) h16) h16) [(0, 0), (1, 1), (2, 13), (3, 16)] (tourref2_Wrap.c4p a0 o12 v14 (0 : Int) (el Z27 v14 (isub .i64 (len v14) (1 : Int)))) (((tourref2_Wrap.c4_ok k a0 o12 v14 k (0 : Int) (el Z27 v14 (isub .i64 (len v14) (1 : Int)))).ap e48).triple) (cutP trivial [(0, 0), (1, 1), (2, 2), (3, 3)] (tourref2_Wrap.c7p a0 o12 o47 v14) (((tourref2_Wrap.c7_ok k a0 o12 o47 v14).ap e51)) (finP (And.intro (And.intro trivial e52) h53) .normal [(0, 0), (1, 6)] (tourref2_Wrap.c3p a0 o12 (v14 ++ [o47]))))) (by kernel_rfl)) ((tourref2_Wrap.c3_ok k a0 o12 n (v14 ++ [o47])).ap hy))) (fun e15 =>
   Owp.some (loop_exit (tourref2_Wrap.cok k) hmix [.dec false] [] [(0, 1)] (exne 2) (via (finP (And.intro trivial e15) (.exit 2) [(0, 1)] (tourref2_Wrap.c3q v14)) (by kernel_rfl)))))
theorem tourref2_Wrap.way (k : Nat) (a0 : (List V27)) : Owp (tourref2_Wrap k a0) fun y => ∃ answers cmds, exec PR (tourref2_Wrap.cx k) tourref2_Wrap.code 0 (entry (.pair T22 .unit) (a0, ())).st answers (Ret (tourref2_Wrap.cx k) Try.f95 cmds (.one (.ow T27 28)) y) := by
  unfold tourref2_Wrap; exact
   Owp.bif (fun e1 =>
   Owp.some (⟨[.dec true], [.own 2 T27 28], via (retP (And.intro trivial e1) (.one (.ow T27 28)) ([] : (List V27))) (by kernel_rfl)⟩)) (fun e1 =>
   Owp.req fun h2 =>
    Owp.bnd fun o12 e13 =>
    Owp.bnd fun o54 e55 =>
    Owp.some (⟨[.dec false, .cut ⟨[], [(0, 7)], (tourref2_Wrap.c1p a0 (0 : Int) (el Z27 a0 (0 : Int))), 1, (.exit 0), (tourref2_Wrap.c1q a0 o12), 1⟩, .dec true, .cut ⟨[], [(0, 0), (1, 2)], (tourref2_Wrap.c3p a0 o12 [o12]), 2, (.exit 2), (tourref2_Wrap.c3q o54), 1⟩], [], via (cutP (And.intro (And.intro trivial e1) h2) [(0, 7)] (tourref2_Wrap.c1p a0 (0 : Int) (el Z27 a0 (0 : Int))) (((tourref2_Wrap.c1_ok k a0 k (0 : Int) (el Z27 a0 (0 : Int))).ap e13).triple) (cutP trivial [(0, 0), (1, 2)] (tourref2_Wrap.c3p a0 o12 [o12]) (((tourref2_Wrap.c3_ok k a0 o12 k [o12]).ap e55).triple) (retP trivial (.one (.ow T27 28)) (o54 : (List V27))))) (by kernel_rfl)⟩))
theorem tourref2_Wrap.ok (k : Nat) : FnOk PR 95 (tourref2_Wrap.sp k) :=
  fn_ok (tourref2_Wrap.cok k) hmix Try.func95 (code := tourref2_Wrap.code) (by kernel_rfl) (by kernel_rfl) (by kernel_rfl) rfl rfl (by kernel_rfl) (by kernel_rfl) (by kernel_rfl) (fun x => Nat.le_of_ble_eq_true (by kernel_rfl)) fun x y hy => (tourref2_Wrap.way k x.1).ap hy

/-! tourney/tourref2.Poly -/
noncomputable def tourref2_Poly.code : Code := Func.cd Try.f38
def tourref2_Poly.c1 (k : Nat) (a0 : (List V27)) : Nat → Int → Option (Unit ⊕ Unit)
  | 0, _ => none
  | n + 1, v3 =>
   bif' (ilt v3 (len a0))
   (req (inL v3 a0) <|
    bnd (tourref2_coord k (el Z27 a0 v3) 65536000) fun y6 =>
    bif' y6
    (tourref2_Poly.c1 k a0 n (iadd .i64 v3 1))
    (some (.inl ())))
   (some (.inr ()))
def tourref2_Poly.c4 (k : Nat) (a0 : (List V27)) (v15 : Int) (v17 : Int) : Nat → Int → Option (Unit ⊕ Unit)
  | 0, _ => none
  | n + 1, v19 =>
   bif' (ilt v19 (len a0))
   (req (inL v15 a0) <|
    req (inL v17 a0) <|
    req (inL v19 a0) <|
    bnd (tourref2_left k (el Z27 a0 v15) (el Z27 a0 v17) (el Z27 a0 v19)) fun y24 =>
    bif' (ile y24 0)
    (some (.inl ()))
    (tourref2_Poly.c4 k a0 v15 v17 n (iadd .i64 v19 1)))
   (some (.inr ()))
def tourref2_Poly.c3 (k : Nat) (a0 : (List V27)) (v15 : Int) : Nat → Int → Option (Unit ⊕ Unit)
  | 0, _ => none
  | n + 1, v17 =>
   bif' (ilt v17 (len a0))
   (bnd (tourref2_Poly.c4 k a0 v15 v17 k (iadd .i64 v17 1)) fun o27 =>
    two o27 (fun y29 =>
    some (.inl ())) (fun y31 =>
    tourref2_Poly.c3 k a0 v15 n (iadd .i64 v17 1)))
   (some (.inr ()))
def tourref2_Poly.c2 (k : Nat) (a0 : (List V27)) : Nat → Int → Option (Unit ⊕ Unit)
  | 0, _ => none
  | n + 1, v15 =>
   bif' (ilt v15 (len a0))
   (bnd (tourref2_Poly.c3 k a0 v15 k (iadd .i64 v15 1)) fun o33 =>
    two o33 (fun y35 =>
    some (.inl ())) (fun y37 =>
    tourref2_Poly.c2 k a0 n (iadd .i64 v15 1)))
   (some (.inr ()))
def tourref2_Poly (k : Nat) (a0 : (List V27)) : Option Int :=
  bif' (igt (len a0) 8)
  (some 2)
  (bif' (ilt (len a0) 3)
   (some 3)
   (bnd (tourref2_Poly.c1 k a0 k 0) fun o9 =>
    two o9 (fun y11 =>
    some 1) (fun y13 =>
    bnd (tourref2_Poly.c2 k a0 k 0) fun o39 =>
     two o39 (fun y41 =>
     some 3) (fun y43 =>
     some 0))))
noncomputable def tourref2_Poly.sp (k : Nat) : Go.Sx.Spec := ⟨(.pair T22 .unit), (.one (.dp T2)), fun x => tourref2_Poly k x.1, false⟩
noncomputable def tourref2_Poly.cx (k : Nat) : Go.Sx.Ctx := ⟨tys, [(94, tourref2_coord.sp k), (114, tourref2_left.sp k)], eqs, 60, 0, [], false⟩
theorem tourref2_Poly.cok (k : Nat) : CtxOk PR (tourref2_Poly.cx k) := ctx_ok tysOk eqsOk (FnsOk.cons (tourref2_coord.ok k) (FnsOk.cons (tourref2_left.ok k) FnsOk.nil)) HsOk.nil
noncomputable def tourref2_Poly.c1p (a0 : (List V27)) (v3 : Int) : SL := ⟨[(0, (.val T22 a0)), (3, (.val T2 (len a0))), (17, (.val T22 a0)), (18, (.val T2 (len a0))), (19, (.val T2 v3))], []⟩
noncomputable def tourref2_Poly.c1q (a0 : (List V27)) (o : Unit ⊕ Unit) : SL := (fun o => two o (fun v => ⟨[(2, (.val T2 (1 : Int)))], []⟩) (fun v => ⟨[(0, (.val T22 a0)), (3, (.val T2 (len a0)))], []⟩)) o
noncomputable def tourref2_Poly.c1x (o : Unit ⊕ Unit) : Ex := (fun o => two o (fun _ => .ret) (fun _ => (.exit 1))) o
noncomputable def tourref2_Poly.c1n (o : Unit ⊕ Unit) : Nat := (fun o => two o (fun _ => 0) (fun _ => 0)) o
theorem tourref2_Poly.c1_ok (k : Nat) (a0 : (List V27)) : ∀ (n : Nat) (v3 : Int), Owp (tourref2_Poly.c1 k a0 n v3) fun o => LTriple PR (tourref2_Poly.cx k) (sub tourref2_Poly.code [1, 1, 1, 0, 1, 0, 0]) 0 (tourref2_Poly.c1p a0 v3) (tourref2_Poly.c1x o) (tourref2_Poly.c1n o) (tourref2_Poly.c1q a0 o)
  | 0, _ => fun _ h => nomatch h
  | n + 1, v3 => Owp.of (tourref2_Poly.c1.eq_2 ..) (
   Owp.bif (fun e4 =>
   Owp.req fun h5 =>
    Owp.bnd fun y6 e7 =>
    Owp.bif (fun e8 =>
    fun y hy => loop_back (tourref2_Poly.cok k) hmix 0 (tourref2_Poly.c1p a0 (iadd .i64 v3 (1 : Int))) [.dec true, .res (.one (.dp T4)) y6, .dec false] [] [] (via (finP (And.intro (And.intro (And.intro (And.intro trivial e4) h5) e7) (congrArg not e8)) .normal [] (tourref2_Poly.c1p a0 (iadd .i64 v3 (1 : Int)))) (by kernel_rfl)) ((tourref2_Poly.c1_ok k a0 n (iadd .i64 v3 (1 : Int))).ap hy)) (fun e8 =>
    Owp.some (loop_exit (tourref2_Poly.cok k) hmix [.dec true, .res (.one (.dp T4)) y6, .dec true] [] [] exne_ret (via (finP (And.intro (And.intro (And.intro (And.intro trivial e4) h5) e7) (congrArg not e8)) .ret [] (tourref2_Poly.c1q a0 (.inl ()))) (by kernel_rfl))))) (fun e4 =>
   Owp.some (loop_exit (tourref2_Poly.cok k) hmix [.dec false] [] [] (exne 1) (via (finP (And.intro trivial e4) (.exit 1) [] (tourref2_Poly.c1q a0 (.inr ()))) (by kernel_rfl)))))
noncomputable def tourref2_Poly.c4p (a0 : (List V27)) (v15 : Int) (v17 : Int) (v19 : Int) : SL := ⟨[(0, (.val T22 a0)), (3, (.val T2 (len a0))), (6, (.val T2 v15)), (7, (.val T2 v17)), (8, (.val T2 v19)), (27, (.val T2 (len a0))), (28, (.val T2 v15))], []⟩
noncomputable def tourref2_Poly.c4q (a0 : (List V27)) (v15 : Int) (v17 : Int) (o : Unit ⊕ Unit) : SL := (fun o => two o (fun v => ⟨[(2, (.val T2 (3 : Int)))], []⟩) (fun v => ⟨[(0, (.val T22 a0)), (3, (.val T2 (len a0))), (6, (.val T2 v15)), (7, (.val T2 v17)), (27, (.val T2 (len a0))), (28, (.val T2 v15))], []⟩)) o
noncomputable def tourref2_Poly.c4x (o : Unit ⊕ Unit) : Ex := (fun o => two o (fun _ => .ret) (fun _ => (.exit 7))) o
noncomputable def tourref2_Poly.c4n (o : Unit ⊕ Unit) : Nat := (fun o => two o (fun _ => 0) (fun _ => 0)) o
theorem tourref2_Poly.c4_ok (k : Nat) (a0 : (List V27)) (v15 : Int) (v17 : Int) : ∀ (n : Nat) (v19 : Int), Owp (tourref2_Poly.c4 k a0 v15 v17 n v19) fun o => LTriple PR (tourref2_Poly.cx k) (sub tourref2_Poly.code [1, 1, 1, 1, 0, 1, 0, 0, 1, 1, 0, 0, 1, 1, 0, 0, 1, 0, 0, 1, 0, 0]) 0 (tourref2_Poly.c4p a0 v15 v17 v19) (tourref2_Poly.c4x o) (tourref2_Poly.c4n o) (tourref2_Poly.c4q a0 v15 v17 o)
  | 0, _ => fun _ h => nomatch h
  | n + 1, v19 => Owp.of (tourref2_Poly.c4.eq_2 ..) (
   Owp.bif (fun e20 =>
   Owp.req fun h21 =>
    Owp.req fun h22 =>
    Owp.req fun h23 =>
    Owp.bnd fun y24 e25 =>
    Owp.bif (fun e26 =>
    Owp.some (loop_exit (tourref2_Poly.cok k) hmix [.dec true, .res (.one (.dp T2)) y24, .dec true] [] [] exne_ret (via (finP (And.intro (And.intro (And.intro (And.intro (And.intro (And.intro trivial e20) h21) h22) h23) e25) e26) .ret [] (tourref2_Poly.c4q a0 v15 v17 (.inl ()))) (by kernel_rfl)))) (fun e26 =>
    fun y hy => loop_back (tourref2_Poly.cok k) hmix 0 (tourref2_Poly.c4p a0 v15 v17 (iadd .i64 v19 (1 : Int))) [.dec true, .res (.one (.dp T2)) y24, .dec false] [] [] (via (finP (And.intro (And.intro (And.intro (And.intro (And.intro (And.intro trivial e20) h21) h22) h23) e25) e26) .normal [] (tourref2_Poly.c4p a0 v15 v17 (iadd .i64 v19 (1 : Int)))) (by kernel_rfl)) ((tourref2_Poly.c4_ok k a0 v15 v17 n (iadd .i64 v19 (1 : Int))).ap hy))) (fun e20 =>
   Owp.some (loop_exit (tourref2_Poly.cok k) hmix [.dec false] [] [] (exne 7) (via (finP (And.intro trivial e20) (.exit 7) [] (tourref2_Poly.c4q a0 v15 v17 (.inr ()))) (by kernel_rfl)))))
noncomputable def tourref2_Poly.c3p (a0 : (List V27)) (v15 : Int) (v17 : Int) : SL := ⟨[(0, (.val T22 a0)), (3, (.val T2 (len a0))), (6, (.val T2 v15)), (7, (.val T2 v17)), (27, (.val T2 (len a0))), (28, (.val T2 v15))], []⟩
noncomputable def tourref2_Poly.c3q (a0 : (List V27)) (v15 : Int) (o : Unit ⊕ Unit) : SL := (fun o => two o (fun v => ⟨[(2, (.val T2 (3 : Int)))], []⟩) (fun v => ⟨[(0, (.val T22 a0)), (3, (.val T2 (len a0))), (27, (.val T2 (len a0))), (28, (.val T2 v15))], []⟩)) o
noncomputable def tourref2_Poly.c3x (o : Unit ⊕ Unit) : Ex := (fun o => two o (fun _ => .ret) (fun _ => (.exit 5))) o
noncomputable def tourref2_Poly.c3n (o : Unit ⊕ Unit) : Nat := (fun o => two o (fun _ => 0) (fun _ => 0)) o
theorem tourref2_Poly.c3_ok (k : Nat) (a0 : (List V27)) (v15 : Int) : ∀ (n : Nat) (v17 : Int), Owp (tourref2_Poly.c3 k a0 v15 n v17) fun o => LTriple PR (tourref2_Poly.cx k) (sub tourref2_Poly.code [1, 1, 1, 1, 0, 1, 0, 0, 1, 1, 0, 0, 1, 1, 0, 0]) 0 (tourref2_Poly.c3p a0 v15 v17) (tourref2_Poly.c3x o) (tourref2_Poly.c3n o) (tourref2_Poly.c3q a0 v15 o)
  | 0, _ => fun _ h => nomatch h
  | n + 1, v17 => Owp.of (tourref2_Poly.c3.eq_2 ..) (
   Owp.bif (fun e18 =>
   Owp.bnd fun o27 e28 =>
    Owp.two (fun y29 e30 =>
    Owp.some (loop_exit (tourref2_Poly.cok k) hmix [.dec true, .cut ⟨[], [], (tourref2_Poly.c4p a0 v15 v17 (iadd .i64 v17 (1 : Int))), 0, .ret, (tourref2_Poly.c4q a0 v15 v17 (.inl ())), 0⟩] [] [] exne_ret (via (cutP (And.intro trivial e18) [] (tourref2_Poly.c4p a0 v15 v17 (iadd .i64 v17 (1 : Int))) (((tourref2_Poly.c4_ok k a0 v15 v17 k (iadd .i64 v17 (1 : Int))).ap (e28.trans (congrArg some e30))).triple) (finP trivial .ret [] (tourref2_Poly.c3q a0 v15 (.inl ())))) (by kernel_rfl)))) (fun y31 e32 =>
    fun y hy => loop_back (tourref2_Poly.cok k) hmix 0 (tourref2_Poly.c3p a0 v15 (iadd .i64 v17 (1 : Int))) [.dec true, .cut ⟨[], [], (tourref2_Poly.c4p a0 v15 v17 (iadd .i64 v17 (1 : Int))), 0, (.exit 7), (tourref2_Poly.c4q a0 v15 v17 (.inr ())), 0⟩] [] [] (via (cutP (And.intro trivial e18) [] (tourref2_Poly.c4p a0 v15 v17 (iadd .i64 v17 (1 : Int))) (((tourref2_Poly.c4_ok k a0 v15 v17 k (iadd .i64 v17 (1 : Int))).ap (e28.trans (congrArg some e32))).triple) (finP trivial .normal [] (tourref2_Poly.c3p a0 v15 (iadd .i64 v17 (1 : Int))))) (by kernel_rfl)) ((tourref2_Poly.c3_ok k a0 v15 n (iadd .i64 v17 (1 : Int))).ap hy))) (fun e18 =>
   Owp.some (loop_exit (tourref2_Poly.cok k) hmix [.dec false] [] [] (exne 5) (via (finP (And.intro trivial e18) (.exit 5) [] (tourref2_Poly.c3q a0 v15 (.inr ()))) (by kernel_rfl)))))
noncomputable def tourref2_Poly.c2p (a0 : (List V27)) (v15 : Int) : SL := ⟨[(0, (.val T22 a0)), (3, (.val T2 (len a0))), (27, (.val T2 (len a0))), (28, (.val T2 v15))], []⟩
noncomputable def tourref2_Poly.c2q (o : Unit ⊕ Unit) : SL := (fun o => two o (fun v => ⟨[(2, (.val T2 (3 : Int)))], []⟩) (fun v => ⟨[], []⟩)) o
noncomputable def tourref2_Poly.c2x (o : Unit ⊕ Unit) : Ex := (fun o => two o (fun _ => .ret) (fun _ => (.exit 3))) o
noncomputable def tourref2_Poly.c2n (o : Unit ⊕ Unit) : Nat := (fun o => two o (fun _ => 0) (fun _ => 0)) o
theorem tourref2_Poly.c2_ok (k : Nat) (a0 : (List V27)) : ∀ (n : Nat) (v15 : Int), Owp (tourref2_Poly.c2 k a0 n v15) fun o => LTriple PR (tourref2_Poly.cx k) (sub tourref2_Poly.code [1, 1, 1, 1, 0, 1, 0, 0]) 0 (tourref2_Poly.c2p a0 v15) (tourref2_Poly.c2x o) (tourref2_Poly.c2n o) (tourref2_Poly.c2q o)
  | 0, _ => fun _ h => nomatch h
  | n + 1, v15 => Owp.of (tourref2_Poly.c2.eq_2 ..) (
   Owp.bif (fun e16 =>
   Owp.bnd fun o33 e34 =>
    Owp.two (fun y35 e36 =>
    Owp.some (loop_exit (tourref2_Poly.cok k) hmix [.dec true, .cut ⟨[], [], (tourref2_Poly.c3p a0 v15 (iadd .i64 v15 (1 : Int))), 0, .ret, (tourref2_Poly.c3q a0 v15 (.inl ())), 0⟩] [] [] exne_ret (via (cutP (And.intro trivial e16) [] (tourref2_Poly.c3p a0 v15 (iadd .i64 v15 (1 : Int))) (((tourref2_Poly.c3_ok k a0 v15 k (iadd .i64 v15 (1 : Int))).ap (e34.trans (congrArg some e36))).triple) (finP trivial .ret [] (tourref2_Poly.c2q (.inl ())))) (by kernel_rfl)))) (fun y37 e38 =>
    fun y hy => loop_back (tourref2_Poly.cok k) hmix 0 (tourref2_Poly.c2p a0 (iadd .i64 v15 (1 : Int))) [.dec true, .cut ⟨[], [], (tourref2_Poly.c3p a0 v15 (iadd .i64 v15 (1 : Int))), 0, (.exit 5), (tourref2_Poly.c3q a0 v15 (.inr ())), 0⟩] [] [] (via (cutP (And.intro trivial e16) [] (tourref2_Poly.c3p a0 v15 (iadd .i64 v15 (1 : Int))) (((tourref2_Poly.c3_ok k a0 v15 k (iadd .i64 v15 (1 : Int))).ap (e34.trans (congrArg some e38))).triple) (finP trivial .normal [] (tourref2_Poly.c2p a0 (iadd .i64 v15 (1 : Int))))) (by kernel_rfl)) ((tourref2_Poly.c2_ok k a0 n (iadd .i64 v15 (1 : Int))).ap hy))) (fun e16 =>
   Owp.some (loop_exit (tourref2_Poly.cok k) hmix [.dec false] [] [] (exne 3) (via (finP (And.intro trivial e16) (.exit 3) [] (tourref2_Poly.c2q (.inr ()))) (by kernel_rfl)))))
theorem tourref2_Poly.way (k : Nat) (a0 : (List V27)) : Owp (tourref2_Poly k a0) fun y => ∃ answers cmds, exec PR (tourref2_Poly.cx k) tourref2_Poly.code 0 (entry (.pair T22 .unit) (a0, ())).st answers (Ret (tourref2_Poly.cx k) Try.f38 cmds (.one (.dp T2)) y) := by
  unfold tourref2_Poly; exact
   Owp.bif (fun e1 =>
   Owp.some (⟨[.dec true], [], via (retP (And.intro trivial e1) (.one (.dp T2)) ((2 : Int) : Int)) (by kernel_rfl)⟩)) (fun e1 =>
   Owp.bif (fun e2 =>
    Owp.some (⟨[.dec false, .dec true], [], via (retP (And.intro (And.intro trivial e1) e2) (.one (.dp T2)) ((3 : Int) : Int)) (by kernel_rfl)⟩)) (fun e2 =>
    Owp.bnd fun o9 e10 =>
     Owp.two (fun y11 e12 =>
     Owp.some (⟨[.dec false, .dec false, .cut ⟨[], [], (tourref2_Poly.c1p a0 (0 : Int)), 0, .ret, (tourref2_Poly.c1q a0 (.inl ())), 0⟩], [], via (cutP (And.intro (And.intro trivial e1) e2) [] (tourref2_Poly.c1p a0 (0 : Int)) (((tourref2_Poly.c1_ok k a0 k (0 : Int)).ap (e10.trans (congrArg some e12))).triple) (retP trivial (.one (.dp T2)) ((1 : Int) : Int))) (by kernel_rfl)⟩)) (fun y13 e14 =>
     Owp.bnd fun o39 e40 =>
      Owp.two (fun y41 e42 =>
      Owp.some (⟨[.dec false, .dec false, .cut ⟨[], [], (tourref2_Poly.c1p a0 (0 : Int)), 0, (.exit 1), (tourref2_Poly.c1q a0 (.inr ())), 0⟩, .cut ⟨[], [], (tourref2_Poly.c2p a0 (0 : Int)), 0, .ret, (tourref2_Poly.c2q (.inl ())), 0⟩], [], via (cutP (And.intro (And.intro trivial e1) e2) [] (tourref2_Poly.c1p a0 (0 : Int)) (((tourref2_Poly.c1_ok k a0 k (0 : Int)).ap (e10.trans (congrArg some e14))).triple) (cutP trivial [] (tourref2_Poly.c2p a0 (0 : Int)) (((tourref2_Poly.c2_ok k a0 k (0 : Int)).ap (e40.trans (congrArg some e42))).triple) (retP trivial (.one (.dp T2)) ((3 : Int) : Int)))) (by kernel_rfl)⟩)) (fun y43 e44 =>
      Owp.some (⟨[.dec false, .dec false, .cut ⟨[], [], (tourref2_Poly.c1p a0 (0 : Int)), 0, (.exit 1), (tourref2_Poly.c1q a0 (.inr ())), 0⟩, .cut ⟨[], [], (tourref2_Poly.c2p a0 (0 : Int)), 0, (.exit 3), (tourref2_Poly.c2q (.inr ())), 0⟩], [], via (cutP (And.intro (And.intro trivial e1) e2) [] (tourref2_Poly.c1p a0 (0 : Int)) (((tourref2_Poly.c1_ok k a0 k (0 : Int)).ap (e10.trans (congrArg some e14))).triple) (cutP trivial [] (tourref2_Poly.c2p a0 (0 : Int)) (((tourref2_Poly.c2_ok k a0 k (0 : Int)).ap (e40.trans (congrArg some e44))).triple) (retP trivial (.one (.dp T2)) ((0 : Int) : Int)))) (by kernel_rfl)⟩)))))
theorem tourref2_Poly.ok (k : Nat) : FnOk PR 38 (tourref2_Poly.sp k) :=
  fn_ok (tourref2_Poly.cok k) hmix Try.func38 (code := tourref2_Poly.code) (by kernel_rfl) (by kernel_rfl) (by kernel_rfl) rfl rfl (by kernel_rfl) (by kernel_rfl) (by kernel_rfl) (fun x => Nat.le_of_ble_eq_true (by kernel_rfl)) fun x y hy => (tourref2_Poly.way k x.1).ap hy

/-! tourney/tourref2.World -/
noncomputable def tourref2_World.code : Code := Func.cd Try.f53
def tourref2_World (k : Nat) (a0 : V49) (a1 : V27) : Option V27 :=
  bnd (vec_Turn k a1 a0.2.2.1) fun y1 =>
  bnd (fix_Add k y1.1 a0.1.1) fun y3 =>
  bnd (fix_Add k y1.2.1 a0.1.2.1) fun y5 =>
  some (y3, y5, ())
noncomputable def tourref2_World.sp (k : Nat) : Go.Sx.Spec := ⟨(.pair T49 (.pair T27 .unit)), (.one (.dp T27)), fun x => tourref2_World k x.1 x.2.1, false⟩
noncomputable def tourref2_World.cx (k : Nat) : Go.Sx.Ctx := ⟨tys, [(124, vec_Turn.sp k), (104, fix_Add.sp k)], eqs, 23, 0, [], false⟩
theorem tourref2_World.cok (k : Nat) : CtxOk PR (tourref2_World.cx k) := ctx_ok tysOk eqsOk (FnsOk.cons (vec_Turn.ok k) (FnsOk.cons (fix_Add.ok k) FnsOk.nil)) HsOk.nil
theorem tourref2_World.way (k : Nat) (a0 : V49) (a1 : V27) : Owp (tourref2_World k a0 a1) fun y => ∃ answers cmds, exec PR (tourref2_World.cx k) tourref2_World.code 0 (entry (.pair T49 (.pair T27 .unit)) (a0, a1, ())).st answers (Ret (tourref2_World.cx k) Try.f53 cmds (.one (.dp T27)) y) := by
  unfold tourref2_World; exact
   Owp.bnd fun y1 e2 =>
   Owp.bnd fun y3 e4 =>
   Owp.bnd fun y5 e6 =>
   Owp.some (⟨[.res (.one (.dp T27)) y1, .res (.one (.dp T2)) y3, .res (.one (.dp T2)) y5], [], via (retP (And.intro (And.intro (And.intro trivial e2) e4) e6) (.one (.dp T27)) ((y3, y5, ()) : V27)) (by kernel_rfl)⟩)
theorem tourref2_World.ok (k : Nat) : FnOk PR 53 (tourref2_World.sp k) :=
  fn_ok (tourref2_World.cok k) hmix Try.func53 (code := tourref2_World.code) (by kernel_rfl) (by kernel_rfl) (by kernel_rfl) rfl rfl (by kernel_rfl) (by kernel_rfl) (by kernel_rfl) (fun x => Nat.le_of_ble_eq_true (by kernel_rfl)) fun x y hy => (tourref2_World.way k x.1 x.2.1).ap hy

/-! tourney/tourref2.Placed -/
noncomputable def tourref2_Placed.code : Code := Func.cd Try.f40
def tourref2_Placed.c1 (k : Nat) (a0 : V49) : Nat → Int → (List V27) → Option ((List V27))
  | 0, _, _ => none
  | n + 1, v2, v3 =>
   bif' (ilt v2 (len (mk0 Z27 (len a0.2.2.2.2.2.2.2.2.1))))
   (req (inL v2 a0.2.2.2.2.2.2.2.2.1) <|
    bnd (tourref2_World k a0 (el Z27 a0.2.2.2.2.2.2.2.2.1 v2)) fun y6 =>
    req (inL v2 v3) <|
    tourref2_Placed.c1 k a0 n (iadd .i64 v2 1) (st v3 v2 y6))
   (some v3)
def tourref2_Placed (k : Nat) (a0 : V49) : Option (List V27) :=
  req (mkOk 16 (len a0.2.2.2.2.2.2.2.2.1) (len a0.2.2.2.2.2.2.2.2.1)) <|
  bnd (tourref2_Placed.c1 k a0 k 0 (mk0 Z27 (len a0.2.2.2.2.2.2.2.2.1))) fun o9 =>
  some o9
noncomputable def tourref2_Placed.sp (k : Nat) : Go.Sx.Spec := ⟨(.pair T49 .unit), (.one (.ow T27 28)), fun x => tourref2_Placed k x.1, false⟩
noncomputable def tourref2_Placed.cx (k : Nat) : Go.Sx.Ctx := ⟨tys, [(53, tourref2_World.sp k)], eqs, 26, 0, [], false⟩
theorem tourref2_Placed.cok (k : Nat) : CtxOk PR (tourref2_Placed.cx k) := ctx_ok tysOk eqsOk (FnsOk.cons (tourref2_World.ok k) FnsOk.nil) HsOk.nil
noncomputable def tourref2_Placed.c1p (a0 : V49) (v2 : Int) (v3 : (List V27)) : SL := ⟨[(1, (.val .ptr ⟨0, 0, (0 : Int), 0, 0⟩)), (3, (.val .own (1 : Nat))), (10, (.val T2 (len (mk0 Z27 (len a0.2.2.2.2.2.2.2.2.1))))), (11, (.val T2 v2))], [(0, .cells T49 a0), (1, .row T27 v3 28)]⟩
noncomputable def tourref2_Placed.c1q (o : (List V27)) : SL := (fun v => ⟨[(3, (.val .own (0 : Nat)))], [(0, .row T27 v 28)]⟩) o
noncomputable def tourref2_Placed.c1x (o : (List V27)) : Ex := (fun _ => (.exit 0)) o
noncomputable def tourref2_Placed.c1n (o : (List V27)) : Nat := (fun _ => 1) o
theorem tourref2_Placed.c1_ok (k : Nat) (a0 : V49) : ∀ (n : Nat) (v2 : Int) (v3 : (List V27)), Owp (tourref2_Placed.c1 k a0 n v2 v3) fun o => LTriple PR (tourref2_Placed.cx k) (sub tourref2_Placed.code [1, 1, 0, 1, 0, 0]) 2 (tourref2_Placed.c1p a0 v2 v3) (tourref2_Placed.c1x o) (tourref2_Placed.c1n o) (tourref2_Placed.c1q o)
  | 0, _, _ => fun _ h => nomatch h
  | n + 1, v2, v3 => Owp.of (tourref2_Placed.c1.eq_2 ..) (
   Owp.bif (fun e4 =>
   Owp.req fun h5 =>
    Owp.bnd fun y6 e7 =>
    Owp.req fun h8 =>
    fun y hy => loop_back (tourref2_Placed.cok k) hmix 2 (tourref2_Placed.c1p a0 (iadd .i64 v2 (1 : Int)) (st v3 v2 y6)) [.dec true, .res (.one (.dp T27)) y6] [] [(0, 0), (1, 1)] (via (finP (And.intro (And.intro (And.intro (And.intro (And.intro trivial e4) h5) e7) h8) h8) .normal [(0, 0), (1, 1)] (tourref2_Placed.c1p a0 (iadd .i64 v2 (1 : Int)) (st v3 v2 y6))) (by kernel_rfl)) ((tourref2_Placed.c1_ok k a0 n (iadd .i64 v2 (1 : Int)) (st v3 v2 y6)).ap hy)) (fun e4 =>
   Owp.some (loop_exit (tourref2_Placed.cok k) hmix [.dec false] [] [(0, 1)] (exne 0) (via (finP (And.intro trivial e4) (.exit 0) [(0, 1)] (tourref2_Placed.c1q v3)) (by kernel_rfl)))))
theorem tourref2_Placed.way (k : Nat) (a0 : V49) : Owp (tourref2_Placed k a0) fun y => ∃ answers cmds, exec PR (tourref2_Placed.cx k) tourref2_Placed.code 0 (entry (.pair T49 .unit) (a0, ())).st answers (Ret (tourref2_Placed.cx k) Try.f40 cmds (.one (.ow T27 28)) y) := by
  unfold tourref2_Placed; exact
   Owp.req fun h1 =>
   Owp.bnd fun o9 e10 =>
   Owp.some (⟨[.cut ⟨[], [(0, 0), (1, 5)], (tourref2_Placed.c1p a0 (0 : Int) (mk0 Z27 (len a0.2.2.2.2.2.2.2.2.1))), 2, (.exit 0), (tourref2_Placed.c1q o9), 1⟩], [], via (cutP (And.intro trivial h1) [(0, 0), (1, 5)] (tourref2_Placed.c1p a0 (0 : Int) (mk0 Z27 (len a0.2.2.2.2.2.2.2.2.1))) (((tourref2_Placed.c1_ok k a0 k (0 : Int) (mk0 Z27 (len a0.2.2.2.2.2.2.2.2.1))).ap e10).triple) (retP trivial (.one (.ow T27 28)) (o9 : (List V27)))) (by kernel_rfl)⟩)
theorem tourref2_Placed.ok (k : Nat) : FnOk PR 40 (tourref2_Placed.sp k) :=
  fn_ok (tourref2_Placed.cok k) hmix Try.func40 (code := tourref2_Placed.code) (by kernel_rfl) (by kernel_rfl) (by kernel_rfl) rfl rfl (by kernel_rfl) (by kernel_rfl) (by kernel_rfl) (fun x => Nat.le_of_ble_eq_true (by kernel_rfl)) fun x y hy => (tourref2_Placed.way k x.1).ap hy

/-! tourney/tourref2.Minus -/
noncomputable def tourref2_Minus.code : Code := Func.cd Try.f46
def tourref2_Minus.c2 (k : Nat) (a0 : (List V27)) (a1 : (List V27)) (v1 : Int) : Nat → Int → (List V27) → Option ((List V27))
  | 0, _, _ => none
  | n + 1, v5, v6 =>
   bif' (ilt v5 (len a1))
   (req (inL v5 a1) <|
    bnd (tourref2_sub k (el Z27 a0 v1) (el Z27 a1 v5)) fun y9 =>
    req (room 16 v6 [y9]) <|
    tourref2_Minus.c2 k a0 a1 v1 n (iadd .i64 v5 1) (v6 ++ [y9]))
   (some v6)
def tourref2_Minus.c1 (k : Nat) (a0 : (List V27)) (a1 : (List V27)) : Nat → Int → (List V27) → Option ((List V27))
  | 0, _, _ => none
  | n + 1, v1, v2 =>
   bif' (ilt v1 (len a0))
   (req (inL v1 a0) <|
    bnd (tourref2_Minus.c2 k a0 a1 v1 k 0 v2) fun o12 =>
    tourref2_Minus.c1 k a0 a1 n (iadd .i64 v1 1) o12)
   (some v2)
def tourref2_Minus (k : Nat) (a0 : (List V27)) (a1 : (List V27)) : Option (List V27) :=
  bnd (tourref2_Minus.c1 k a0 a1 k 0 []) fun o14 =>
  bnd (tourref2_Wrap k o14) fun y16 =>
  some y16
noncomputable def tourref2_Minus.sp (k : Nat) : Go.Sx.Spec := ⟨(.pair T22 (.pair T22 .unit)), (.one (.ow T27 28)), fun x => tourref2_Minus k x.1 x.2.1, false⟩
noncomputable def tourref2_Minus.cx (k : Nat) : Go.Sx.Ctx := ⟨tys, [(119, tourref2_sub.sp k), (95, tourref2_Wrap.sp k)], eqs, 32, 0, [], false⟩
theorem tourref2_Minus.cok (k : Nat) : CtxOk PR (tourref2_Minus.cx k) := ctx_ok tysOk eqsOk (FnsOk.cons (tourref2_sub.ok k) (FnsOk.cons (tourref2_Wrap.ok k) FnsOk.nil)) HsOk.nil
noncomputable def tourref2_Minus.c2p (a0 : (List V27)) (a1 : (List V27)) (v1 : Int) (v5 : Int) (v6 : (List V27)) : SL := ⟨[(1, (.val T22 a1)), (5, (.val .own (0 : Nat))), (7, (.val .ptr ⟨1, 0, (0 : Int), 0, 0⟩)), (10, (.val T22 a0)), (11, (.val T2 (len a0))), (12, (.val T2 v1)), (16, (.val T22 a1)), (17, (.val T2 (len a1))), (18, (.val T2 v5))], [(0, .row T27 v6 28), (1, .cells T27 (el Z27 a0 v1))]⟩
noncomputable def tourref2_Minus.c2q (a0 : (List V27)) (a1 : (List V27)) (v1 : Int) (o : (List V27)) : SL := (fun v => ⟨[(1, (.val T22 a1)), (5, (.val .own (0 : Nat))), (10, (.val T22 a0)), (11, (.val T2 (len a0))), (12, (.val T2 v1))], [(0, .row T27 v 28)]⟩) o
noncomputable def tourref2_Minus.c2x (o : (List V27)) : Ex := (fun _ => (.exit 2)) o
noncomputable def tourref2_Minus.c2n (o : (List V27)) : Nat := (fun _ => 1) o
theorem tourref2_Minus.c2_ok (k : Nat) (a0 : (List V27)) (a1 : (List V27)) (v1 : Int) : ∀ (n : Nat) (v5 : Int) (v6 : (List V27)), Owp (tourref2_Minus.c2 k a0 a1 v1 n v5 v6) fun o => LTriple PR (tourref2_Minus.cx k) (sub tourref2_Minus.code [1, 1, 0, 1, 0, 0, 1, 1, 0, 0, 1, 1, 0, 0]) 2 (tourref2_Minus.c2p a0 a1 v1 v5 v6) (tourref2_Minus.c2x o) (tourref2_Minus.c2n o) (tourref2_Minus.c2q a0 a1 v1 o)
  | 0, _, _ => fun _ h => nomatch h
  | n + 1, v5, v6 => Owp.of (tourref2_Minus.c2.eq_2 ..) (
   Owp.bif (fun e7 =>
   Owp.req fun h8 =>
    Owp.bnd fun y9 e10 =>
    Owp.req fun h11 =>
    fun y hy => loop_back (tourref2_Minus.cok k) hmix 2 (tourref2_Minus.c2p a0 a1 v1 (iadd .i64 v5 (1 : Int)) (v6 ++ [y9])) [.dec true, .res (.one (.dp T27)) y9, .dec true] [] [(0, 12), (1, 1)] (via (finP (And.intro (And.intro (And.intro (And.intro trivial e7) h8) e10) h11) .normal [(0, 12), (1, 1)] (tourref2_Minus.c2p a0 a1 v1 (iadd .i64 v5 (1 : Int)) (v6 ++ [y9]))) (by kernel_rfl)) ((tourref2_Minus.c2_ok k a0 a1 v1 n (iadd .i64 v5 (1 : Int)) (v6 ++ [y9])).ap hy)) (fun e7 =>
   Owp.some (loop_exit (tourref2_Minus.cok k) hmix [.dec false] [] [(0, 0)] (exne 2) (via (finP (And.intro trivial e7) (.exit 2) [(0, 0)] (tourref2_Minus.c2q a0 a1 v1 v6)) (by kernel_rfl)))))
noncomputable def tourref2_Minus.c1p (a0 : (List V27)) (a1 : (List V27)) (v1 : Int) (v2 : (List V27)) : SL := ⟨[(1, (.val T22 a1)), (5, (.val .own (0 : Nat))), (10, (.val T22 a0)), (11, (.val T2 (len a0))), (12, (.val T2 v1))], [(0, .row T27 v2 28)]⟩
noncomputable def tourref2_Minus.c1q (o : (List V27)) : SL := (fun v => ⟨[(5, (.val .own (0 : Nat)))], [(0, .row T27 v 28)]⟩) o
noncomputable def tourref2_Minus.c1x (o : (List V27)) : Ex := (fun _ => (.exit 0)) o
noncomputable def tourref2_Minus.c1n (o : (List V27)) : Nat := (fun _ => 1) o
theorem tourref2_Minus.c1_ok (k : Nat) (a0 : (List V27)) (a1 : (List V27)) : ∀ (n : Nat) (v1 : Int) (v2 : (List V27)), Owp (tourref2_Minus.c1 k a0 a1 n v1 v2) fun o => LTriple PR (tourref2_Minus.cx k) (sub tourref2_Minus.code [1, 1, 0, 1, 0, 0]) 1 (tourref2_Minus.c1p a0 a1 v1 v2) (tourref2_Minus.c1x o) (tourref2_Minus.c1n o) (tourref2_Minus.c1q o)
  | 0, _, _ => fun _ h => nomatch h
  | n + 1, v1, v2 => Owp.of (tourref2_Minus.c1.eq_2 ..) (
   Owp.bif (fun e3 =>
   Owp.req fun h4 =>
    Owp.bnd fun o12 e13 =>
    fun y hy => loop_back (tourref2_Minus.cok k) hmix 1 (tourref2_Minus.c1p a0 a1 (iadd .i64 v1 (1 : Int)) o12) [.dec true, .cut ⟨[], [(0, 0), (1, 4)], (tourref2_Minus.c2p a0 a1 v1 (0 : Int) v2), 2, (.exit 2), (tourref2_Minus.c2q a0 a1 v1 o12), 1⟩] [] [(0, 0)] (via (cutP (And.intro (And.intro trivial e3) h4) [(0, 0), (1, 4)] (tourref2_Minus.c2p a0 a1 v1 (0 : Int) v2) (((tourref2_Minus.c2_ok k a0 a1 v1 k (0 : Int) v2).ap e13).triple) (finP trivial .normal [(0, 0)] (tourref2_Minus.c1p a0 a1 (iadd .i64 v1 (1 : Int)) o12))) (by kernel_rfl)) ((tourref2_Minus.c1_ok k a0 a1 n (iadd .i64 v1 (1 : Int)) o12).ap hy)) (fun e3 =>
   Owp.some (loop_exit (tourref2_Minus.cok k) hmix [.dec false] [] [(0, 0)] (exne 0) (via (finP (And.intro trivial e3) (.exit 0) [(0, 0)] (tourref2_Minus.c1q v2)) (by kernel_rfl)))))
theorem tourref2_Minus.way (k : Nat) (a0 : (List V27)) (a1 : (List V27)) : Owp (tourref2_Minus k a0 a1) fun y => ∃ answers cmds, exec PR (tourref2_Minus.cx k) tourref2_Minus.code 0 (entry (.pair T22 (.pair T22 .unit)) (a0, a1, ())).st answers (Ret (tourref2_Minus.cx k) Try.f46 cmds (.one (.ow T27 28)) y) := by
  unfold tourref2_Minus; exact
   Owp.bnd fun o14 e15 =>
   Owp.bnd fun y16 e17 =>
   Owp.some (⟨[.cut ⟨[.own 5 T27 28], [(0, 5)], (tourref2_Minus.c1p a0 a1 (0 : Int) []), 1, (.exit 0), (tourref2_Minus.c1q o14), 1⟩, .res (.one (.ow T27 28)) y16], [], via (cutP trivial [(0, 5)] (tourref2_Minus.c1p a0 a1 (0 : Int) []) (((tourref2_Minus.c1_ok k a0 a1 k (0 : Int) []).ap e15).triple) (retP (And.intro trivial e17) (.one (.ow T27 28)) (y16 : (List V27)))) (by kernel_rfl)⟩)
theorem tourref2_Minus.ok (k : Nat) : FnOk PR 46 (tourref2_Minus.sp k) :=
  fn_ok (tourref2_Minus.cok k) hmix Try.func46 (code := tourref2_Minus.code) (by kernel_rfl) (by kernel_rfl) (by kernel_rfl) rfl rfl (by kernel_rfl) (by kernel_rfl) (by kernel_rfl) (fun x => Nat.le_of_ble_eq_true (by kernel_rfl)) fun x y hy => (tourref2_Minus.way k x.1 x.2.1).ap hy

/-! tourney/tourref2.Inside -/
noncomputable def tourref2_Inside.code : Code := Func.cd Try.f115
def tourref2_Inside.c2 (k : Nat) (a0 : (List V27)) (a1 : V27) (v4 : Int) : Option (Bool) :=
  req (inL 0 a0) <|
  req (inL (isub .i64 v4 1) a0) <|
  bnd (tourref2_left k (el Z27 a0 0) (el Z27 a0 (isub .i64 v4 1)) a1) fun y8 =>
  bif' (ige y8 0)
  (req (inL v4 a0) <|
   bnd (tourref2_left k (el Z27 a0 (isub .i64 v4 1)) (el Z27 a0 v4) a1) fun y12 =>
   bif' (ige y12 0)
   (bnd (tourref2_left k (el Z27 a0 v4) (el Z27 a0 0) a1) fun y15 =>
    some (ige y15 0))
   (some false))
  (some false)
def tourref2_Inside.c1 (k : Nat) (a0 : (List V27)) (a1 : V27) : Nat → Int → Option (Unit ⊕ Unit)
  | 0, _ => none
  | n + 1, v4 =>
   bif' (ilt v4 (len a0))
   (bnd (tourref2_Inside.c2 k a0 a1 v4) fun o17 =>
    bif' o17
    (some (.inl ()))
    (tourref2_Inside.c1 k a0 a1 n (iadd .i64 v4 1)))
   (some (.inr ()))
def tourref2_Inside (k : Nat) (a0 : (List V27)) (a1 : V27) : Option Bool :=
  bnd (tourref2_coord k a1 65536000) fun y1 =>
  bif' y1
  (bnd (tourref2_Inside.c1 k a0 a1 k 2) fun o20 =>
   two o20 (fun y22 =>
   some true) (fun y24 =>
   some false))
  (some false)
noncomputable def tourref2_Inside.sp (k : Nat) : Go.Sx.Spec := ⟨(.pair T22 (.pair T27 .unit)), (.one (.dp T4)), fun x => tourref2_Inside k x.1 x.2.1, false⟩
noncomputable def tourref2_Inside.cx (k : Nat) : Go.Sx.Ctx := ⟨tys, [(94, tourref2_coord.sp k), (114, tourref2_left.sp k)], eqs, 52, 0, [], false⟩
theorem tourref2_Inside.cok (k : Nat) : CtxOk PR (tourref2_Inside.cx k) := ctx_ok tysOk eqsOk (FnsOk.cons (tourref2_coord.ok k) (FnsOk.cons (tourref2_left.ok k) FnsOk.nil)) HsOk.nil
noncomputable def tourref2_Inside.c2p (a0 : (List V27)) (a1 : V27) (v4 : Int) : SL := ⟨[(0, (.val T22 a0)), (3, (.val .ptr ⟨0, 0, (0 : Int), 0, 0⟩)), (5, (.val T2 v4))], [(0, .cells T27 a1)]⟩
noncomputable def tourref2_Inside.c2q (a0 : (List V27)) (a1 : V27) (v4 : Int) (o : Bool) : SL := (fun v => ⟨[(0, (.val T22 a0)), (3, (.val .ptr ⟨0, 0, (0 : Int), 0, 0⟩)), (5, (.val T2 v4)), (51, (.val T4 v))], [(0, .cells T27 a1)]⟩) o
noncomputable def tourref2_Inside.c2x (o : Bool) : Ex := (fun _ => .normal) o
noncomputable def tourref2_Inside.c2n (o : Bool) : Nat := (fun _ => 1) o
theorem tourref2_Inside.c2_ok (k : Nat) (a0 : (List V27)) (a1 : V27) (v4 : Int) : Owp (tourref2_Inside.c2 k a0 a1 v4) fun o => Triple PR (tourref2_Inside.cx k) (sub tourref2_Inside.code [1, 1, 0, 1, 0, 0, 1, 0, 0, 0]) 1 (tourref2_Inside.c2p a0 a1 v4) (tourref2_Inside.c2x o) (tourref2_Inside.c2n o) (tourref2_Inside.c2q a0 a1 v4 o) := by
  unfold tourref2_Inside.c2; exact
   Owp.req fun h6 =>
   Owp.req fun h7 =>
   Owp.bnd fun y8 e9 =>
   Owp.bif (fun e10 =>
   Owp.req fun h11 =>
    Owp.bnd fun y12 e13 =>
    Owp.bif (fun e14 =>
    Owp.bnd fun y15 e16 =>
     Owp.some (triple_way (tourref2_Inside.cok k) hmix [.res (.one (.dp T2)) y8, .dec true, .dec true, .dec true, .dec true, .dec true, .dec true, .dec true, .dec true, .dec true, .dec true, .dec true, .res (.one (.dp T2)) y12, .dec true, .dec true, .dec true, .dec true, .dec true, .dec true, .dec true, .dec true, .dec true, .dec true, .dec true, .res (.one (.dp T2)) y15, .dec true, .dec true] [] [(0, 0)] (via (finP (And.intro (And.intro (And.intro (And.intro (And.intro (And.intro (And.intro (And.intro (And.intro (And.intro (And.intro (And.intro (And.intro (And.intro (And.intro (And.intro (And.intro (And.intro (And.intro (And.intro (And.intro (And.intro (And.intro (And.intro (And.intro (And.intro (And.intro trivial h6) h7) e9) e10) e10) e10) (And.intro e10 h7)) e10) e10) e10) (And.intro e10 h11)) e10) e10) (And.intro e10 e13)) e10) e10) e14) e14) (And.intro e14 h11)) e14) e14) (And.intro e14 h6)) e14) e14) (And.intro e14 e16)) e14) e14) .normal [(0, 0)] (tourref2_Inside.c2q a0 a1 v4 (ige y15 (0 : Int)))) (by kernel_rfl)))) (fun e14 =>
    Owp.some (triple_way (tourref2_Inside.cok k) hmix [.res (.one (.dp T2)) y8, .dec true, .dec true, .dec true, .dec true, .dec true, .dec true, .dec true, .dec true, .dec true, .dec true, .dec true, .res (.one (.dp T2)) y12, .dec true, .dec true, .dec false, .dec false, .dec false, .dec false, .dec false, .dec false, .dec false, .dec false, .dec false, .dec true, .dec false, .dec false] [] [(0, 0)] (via (finP (And.intro (And.intro (And.intro (And.intro (And.intro (And.intro (And.intro (And.intro (And.intro (And.intro (And.intro (And.intro (And.intro (And.intro (And.intro (And.intro (And.intro (And.intro (And.intro (And.intro (And.intro (And.intro (And.intro (And.intro (And.intro (And.intro (And.intro trivial h6) h7) e9) e10) e10) e10) (And.intro e10 h7)) e10) e10) e10) (And.intro e10 h11)) e10) e10) (And.intro e10 e13)) e10) e10) e14) e14) e14) e14) e14) e14) e14) e14) e14) e14) e14) .normal [(0, 0)] (tourref2_Inside.c2q a0 a1 v4 false)) (by kernel_rfl))))) (fun e10 =>
   Owp.some (triple_way (tourref2_Inside.cok k) hmix [.res (.one (.dp T2)) y8, .dec false, .dec false, .dec false, .dec false, .dec false, .dec false, .dec false, .dec false, .dec false, .dec false, .dec false, .dec true, .dec false, .dec false, .dec false, .dec false, .dec false, .dec false, .dec false, .dec false, .dec false, .dec false, .dec false, .dec true, .dec false, .dec false] [] [(0, 0)] (via (finP (And.intro (And.intro (And.intro (And.intro (And.intro (And.intro (And.intro (And.intro (And.intro (And.intro (And.intro (And.intro (And.intro (And.intro (And.intro (And.intro (And.intro (And.intro (And.intro (And.intro (And.intro (And.intro (And.intro (And.intro (And.intro (And.intro (And.intro trivial h6) h7) e9) e10) e10) e10) e10) e10) e10) e10) e10) e10) e10) e10) e10) e10) ff) ff) ff) ff) ff) ff) ff) ff) ff) ff) ff) .normal [(0, 0)] (tourref2_Inside.c2q a0 a1 v4 false)) (by kernel_rfl))))
noncomputable def tourref2_Inside.c1p (a0 : (List V27)) (a1 : V27) (v4 : Int) : SL := ⟨[(0, (.val T22 a0)), (3, (.val .ptr ⟨0, 0, (0 : Int), 0, 0⟩)), (5, (.val T2 v4))], [(0, .cells T27 a1)]⟩
noncomputable def tourref2_Inside.c1q (o : Unit ⊕ Unit) : SL := (fun o => two o (fun v => ⟨[(4, (.val T4 true))], []⟩) (fun v => ⟨[], []⟩)) o
noncomputable def tourref2_Inside.c1x (o : Unit ⊕ Unit) : Ex := (fun o => two o (fun _ => .ret) (fun _ => (.exit 0))) o
noncomputable def tourref2_Inside.c1n (o : Unit ⊕ Unit) : Nat := (fun o => two o (fun _ => 0) (fun _ => 0)) o
theorem tourref2_Inside.c1_ok (k : Nat) (a0 : (List V27)) (a1 : V27) : ∀ (n : Nat) (v4 : Int), Owp (tourref2_Inside.c1 k a0 a1 n v4) fun o => LTriple PR (tourref2_Inside.cx k) (sub tourref2_Inside.code [1, 1, 0, 1, 0, 0]) 1 (tourref2_Inside.c1p a0 a1 v4) (tourref2_Inside.c1x o) (tourref2_Inside.c1n o) (tourref2_Inside.c1q o)
  | 0, _ => fun _ h => nomatch h
  | n + 1, v4 => Owp.of (tourref2_Inside.c1.eq_2 ..) (
   Owp.bif (fun e5 =>
   Owp.bnd fun o17 e18 =>
    Owp.bif (fun e19 =>
    Owp.some (loop_exit (tourref2_Inside.cok k) hmix [.dec true, .cutR 6 ⟨[], [(0, 0)], (tourref2_Inside.c2p a0 a1 v4), 1, .normal, (tourref2_Inside.c2q a0 a1 v4 o17), 1⟩, .dec true] [] [] exne_ret (via (cutP (And.intro trivial e5) [(0, 0)] (tourref2_Inside.c2p a0 a1 v4) (((tourref2_Inside.c2_ok k a0 a1 v4).ap e18)) (finP (And.intro trivial e19) .ret [] (tourref2_Inside.c1q (.inl ())))) (by kernel_rfl)))) (fun e19 =>
    fun y hy => loop_back (tourref2_Inside.cok k) hmix 1 (tourref2_Inside.c1p a0 a1 (iadd .i64 v4 (1 : Int))) [.dec true, .cutR 6 ⟨[], [(0, 0)], (tourref2_Inside.c2p a0 a1 v4), 1, .normal, (tourref2_Inside.c2q a0 a1 v4 o17), 1⟩, .dec false] [] [(0, 0)] (via (cutP (And.intro trivial e5) [(0, 0)] (tourref2_Inside.c2p a0 a1 v4) (((tourref2_Inside.c2_ok k a0 a1 v4).ap e18)) (finP (And.intro trivial e19) .normal [(0, 0)] (tourref2_Inside.c1p a0 a1 (iadd .i64 v4 (1 : Int))))) (by kernel_rfl)) ((tourref2_Inside.c1_ok k a0 a1 n (iadd .i64 v4 (1 : Int))).ap hy))) (fun e5 =>
   Owp.some (loop_exit (tourref2_Inside.cok k) hmix [.dec false] [] [] (exne 0) (via (finP (And.intro trivial e5) (.exit 0) [] (tourref2_Inside.c1q (.inr ()))) (by kernel_rfl)))))
theorem tourref2_Inside.way (k : Nat) (a0 : (List V27)) (a1 : V27) : Owp (tourref2_Inside k a0 a1) fun y => ∃ answers cmds, exec PR (tourref2_Inside.cx k) tourref2_Inside.code 0 (entry (.pair T22 (.pair T27 .unit)) (a0, a1, ())).st answers (Ret (tourref2_Inside.cx k) Try.f115 cmds (.one (.dp T4)) y) := by
  unfold tourref2_Inside; exact
   Owp.bnd fun y1 e2 =>
   Owp.bif (fun e3 =>
   Owp.bnd fun o20 e21 =>
    Owp.two (fun y22 e23 =>
    Owp.some (⟨[.res (.one (.dp T4)) y1, .dec false, .cut ⟨[], [(0, 0)], (tourref2_Inside.c1p a0 a1 (2 : Int)), 1, .ret, (tourref2_Inside.c1q (.inl ())), 0⟩], [], via (cutP (And.intro (And.intro trivial e2) (congrArg not e3)) [(0, 0)] (tourref2_Inside.c1p a0 a1 (2 : Int)) (((tourref2_Inside.c1_ok k a0 a1 k (2 : Int)).ap (e21.trans (congrArg some e23))).triple) (retP trivial (.one (.dp T4)) (true : Bool))) (by kernel_rfl)⟩)) (fun y24 e25 =>
    Owp.some (⟨[.res (.one (.dp T4)) y1, .dec false, .cut ⟨[], [(0, 0)], (tourref2_Inside.c1p a0 a1 (2 : Int)), 1, (.exit 0), (tourref2_Inside.c1q (.inr ())), 0⟩], [], via (cutP (And.intro (And.intro trivial e2) (congrArg not e3)) [(0, 0)] (tourref2_Inside.c1p a0 a1 (2 : Int)) (((tourref2_Inside.c1_ok k a0 a1 k (2 : Int)).ap (e21.trans (congrArg some e25))).triple) (retP trivial (.one (.dp T4)) (false : Bool))) (by kernel_rfl)⟩))) (fun e3 =>
   Owp.some (⟨[.res (.one (.dp T4)) y1, .dec true], [], via (retP (And.intro (And.intro trivial e2) (congrArg not e3)) (.one (.dp T4)) (false : Bool)) (by kernel_rfl)⟩))
theorem tourref2_Inside.ok (k : Nat) : FnOk PR 115 (tourref2_Inside.sp k) :=
  fn_ok (tourref2_Inside.cok k) hmix Try.func115 (code := tourref2_Inside.code) (by kernel_rfl) (by kernel_rfl) (by kernel_rfl) rfl rfl (by kernel_rfl) (by kernel_rfl) (by kernel_rfl) (fun x => Nat.le_of_ble_eq_true (by kernel_rfl)) fun x y hy => (tourref2_Inside.way k x.1 x.2.1).ap hy

end Go.Proofs.T1
