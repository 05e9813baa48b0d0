import Derived.Test.YtcgcnojpcgjnmaaG0
namespace Go.Proofs.T1
open Go Go.Sx Go.Proofs
set_option maxRecDepth 100000
set_option linter.unusedVariables false
/-! slices.IndexFunc[[]tourney/api.Vec,tourney/api.Vec] -/
noncomputable def slices_IndexFunc.code : Code := Func.cd Try.f171
def slices_IndexFunc.c1 (k : Nat) (a0 : (List V22)) (a1 : ((V22 × Unit) → Option Bool)) : Nat → Int → Option (Int ⊕ Unit)
  | 0, _ => none
  | n + 1, v1 =>
   bif' (ilt v1 (len a0))
   (req (inL v1 a0) <|
    bnd (a1 ((el Z22 a0 v1), ())) fun y4 =>
    bif' y4
    (some (.inl v1))
    (slices_IndexFunc.c1 k a0 a1 n (iadd .i64 v1 1)))
   (some (.inr ()))
def slices_IndexFunc (k : Nat) (a0 : (List V22)) (a1 : ((V22 × Unit) → Option Bool)) : Option Int :=
  bnd (slices_IndexFunc.c1 k a0 a1 k 0) fun o7 =>
  two o7 (fun y9 =>
  some y9) (fun y11 =>
  some (-1))
noncomputable def slices_IndexFunc.sp (k : Nat) : Go.Sx.Spec := ⟨(.pair T24 (.pair (.fn (.pair T22 .unit) T4) .unit)), (.one (.dp T2)), fun x => slices_IndexFunc k x.1 x.2.1, false⟩
noncomputable def slices_IndexFunc.cx (k : Nat) : Go.Sx.Ctx := ⟨tys, [], eqs, 19, 0, [], false⟩
theorem slices_IndexFunc.cok (k : Nat) : CtxOk PR (slices_IndexFunc.cx k) := ctx_ok tysOk eqsOk FnsOk.nil HsOk.nil
noncomputable def slices_IndexFunc.c1p (a0 : (List V22)) (a1 : ((V22 × Unit) → Option Bool)) (v1 : Int) : SL := ⟨[(0, (.val T24 a0)), (1, (.val (.fn (.pair T22 .unit) T4) a1)), (7, (.val T2 (len a0))), (8, (.val T2 v1))], []⟩
noncomputable def slices_IndexFunc.c1q (o : Int ⊕ Unit) : SL := (fun o => two o (fun v => ⟨[(4, (.val T2 v))], []⟩) (fun v => ⟨[], []⟩)) o
noncomputable def slices_IndexFunc.c1x (o : Int ⊕ Unit) : Ex := (fun o => two o (fun _ => .ret) (fun _ => (.exit 0))) o
noncomputable def slices_IndexFunc.c1n (o : Int ⊕ Unit) : Nat := (fun o => two o (fun _ => 0) (fun _ => 0)) o
theorem slices_IndexFunc.c1_ok (k : Nat) (a0 : (List V22)) (a1 : ((V22 × Unit) → Option Bool)) : ∀ (n : Nat) (v1 : Int), Owp (slices_IndexFunc.c1 k a0 a1 n v1) fun o => LTriple PR (slices_IndexFunc.cx k) (sub slices_IndexFunc.code [1, 0, 1, 0, 0]) 0 (slices_IndexFunc.c1p a0 a1 v1) (slices_IndexFunc.c1x o) (slices_IndexFunc.c1n o) (slices_IndexFunc.c1q o)
  | 0, _ => fun _ h => nomatch h
  | n + 1, v1 => Owp.of (slices_IndexFunc.c1.eq_2 ..) (
   Owp.bif (fun e2 =>
   Owp.req fun h3 =>
    Owp.bnd fun y4 e5 =>
    Owp.bif (fun e6 =>
    Owp.some (loop_exit (slices_IndexFunc.cok k) hmix [.dec true, .res (.one (.dp T4)) y4, .dec true] [] [] exne_ret (via (finP (And.intro (And.intro (And.intro (And.intro trivial e2) h3) e5) e6) .ret [] (slices_IndexFunc.c1q (.inl v1))) (by kernel_rfl)))) (fun e6 =>
    fun y hy => loop_back (slices_IndexFunc.cok k) hmix 0 (slices_IndexFunc.c1p a0 a1 (iadd .i64 v1 (1 : Int))) [.dec true, .res (.one (.dp T4)) y4, .dec false] [] [] (via (finP (And.intro (And.intro (And.intro (And.intro trivial e2) h3) e5) e6) .normal [] (slices_IndexFunc.c1p a0 a1 (iadd .i64 v1 (1 : Int)))) (by kernel_rfl)) ((slices_IndexFunc.c1_ok k a0 a1 n (iadd .i64 v1 (1 : Int))).ap hy))) (fun e2 =>
   Owp.some (loop_exit (slices_IndexFunc.cok k) hmix [.dec false] [] [] (exne 0) (via (finP (And.intro trivial e2) (.exit 0) [] (slices_IndexFunc.c1q (.inr ()))) (by kernel_rfl)))))
theorem slices_IndexFunc.way (k : Nat) (a0 : (List V22)) (a1 : ((V22 × Unit) → Option Bool)) : Owp (slices_IndexFunc k a0 a1) fun y => ∃ answers cmds, exec PR (slices_IndexFunc.cx k) slices_IndexFunc.code 0 (entry (.pair T24 (.pair (.fn (.pair T22 .unit) T4) .unit)) (a0, a1, ())).st answers (Ret (slices_IndexFunc.cx k) Try.f171 cmds (.one (.dp T2)) y) := by
  unfold slices_IndexFunc; exact
   Owp.bnd fun o7 e8 =>
   Owp.two (fun y9 e10 =>
   Owp.some (⟨[.cut ⟨[], [], (slices_IndexFunc.c1p a0 a1 (0 : Int)), 0, .ret, (slices_IndexFunc.c1q (.inl y9)), 0⟩], [], via (cutP trivial [] (slices_IndexFunc.c1p a0 a1 (0 : Int)) (((slices_IndexFunc.c1_ok k a0 a1 k (0 : Int)).ap (e8.trans (congrArg some e10))).triple) (retP trivial (.one (.dp T2)) (y9 : Int))) (by kernel_rfl)⟩)) (fun y11 e12 =>
   Owp.some (⟨[.cut ⟨[], [], (slices_IndexFunc.c1p a0 a1 (0 : Int)), 0, (.exit 0), (slices_IndexFunc.c1q (.inr ())), 0⟩], [], via (cutP trivial [] (slices_IndexFunc.c1p a0 a1 (0 : Int)) (((slices_IndexFunc.c1_ok k a0 a1 k (0 : Int)).ap (e8.trans (congrArg some e12))).triple) (retP trivial (.one (.dp T2)) ((-1 : Int) : Int))) (by kernel_rfl)⟩))
theorem slices_IndexFunc.ok (k : Nat) : FnOk PR 171 (slices_IndexFunc.sp k) :=
  fn_ok (slices_IndexFunc.cok k) hmix Try.func171 (code := slices_IndexFunc.code) (by kernel_rfl) (by kernel_rfl) (by kernel_rfl) rfl rfl (by kernel_rfl) (by kernel_rfl) (by kernel_rfl) (fun x => Nat.le_of_ble_eq_true (by kernel_rfl)) fun x y hy => (slices_IndexFunc.way k x.1 x.2.1).ap hy

/-! slices.ContainsFunc[[]tourney/api.Vec,tourney/api.Vec] -/
noncomputable def slices_ContainsFunc.code : Code := Func.cd Try.f108
def slices_ContainsFunc (k : Nat) (a0 : (List V22)) (a1 : ((V22 × Unit) → Option Bool)) : Option Bool :=
  bnd (slices_IndexFunc k a0 a1) fun y1 =>
  some (ige y1 0)
noncomputable def slices_ContainsFunc.sp (k : Nat) : Go.Sx.Spec := ⟨(.pair T24 (.pair (.fn (.pair T22 .unit) T4) .unit)), (.one (.dp T4)), fun x => slices_ContainsFunc k x.1 x.2.1, false⟩
noncomputable def slices_ContainsFunc.cx (k : Nat) : Go.Sx.Ctx := ⟨tys, [(171, slices_IndexFunc.sp k)], eqs, 9, 0, [], false⟩
theorem slices_ContainsFunc.cok (k : Nat) : CtxOk PR (slices_ContainsFunc.cx k) := ctx_ok tysOk eqsOk (FnsOk.cons (slices_IndexFunc.ok k) FnsOk.nil) HsOk.nil
theorem slices_ContainsFunc.way (k : Nat) (a0 : (List V22)) (a1 : ((V22 × Unit) → Option Bool)) : Owp (slices_ContainsFunc k a0 a1) fun y => ∃ answers cmds, exec PR (slices_ContainsFunc.cx k) slices_ContainsFunc.code 0 (entry (.pair T24 (.pair (.fn (.pair T22 .unit) T4) .unit)) (a0, a1, ())).st answers (Ret (slices_ContainsFunc.cx k) Try.f108 cmds (.one (.dp T4)) y) := by
  unfold slices_ContainsFunc; exact
   Owp.bnd fun y1 e2 =>
   Owp.some (⟨[.res (.one (.dp T2)) y1], [], via (retP (And.intro trivial e2) (.one (.dp T4)) ((ige y1 (0 : Int)) : Bool)) (by kernel_rfl)⟩)
theorem slices_ContainsFunc.ok (k : Nat) : FnOk PR 108 (slices_ContainsFunc.sp k) :=
  fn_ok (slices_ContainsFunc.cok k) hmix Try.func108 (code := slices_ContainsFunc.code) (by kernel_rfl) (by kernel_rfl) (by kernel_rfl) rfl rfl (by kernel_rfl) (by kernel_rfl) (by kernel_rfl) (fun x => Nat.le_of_ble_eq_true (by kernel_rfl)) fun x y hy => (slices_ContainsFunc.way k x.1 x.2.1).ap hy

/-! tourney/poly.within -/
noncomputable def poly_within.code : Code := Func.cd Try.f110
def poly_within (k : Nat) (a0 : V22) : Option Bool :=
  bif' (ige a0.1 (-65536000))
  (bif' (ile a0.1 65536000)
   (bif' (ige a0.2.1 (-65536000))
    (some (ile a0.2.1 65536000))
    (some false))
   (some false))
  (some false)
noncomputable def poly_within.sp (k : Nat) : Go.Sx.Spec := ⟨(.pair T22 .unit), (.one (.dp T4)), fun x => poly_within k x.1, false⟩
noncomputable def poly_within.cx (k : Nat) : Go.Sx.Ctx := ⟨tys, [], eqs, 21, 0, [], false⟩
theorem poly_within.cok (k : Nat) : CtxOk PR (poly_within.cx k) := ctx_ok tysOk eqsOk FnsOk.nil HsOk.nil
theorem poly_within.way (k : Nat) (a0 : V22) : Owp (poly_within k a0) fun y => ∃ answers cmds, exec PR (poly_within.cx k) poly_within.code 0 (entry (.pair T22 .unit) (a0, ())).st answers (Ret (poly_within.cx k) Try.f110 cmds (.one (.dp T4)) y) := by
  unfold poly_within; exact
   Owp.bif (fun e1 =>
   Owp.bif (fun e2 =>
    Owp.bif (fun e3 =>
     Owp.some (⟨[.dec true, .dec true, .dec true, .dec true, .dec true, .dec true, .dec true, .dec true, .dec true, .dec true, .dec true, .dec true], [], via (retP (And.intro (And.intro (And.intro (And.intro (And.intro (And.intro (And.intro (And.intro (And.intro (And.intro (And.intro (And.intro trivial e1) e1) e1) e1) e2) e2) e2) e2) e3) e3) e3) e3) (.one (.dp T4)) ((ile a0.2.1 (65536000 : Int)) : Bool)) (by kernel_rfl)⟩)) (fun e3 =>
     Owp.some (⟨[.dec true, .dec true, .dec true, .dec true, .dec true, .dec true, .dec true, .dec true, .dec false, .dec false, .dec false, .dec false], [], via (retP (And.intro (And.intro (And.intro (And.intro (And.intro (And.intro (And.intro (And.intro (And.intro (And.intro (And.intro (And.intro trivial e1) e1) e1) e1) e2) e2) e2) e2) e3) e3) e3) e3) (.one (.dp T4)) (false : Bool)) (by kernel_rfl)⟩))) (fun e2 =>
    Owp.some (⟨[.dec true, .dec true, .dec true, .dec true, .dec false, .dec false, .dec false, .dec false, .dec false, .dec false, .dec false, .dec false], [], via (retP (And.intro (And.intro (And.intro (And.intro (And.intro (And.intro (And.intro (And.intro (And.intro (And.intro (And.intro (And.intro trivial e1) e1) e1) e1) e2) e2) e2) e2) ff) ff) ff) ff) (.one (.dp T4)) (false : Bool)) (by kernel_rfl)⟩))) (fun e1 =>
   Owp.some (⟨[.dec false, .dec false, .dec false, .dec false, .dec false, .dec false, .dec false, .dec false, .dec false, .dec false, .dec false, .dec false], [], via (retP (And.intro (And.intro (And.intro (And.intro (And.intro (And.intro (And.intro (And.intro (And.intro (And.intro (And.intro (And.intro trivial e1) e1) e1) e1) ff) ff) ff) ff) ff) ff) ff) ff) (.one (.dp T4)) (false : Bool)) (by kernel_rfl)⟩))
theorem poly_within.ok (k : Nat) : FnOk PR 110 (poly_within.sp k) :=
  fn_ok (poly_within.cok k) hmix Try.func110 (code := poly_within.code) (by kernel_rfl) (by kernel_rfl) (by kernel_rfl) rfl rfl (by kernel_rfl) (by kernel_rfl) (by kernel_rfl) (fun x => Nat.le_of_ble_eq_true (by kernel_rfl)) fun x y hy => (poly_within.way k x.1).ap hy

/-! tourney/poly.Check$1 -/
noncomputable def poly_Check_1.code : Code := Func.cd Try.f109
def poly_Check_1 (k : Nat) (a0 : V22) : Option Bool :=
  bnd (poly_within k a0) fun y1 =>
  some (!y1)
noncomputable def poly_Check_1.sp (k : Nat) : Go.Sx.Spec := ⟨(.pair T22 .unit), (.one (.dp T4)), fun x => poly_Check_1 k x.1, false⟩
noncomputable def poly_Check_1.cx (k : Nat) : Go.Sx.Ctx := ⟨tys, [(110, poly_within.sp k)], eqs, 6, 0, [], false⟩
theorem poly_Check_1.cok (k : Nat) : CtxOk PR (poly_Check_1.cx k) := ctx_ok tysOk eqsOk (FnsOk.cons (poly_within.ok k) FnsOk.nil) HsOk.nil
theorem poly_Check_1.way (k : Nat) (a0 : V22) : Owp (poly_Check_1 k a0) fun y => ∃ answers cmds, exec PR (poly_Check_1.cx k) poly_Check_1.code 0 (entry (.pair T22 .unit) (a0, ())).st answers (Ret (poly_Check_1.cx k) Try.f109 cmds (.one (.dp T4)) y) := by
  unfold poly_Check_1; exact
   Owp.bnd fun y1 e2 =>
   Owp.some (⟨[.res (.one (.dp T4)) y1], [], via (retP (And.intro trivial e2) (.one (.dp T4)) ((!y1) : Bool)) (by kernel_rfl)⟩)
theorem poly_Check_1.ok (k : Nat) : FnOk PR 109 (poly_Check_1.sp k) :=
  fn_ok (poly_Check_1.cok k) hmix Try.func109 (code := poly_Check_1.code) (by kernel_rfl) (by kernel_rfl) (by kernel_rfl) rfl rfl (by kernel_rfl) (by kernel_rfl) (by kernel_rfl) (fun x => Nat.le_of_ble_eq_true (by kernel_rfl)) fun x y hy => (poly_Check_1.way k x.1).ap hy

/-! tourney/poly.side -/
noncomputable def poly_side.code : Code := Func.cd Try.f111
def poly_side (k : Nat) (a0 : V22) (a1 : V22) (a2 : V22) : Option Int :=
  some (isub .i64 (imul .i64 (isub .i64 a1.1 a0.1) (isub .i64 a2.2.1 a0.2.1)) (imul .i64 (isub .i64 a1.2.1 a0.2.1) (isub .i64 a2.1 a0.1)))
noncomputable def poly_side.sp (k : Nat) : Go.Sx.Spec := ⟨(.pair T22 T52), (.one (.dp T2)), fun x => poly_side k x.1 x.2.1 x.2.2.1, false⟩
noncomputable def poly_side.cx (k : Nat) : Go.Sx.Ctx := ⟨tys, [], eqs, 30, 0, [], false⟩
theorem poly_side.cok (k : Nat) : CtxOk PR (poly_side.cx k) := ctx_ok tysOk eqsOk FnsOk.nil HsOk.nil
theorem poly_side.way (k : Nat) (a0 : V22) (a1 : V22) (a2 : V22) : Owp (poly_side k a0 a1 a2) fun y => ∃ answers cmds, exec PR (poly_side.cx k) poly_side.code 0 (entry (.pair T22 T52) (a0, a1, a2, ())).st answers (Ret (poly_side.cx k) Try.f111 cmds (.one (.dp T2)) y) := by
  unfold poly_side; exact
   Owp.some (⟨[], [], via (retP trivial (.one (.dp T2)) ((isub .i64 (imul .i64 (isub .i64 a1.1 a0.1) (isub .i64 a2.2.1 a0.2.1)) (imul .i64 (isub .i64 a1.2.1 a0.2.1) (isub .i64 a2.1 a0.1))) : Int)) (by kernel_rfl)⟩)
theorem poly_side.ok (k : Nat) : FnOk PR 111 (poly_side.sp k) :=
  fn_ok (poly_side.cok k) hmix Try.func111 (code := poly_side.code) (by kernel_rfl) (by kernel_rfl) (by kernel_rfl) rfl rfl (by kernel_rfl) (by kernel_rfl) (by kernel_rfl) (fun x => Nat.le_of_ble_eq_true (by kernel_rfl)) fun x y hy => (poly_side.way k x.1 x.2.1 x.2.2.1).ap hy

/-! tourney/poly.Check -/
noncomputable def poly_Check.code : Code := Func.cd Try.f39
def poly_Check.c3 (k : Nat) (a0 : (List V22)) (v6 : Int) (v11 : Int) : Option (Bool) :=
  bif' (ine v11 v6)
  (req (nz (len a0)) <|
   bif' (ine v11 (irem (iadd .i64 v6 1) (len a0)))
   (bnd (poly_side k (el Z22 a0 v6) (el Z22 a0 (irem (iadd .i64 v6 1) (len a0))) (el Z22 a0 v11)) fun y17 =>
    some (ile y17 0))
   (some false))
  (some false)
def poly_Check.c2 (k : Nat) (a0 : (List V22)) (v6 : Int) : Nat → Int → Option (Unit ⊕ Unit)
  | 0, _ => none
  | n + 1, v11 =>
   bif' (ilt v11 (len a0))
   (req (inL v11 a0) <|
    bnd (poly_Check.c3 k a0 v6 v11) fun o19 =>
    bif' o19
    (some (.inl ()))
    (poly_Check.c2 k a0 v6 n (iadd .i64 v11 1)))
   (some (.inr ()))
def poly_Check.c1 (k : Nat) (a0 : (List V22)) : Nat → Int → Option (Unit ⊕ Unit)
  | 0, _ => none
  | n + 1, v6 =>
   bif' (ilt v6 (len a0))
   (req (inL v6 a0) <|
    req (nz (len a0)) <|
    req (inL (irem (iadd .i64 v6 1) (len a0)) a0) <|
    bnd (poly_Check.c2 k a0 v6 k 0) fun o22 =>
    two o22 (fun y24 =>
    some (.inl ())) (fun y26 =>
    poly_Check.c1 k a0 n (iadd .i64 v6 1)))
   (some (.inr ()))
def poly_Check (k : Nat) (a0 : (List V22)) : Option Int :=
  bif' (igt (len a0) 8)
  (some 2)
  (bif' (ilt (len a0) 3)
   (some 3)
   (bnd (slices_ContainsFunc k a0 (fun x : (V22 × Unit) => poly_Check_1 k (x.1))) fun y3 =>
    bif' y3
    (some 1)
    (bnd (poly_Check.c1 k a0 k 0) fun o28 =>
     two o28 (fun y30 =>
     some 3) (fun y32 =>
     some 0))))
noncomputable def poly_Check.sp (k : Nat) : Go.Sx.Spec := ⟨(.pair T24 .unit), (.one (.dp T2)), fun x => poly_Check k x.1, false⟩
noncomputable def poly_Check.cx (k : Nat) : Go.Sx.Ctx := ⟨tys, [(108, slices_ContainsFunc.sp k), (109, poly_Check_1.sp k), (111, poly_side.sp k)], eqs, 59, 0, [], false⟩
theorem poly_Check.cok (k : Nat) : CtxOk PR (poly_Check.cx k) := ctx_ok tysOk eqsOk (FnsOk.cons (slices_ContainsFunc.ok k) (FnsOk.cons (poly_Check_1.ok k) (FnsOk.cons (poly_side.ok k) FnsOk.nil))) HsOk.nil
noncomputable def poly_Check.c3p (a0 : (List V22)) (v6 : Int) (v11 : Int) : SL := ⟨[(0, (.val T24 a0)), (3, (.val T2 v6)), (4, (.val .ptr ⟨0, 0, (0 : Int), 0, 0⟩)), (5, (.val .ptr ⟨1, 0, (0 : Int), 0, 0⟩)), (6, (.val T2 v11)), (7, (.val .ptr ⟨2, 0, (0 : Int), 0, 0⟩)), (16, (.val T24 a0)), (17, (.val T2 (len a0))), (18, (.val T2 v6)), (31, (.val T24 a0)), (32, (.val T2 (len a0))), (33, (.val T2 v11))], [(0, .cells T22 (el Z22 a0 v6)), (1, .cells T22 (el Z22 a0 (irem (iadd .i64 v6 (1 : Int)) (len a0)))), (2, .cells T22 (el Z22 a0 v11))]⟩
noncomputable def poly_Check.c3q (a0 : (List V22)) (v6 : Int) (v11 : Int) (o : Bool) : SL := (fun v => ⟨[(0, (.val T24 a0)), (3, (.val T2 v6)), (4, (.val .ptr ⟨0, 0, (0 : Int), 0, 0⟩)), (5, (.val .ptr ⟨1, 0, (0 : Int), 0, 0⟩)), (16, (.val T24 a0)), (17, (.val T2 (len a0))), (18, (.val T2 v6)), (31, (.val T24 a0)), (32, (.val T2 (len a0))), (33, (.val T2 v11)), (56, (.val T4 v))], [(0, .cells T22 (el Z22 a0 v6)), (1, .cells T22 (el Z22 a0 (irem (iadd .i64 v6 (1 : Int)) (len a0))))]⟩) o
noncomputable def poly_Check.c3x (o : Bool) : Ex := (fun _ => .normal) o
noncomputable def poly_Check.c3n (o : Bool) : Nat := (fun _ => 2) o
theorem poly_Check.c3_ok (k : Nat) (a0 : (List V22)) (v6 : Int) (v11 : Int) : Owp (poly_Check.c3 k a0 v6 v11) fun o => Triple PR (poly_Check.cx k) (sub poly_Check.code [1, 1, 1, 1, 0, 1, 0, 0, 1, 1, 0, 0, 1, 1, 1, 0, 0, 1, 1, 0, 0, 1, 0]) 3 (poly_Check.c3p a0 v6 v11) (poly_Check.c3x o) (poly_Check.c3n o) (poly_Check.c3q a0 v6 v11 o) := by
  unfold poly_Check.c3; exact
   Owp.bif (fun e14 =>
   Owp.req fun h15 =>
    Owp.bif (fun e16 =>
    Owp.bnd fun y17 e18 =>
     Owp.some (triple_way (poly_Check.cok k) hmix [.dec true, .dec true, .dec true, .dec true, .dec true, .dec true, .dec true, .dec true, .dec true, .dec true, .dec true, .dec true, .res (.one (.dp T2)) y17, .dec true, .dec true] [] [(0, 0), (1, 1)] (via (finP (And.intro (And.intro (And.intro (And.intro (And.intro (And.intro (And.intro (And.intro (And.intro (And.intro (And.intro (And.intro (And.intro (And.intro trivial e14) e14) e14) e14) e14) (And.intro e14 h15)) e14) e14) e16) e16) e16) (And.intro e16 e18)) e16) e16) .normal [(0, 0), (1, 1)] (poly_Check.c3q a0 v6 v11 (ile y17 (0 : Int)))) (by kernel_rfl)))) (fun e16 =>
    Owp.some (triple_way (poly_Check.cok k) hmix [.dec true, .dec true, .dec true, .dec true, .dec true, .dec true, .dec true, .dec true, .dec false, .dec false, .dec false, .dec false, .dec true, .dec false, .dec false] [] [(0, 0), (1, 1)] (via (finP (And.intro (And.intro (And.intro (And.intro (And.intro (And.intro (And.intro (And.intro (And.intro (And.intro (And.intro (And.intro (And.intro (And.intro trivial e14) e14) e14) e14) e14) (And.intro e14 h15)) e14) e14) e16) e16) e16) e16) e16) e16) .normal [(0, 0), (1, 1)] (poly_Check.c3q a0 v6 v11 false)) (by kernel_rfl))))) (fun e14 =>
   Owp.some (triple_way (poly_Check.cok k) hmix [.dec false, .dec false, .dec false, .dec false, .dec false, .dec false, .dec false, .dec false, .dec false, .dec false, .dec false, .dec false, .dec true, .dec false, .dec false] [] [(0, 0), (1, 1)] (via (finP (And.intro (And.intro (And.intro (And.intro (And.intro (And.intro (And.intro (And.intro (And.intro (And.intro (And.intro (And.intro (And.intro (And.intro trivial e14) e14) e14) e14) e14) e14) e14) e14) ff) ff) ff) ff) ff) ff) .normal [(0, 0), (1, 1)] (poly_Check.c3q a0 v6 v11 false)) (by kernel_rfl))))
noncomputable def poly_Check.c2p (a0 : (List V22)) (v6 : Int) (v11 : Int) : SL := ⟨[(0, (.val T24 a0)), (3, (.val T2 v6)), (4, (.val .ptr ⟨0, 0, (0 : Int), 0, 0⟩)), (5, (.val .ptr ⟨1, 0, (0 : Int), 0, 0⟩)), (16, (.val T24 a0)), (17, (.val T2 (len a0))), (18, (.val T2 v6)), (31, (.val T24 a0)), (32, (.val T2 (len a0))), (33, (.val T2 v11))], [(0, .cells T22 (el Z22 a0 v6)), (1, .cells T22 (el Z22 a0 (irem (iadd .i64 v6 (1 : Int)) (len a0))))]⟩
noncomputable def poly_Check.c2q (a0 : (List V22)) (v6 : Int) (o : Unit ⊕ Unit) : SL := (fun o => two o (fun v => ⟨[(2, (.val T2 (3 : Int)))], []⟩) (fun v => ⟨[(0, (.val T24 a0)), (16, (.val T24 a0)), (17, (.val T2 (len a0))), (18, (.val T2 v6))], []⟩)) o
noncomputable def poly_Check.c2x (o : Unit ⊕ Unit) : Ex := (fun o => two o (fun _ => .ret) (fun _ => (.exit 2))) o
noncomputable def poly_Check.c2n (o : Unit ⊕ Unit) : Nat := (fun o => two o (fun _ => 0) (fun _ => 0)) o
theorem poly_Check.c2_ok (k : Nat) (a0 : (List V22)) (v6 : Int) : ∀ (n : Nat) (v11 : Int), Owp (poly_Check.c2 k a0 v6 n v11) fun o => LTriple PR (poly_Check.cx k) (sub poly_Check.code [1, 1, 1, 1, 0, 1, 0, 0, 1, 1, 0, 0, 1, 1, 1, 0, 0]) 2 (poly_Check.c2p a0 v6 v11) (poly_Check.c2x o) (poly_Check.c2n o) (poly_Check.c2q a0 v6 o)
  | 0, _ => fun _ h => nomatch h
  | n + 1, v11 => Owp.of (poly_Check.c2.eq_2 ..) (
   Owp.bif (fun e12 =>
   Owp.req fun h13 =>
    Owp.bnd fun o19 e20 =>
    Owp.bif (fun e21 =>
    Owp.some (loop_exit (poly_Check.cok k) hmix [.dec true, .cutR 14 ⟨[], [(0, 0), (1, 1), (2, 6)], (poly_Check.c3p a0 v6 v11), 3, .normal, (poly_Check.c3q a0 v6 v11 o19), 2⟩, .dec true] [] [] exne_ret (via (cutP (And.intro (And.intro trivial e12) h13) [(0, 0), (1, 1), (2, 6)] (poly_Check.c3p a0 v6 v11) (((poly_Check.c3_ok k a0 v6 v11).ap e20)) (finP (And.intro trivial e21) .ret [] (poly_Check.c2q a0 v6 (.inl ())))) (by kernel_rfl)))) (fun e21 =>
    fun y hy => loop_back (poly_Check.cok k) hmix 2 (poly_Check.c2p a0 v6 (iadd .i64 v11 (1 : Int))) [.dec true, .cutR 14 ⟨[], [(0, 0), (1, 1), (2, 6)], (poly_Check.c3p a0 v6 v11), 3, .normal, (poly_Check.c3q a0 v6 v11 o19), 2⟩, .dec false] [] [(0, 0), (1, 1)] (via (cutP (And.intro (And.intro trivial e12) h13) [(0, 0), (1, 1), (2, 6)] (poly_Check.c3p a0 v6 v11) (((poly_Check.c3_ok k a0 v6 v11).ap e20)) (finP (And.intro trivial e21) .normal [(0, 0), (1, 1)] (poly_Check.c2p a0 v6 (iadd .i64 v11 (1 : Int))))) (by kernel_rfl)) ((poly_Check.c2_ok k a0 v6 n (iadd .i64 v11 (1 : Int))).ap hy))) (fun e12 =>
   Owp.some (loop_exit (poly_Check.cok k) hmix [.dec false] [] [] (exne 2) (via (finP (And.intro trivial e12) (.exit 2) [] (poly_Check.c2q a0 v6 (.inr ()))) (by kernel_rfl)))))
noncomputable def poly_Check.c1p (a0 : (List V22)) (v6 : Int) : SL := ⟨[(0, (.val T24 a0)), (16, (.val T24 a0)), (17, (.val T2 (len a0))), (18, (.val T2 v6))], []⟩
noncomputable def poly_Check.c1q (o : Unit ⊕ Unit) : SL := (fun o => two o (fun v => ⟨[(2, (.val T2 (3 : Int)))], []⟩) (fun v => ⟨[], []⟩)) o
noncomputable def poly_Check.c1x (o : Unit ⊕ Unit) : Ex := (fun o => two o (fun _ => .ret) (fun _ => (.exit 0))) o
noncomputable def poly_Check.c1n (o : Unit ⊕ Unit) : Nat := (fun o => two o (fun _ => 0) (fun _ => 0)) o
theorem poly_Check.c1_ok (k : Nat) (a0 : (List V22)) : ∀ (n : Nat) (v6 : Int), Owp (poly_Check.c1 k a0 n v6) fun o => LTriple PR (poly_Check.cx k) (sub poly_Check.code [1, 1, 1, 1, 0, 1, 0, 0]) 0 (poly_Check.c1p a0 v6) (poly_Check.c1x o) (poly_Check.c1n o) (poly_Check.c1q o)
  | 0, _ => fun _ h => nomatch h
  | n + 1, v6 => Owp.of (poly_Check.c1.eq_2 ..) (
   Owp.bif (fun e7 =>
   Owp.req fun h8 =>
    Owp.req fun h9 =>
    Owp.req fun h10 =>
    Owp.bnd fun o22 e23 =>
    Owp.two (fun y24 e25 =>
    Owp.some (loop_exit (poly_Check.cok k) hmix [.dec true, .cut ⟨[], [(0, 4), (1, 15)], (poly_Check.c2p a0 v6 (0 : Int)), 2, .ret, (poly_Check.c2q a0 v6 (.inl ())), 0⟩] [] [] exne_ret (via (cutP (And.intro (And.intro (And.intro (And.intro trivial e7) h8) h9) h10) [(0, 4), (1, 15)] (poly_Check.c2p a0 v6 (0 : Int)) (((poly_Check.c2_ok k a0 v6 k (0 : Int)).ap (e23.trans (congrArg some e25))).triple) (finP trivial .ret [] (poly_Check.c1q (.inl ())))) (by kernel_rfl)))) (fun y26 e27 =>
    fun y hy => loop_back (poly_Check.cok k) hmix 0 (poly_Check.c1p a0 (iadd .i64 v6 (1 : Int))) [.dec true, .cut ⟨[], [(0, 4), (1, 15)], (poly_Check.c2p a0 v6 (0 : Int)), 2, (.exit 2), (poly_Check.c2q a0 v6 (.inr ())), 0⟩] [] [] (via (cutP (And.intro (And.intro (And.intro (And.intro trivial e7) h8) h9) h10) [(0, 4), (1, 15)] (poly_Check.c2p a0 v6 (0 : Int)) (((poly_Check.c2_ok k a0 v6 k (0 : Int)).ap (e23.trans (congrArg some e27))).triple) (finP trivial .normal [] (poly_Check.c1p a0 (iadd .i64 v6 (1 : Int))))) (by kernel_rfl)) ((poly_Check.c1_ok k a0 n (iadd .i64 v6 (1 : Int))).ap hy))) (fun e7 =>
   Owp.some (loop_exit (poly_Check.cok k) hmix [.dec false] [] [] (exne 0) (via (finP (And.intro trivial e7) (.exit 0) [] (poly_Check.c1q (.inr ()))) (by kernel_rfl)))))
theorem poly_Check.way (k : Nat) (a0 : (List V22)) : Owp (poly_Check k a0) fun y => ∃ answers cmds, exec PR (poly_Check.cx k) poly_Check.code 0 (entry (.pair T24 .unit) (a0, ())).st answers (Ret (poly_Check.cx k) Try.f39 cmds (.one (.dp T2)) y) := by
  unfold poly_Check; exact
   Owp.bif (fun e1 =>
   Owp.some (⟨[.dec true], [], via (retP (And.intro trivial e1) (.one (.dp T2)) ((2 : Int) : Int)) (by kernel_rfl)⟩)) (fun e1 =>
   Owp.bif (fun e2 =>
    Owp.some (⟨[.dec false, .dec true], [], via (retP (And.intro (And.intro trivial e1) e2) (.one (.dp T2)) ((3 : Int) : Int)) (by kernel_rfl)⟩)) (fun e2 =>
    Owp.bnd fun y3 e4 =>
     Owp.bif (fun e5 =>
     Owp.some (⟨[.dec false, .dec false, .res (.one (.dp T4)) y3, .dec true], [], via (retP (And.intro (And.intro (And.intro (And.intro trivial e1) e2) e4) e5) (.one (.dp T2)) ((1 : Int) : Int)) (by kernel_rfl)⟩)) (fun e5 =>
     Owp.bnd fun o28 e29 =>
      Owp.two (fun y30 e31 =>
      Owp.some (⟨[.dec false, .dec false, .res (.one (.dp T4)) y3, .dec false, .cut ⟨[], [], (poly_Check.c1p a0 (0 : Int)), 0, .ret, (poly_Check.c1q (.inl ())), 0⟩], [], via (cutP (And.intro (And.intro (And.intro (And.intro trivial e1) e2) e4) e5) [] (poly_Check.c1p a0 (0 : Int)) (((poly_Check.c1_ok k a0 k (0 : Int)).ap (e29.trans (congrArg some e31))).triple) (retP trivial (.one (.dp T2)) ((3 : Int) : Int))) (by kernel_rfl)⟩)) (fun y32 e33 =>
      Owp.some (⟨[.dec false, .dec false, .res (.one (.dp T4)) y3, .dec false, .cut ⟨[], [], (poly_Check.c1p a0 (0 : Int)), 0, (.exit 0), (poly_Check.c1q (.inr ())), 0⟩], [], via (cutP (And.intro (And.intro (And.intro (And.intro trivial e1) e2) e4) e5) [] (poly_Check.c1p a0 (0 : Int)) (((poly_Check.c1_ok k a0 k (0 : Int)).ap (e29.trans (congrArg some e33))).triple) (retP trivial (.one (.dp T2)) ((0 : Int) : Int))) (by kernel_rfl)⟩)))))
theorem poly_Check.ok (k : Nat) : FnOk PR 39 (poly_Check.sp k) :=
  fn_ok (poly_Check.cok k) hmix Try.func39 (code := poly_Check.code) (by kernel_rfl) (by kernel_rfl) (by kernel_rfl) rfl rfl (by kernel_rfl) (by kernel_rfl) (by kernel_rfl) (fun x => Nat.le_of_ble_eq_true (by kernel_rfl)) fun x y hy => (poly_Check.way k x.1).ap hy

/-! math/bits.Mul64 -/
noncomputable def bits_Mul64.code : Code := Func.cd Try.f161
def bits_Mul64 (k : Nat) (a0 : Int) (a1 : Int) : Option (Int × Int) :=
  some ((iadd .u64 (iadd .u64 (imul .u64 (ishr .u64 a0 32) (ishr .u64 a1 32)) (ishr .u64 (iadd .u64 (imul .u64 (ishr .u64 a0 32) (ibits .and .u64 a1 4294967295)) (ishr .u64 (imul .u64 (ibits .and .u64 a0 4294967295) (ibits .and .u64 a1 4294967295)) 32)) 32)) (ishr .u64 (iadd .u64 (ibits .and .u64 (iadd .u64 (imul .u64 (ishr .u64 a0 32) (ibits .and .u64 a1 4294967295)) (ishr .u64 (imul .u64 (ibits .and .u64 a0 4294967295) (ibits .and .u64 a1 4294967295)) 32)) 4294967295) (imul .u64 (ibits .and .u64 a0 4294967295) (ishr .u64 a1 32))) 32)), (imul .u64 a0 a1))
noncomputable def bits_Mul64.sp (k : Nat) : Go.Sx.Spec := ⟨(.pair T12 (.pair T12 .unit)), (.more (.dp T12) (.one (.dp T12))), fun x => bits_Mul64 k x.1 x.2.1, false⟩
noncomputable def bits_Mul64.cx (k : Nat) : Go.Sx.Ctx := ⟨tys, [], eqs, 51, 0, [], false⟩
theorem bits_Mul64.cok (k : Nat) : CtxOk PR (bits_Mul64.cx k) := ctx_ok tysOk eqsOk FnsOk.nil HsOk.nil
theorem bits_Mul64.way (k : Nat) (a0 : Int) (a1 : Int) : Owp (bits_Mul64 k a0 a1) fun y => ∃ answers cmds, exec PR (bits_Mul64.cx k) bits_Mul64.code 0 (entry (.pair T12 (.pair T12 .unit)) (a0, a1, ())).st answers (Ret (bits_Mul64.cx k) Try.f161 cmds (.more (.dp T12) (.one (.dp T12))) y) := by
  unfold bits_Mul64; exact
   Owp.some (⟨[], [], via (retP (And.intro (And.intro (And.intro (And.intro (And.intro trivial (by decide : ng (32 : Int))) (by decide : ng (32 : Int))) (by decide : ng (32 : Int))) (by decide : ng (32 : Int))) (by decide : ng (32 : Int))) (.more (.dp T12) (.one (.dp T12))) (((iadd .u64 (iadd .u64 (imul .u64 (ishr .u64 a0 (32 : Int)) (ishr .u64 a1 (32 : Int))) (ishr .u64 (iadd .u64 (imul .u64 (ishr .u64 a0 (32 : Int)) (ibits .and .u64 a1 (4294967295 : Int))) (ishr .u64 (imul .u64 (ibits .and .u64 a0 (4294967295 : Int)) (ibits .and .u64 a1 (4294967295 : Int))) (32 : Int))) (32 : Int))) (ishr .u64 (iadd .u64 (ibits .and .u64 (iadd .u64 (imul .u64 (ishr .u64 a0 (32 : Int)) (ibits .and .u64 a1 (4294967295 : Int))) (ishr .u64 (imul .u64 (ibits .and .u64 a0 (4294967295 : Int)) (ibits .and .u64 a1 (4294967295 : Int))) (32 : Int))) (4294967295 : Int)) (imul .u64 (ibits .and .u64 a0 (4294967295 : Int)) (ishr .u64 a1 (32 : Int)))) (32 : Int))), (imul .u64 a0 a1)) : (Int × Int))) (by kernel_rfl)⟩)
theorem bits_Mul64.ok (k : Nat) : FnOk PR 161 (bits_Mul64.sp k) :=
  fn_ok (bits_Mul64.cok k) hmix Try.func161 (code := bits_Mul64.code) (by kernel_rfl) (by kernel_rfl) (by kernel_rfl) rfl rfl (by kernel_rfl) (by kernel_rfl) (by kernel_rfl) (fun x => Nat.le_of_ble_eq_true (by kernel_rfl)) fun x y hy => (bits_Mul64.way k x.1 x.2.1).ap hy

/-! tourney/poly.Times -/
noncomputable def poly_Times.code : Code := Func.cd Try.f96
def poly_Times.c1 (k : Nat) (a0 : Int) (a1 : Int) (y1 : (Int × Int)) : Option (Int) :=
  bif' (ilt a0 0)
  (some (isub .i64 (icv .i64 y1.1) a1))
  (some (icv .i64 y1.1))
def poly_Times.c2 (k : Nat) (a0 : Int) (a1 : Int) (o4 : Int) : Option (Int) :=
  bif' (ilt a1 0)
  (some (isub .i64 o4 a0))
  (some o4)
def poly_Times (k : Nat) (a0 : Int) (a1 : Int) : Option V90 :=
  bnd (bits_Mul64 k (icv .u64 a0) (icv .u64 a1)) fun y1 =>
  bnd (poly_Times.c1 k a0 a1 y1) fun o4 =>
  bnd (poly_Times.c2 k a0 a1 o4) fun o7 =>
  some (o7, y1.2, ())
noncomputable def poly_Times.sp (k : Nat) : Go.Sx.Spec := ⟨T22, (.one (.dp T90)), fun x => poly_Times k x.1 x.2.1, false⟩
noncomputable def poly_Times.cx (k : Nat) : Go.Sx.Ctx := ⟨tys, [(161, bits_Mul64.sp k)], eqs, 31, 0, [], false⟩
theorem poly_Times.cok (k : Nat) : CtxOk PR (poly_Times.cx k) := ctx_ok tysOk eqsOk (FnsOk.cons (bits_Mul64.ok k) FnsOk.nil) HsOk.nil
noncomputable def poly_Times.c1p (a0 : Int) (a1 : Int) (y1 : (Int × Int)) : SL := ⟨[(0, (.val T2 a0)), (1, (.val T2 a1)), (4, (.val .ptr ⟨0, 0, (0 : Int), 0, 0⟩)), (6, (.val T12 y1.2)), (7, (.val T2 (icv .i64 y1.1))), (19, (.val T4 (ilt a0 (0 : Int))))], [(0, .cells T90 ((0 : Int), (0 : Int), ()))]⟩
noncomputable def poly_Times.c1q (a0 : Int) (a1 : Int) (y1 : (Int × Int)) (o : Int) : SL := (fun v => ⟨[(0, (.val T2 a0)), (1, (.val T2 a1)), (4, (.val .ptr ⟨0, 0, (0 : Int), 0, 0⟩)), (6, (.val T12 y1.2)), (7, (.val T2 v))], [(0, .cells T90 ((0 : Int), (0 : Int), ()))]⟩) o
noncomputable def poly_Times.c1x (o : Int) : Ex := (fun _ => .normal) o
noncomputable def poly_Times.c1n (o : Int) : Nat := (fun _ => 1) o
theorem poly_Times.c1_ok (k : Nat) (a0 : Int) (a1 : Int) (y1 : (Int × Int)) : Owp (poly_Times.c1 k a0 a1 y1) fun o => Triple PR (poly_Times.cx k) (sub poly_Times.code [1, 1, 1, 0, 1]) 1 (poly_Times.c1p a0 a1 y1) (poly_Times.c1x o) (poly_Times.c1n o) (poly_Times.c1q a0 a1 y1 o) := by
  unfold poly_Times.c1; exact
   Owp.bif (fun e3 =>
   Owp.some (triple_way (poly_Times.cok k) hmix [.dec true] [] [(0, 0)] (via (finP (And.intro trivial e3) .normal [(0, 0)] (poly_Times.c1q a0 a1 y1 (isub .i64 (icv .i64 y1.1) a1))) (by kernel_rfl)))) (fun e3 =>
   Owp.some (triple_way (poly_Times.cok k) hmix [.dec false] [] [(0, 0)] (via (finP (And.intro trivial e3) .normal [(0, 0)] (poly_Times.c1q a0 a1 y1 (icv .i64 y1.1))) (by kernel_rfl))))
noncomputable def poly_Times.c2p (a0 : Int) (a1 : Int) (o4 : Int) (y1 : (Int × Int)) : SL := ⟨[(0, (.val T2 a0)), (4, (.val .ptr ⟨0, 0, (0 : Int), 0, 0⟩)), (6, (.val T12 y1.2)), (7, (.val T2 o4)), (24, (.val T4 (ilt a1 (0 : Int))))], [(0, .cells T90 ((0 : Int), (0 : Int), ()))]⟩
noncomputable def poly_Times.c2q (y1 : (Int × Int)) (o : Int) : SL := (fun v => ⟨[(4, (.val .ptr ⟨0, 0, (0 : Int), 0, 0⟩)), (6, (.val T12 y1.2)), (7, (.val T2 v))], [(0, .cells T90 ((0 : Int), (0 : Int), ()))]⟩) o
noncomputable def poly_Times.c2x (o : Int) : Ex := (fun _ => .normal) o
noncomputable def poly_Times.c2n (o : Int) : Nat := (fun _ => 1) o
theorem poly_Times.c2_ok (k : Nat) (a0 : Int) (a1 : Int) (o4 : Int) (y1 : (Int × Int)) : Owp (poly_Times.c2 k a0 a1 o4) fun o => Triple PR (poly_Times.cx k) (sub poly_Times.code [1, 1, 1, 1, 0, 1]) 1 (poly_Times.c2p a0 a1 o4 y1) (poly_Times.c2x o) (poly_Times.c2n o) (poly_Times.c2q y1 o) := by
  unfold poly_Times.c2; exact
   Owp.bif (fun e6 =>
   Owp.some (triple_way (poly_Times.cok k) hmix [.dec true] [] [(0, 0)] (via (finP (And.intro trivial e6) .normal [(0, 0)] (poly_Times.c2q y1 (isub .i64 o4 a0))) (by kernel_rfl)))) (fun e6 =>
   Owp.some (triple_way (poly_Times.cok k) hmix [.dec false] [] [(0, 0)] (via (finP (And.intro trivial e6) .normal [(0, 0)] (poly_Times.c2q y1 o4)) (by kernel_rfl))))
theorem poly_Times.way (k : Nat) (a0 : Int) (a1 : Int) : Owp (poly_Times k a0 a1) fun y => ∃ answers cmds, exec PR (poly_Times.cx k) poly_Times.code 0 (entry T22 (a0, a1, ())).st answers (Ret (poly_Times.cx k) Try.f96 cmds (.one (.dp T90)) y) := by
  unfold poly_Times; exact
   Owp.bnd fun y1 e2 =>
   Owp.bnd fun o4 e5 =>
   Owp.bnd fun o7 e8 =>
   Owp.some (⟨[.res (.more (.dp T12) (.one (.dp T12))) y1, .cut ⟨[], [(0, 0)], (poly_Times.c1p a0 a1 y1), 1, .normal, (poly_Times.c1q a0 a1 y1 o4), 1⟩, .cut ⟨[], [(0, 0)], (poly_Times.c2p a0 a1 o4 y1), 1, .normal, (poly_Times.c2q y1 o7), 1⟩], [], via (cutP (And.intro trivial e2) [(0, 0)] (poly_Times.c1p a0 a1 y1) (((poly_Times.c1_ok k a0 a1 y1).ap e5)) (cutP trivial [(0, 0)] (poly_Times.c2p a0 a1 o4 y1) (((poly_Times.c2_ok k a0 a1 o4 y1).ap e8)) (retP trivial (.one (.dp T90)) ((o7, y1.2, ()) : V90)))) (by kernel_rfl)⟩)
theorem poly_Times.ok (k : Nat) : FnOk PR 96 (poly_Times.sp k) :=
  fn_ok (poly_Times.cok k) hmix Try.func96 (code := poly_Times.code) (by kernel_rfl) (by kernel_rfl) (by kernel_rfl) rfl rfl (by kernel_rfl) (by kernel_rfl) (by kernel_rfl) (fun x => Nat.le_of_ble_eq_true (by kernel_rfl)) fun x y hy => (poly_Times.way k x.1 x.2.1).ap hy

/-! (tourney/poly.Wide).Cmp -/
noncomputable def poly_Wide_Cmp.code : Code := Func.cd Try.f67
def poly_Wide_Cmp.c1 (k : Nat) (a0 : V90) (a1 : V90) : Option (Bool) :=
  bif' (ilt a0.1 a1.1)
  (some true)
  (bif' (ieq a0.1 a1.1)
   (some (ilt a0.2.1 a1.2.1))
   (some false))
def poly_Wide_Cmp (k : Nat) (a0 : V90) (a1 : V90) : Option Int :=
  bif' (Ty.eqb T90 a0 a1)
  (some 0)
  (bnd (poly_Wide_Cmp.c1 k a0 a1) fun o4 =>
   bif' o4
   (some (-1))
   (some 1))
noncomputable def poly_Wide_Cmp.sp (k : Nat) : Go.Sx.Spec := ⟨(.pair T90 (.pair T90 .unit)), (.one (.dp T2)), fun x => poly_Wide_Cmp k x.1 x.2.1, false⟩
noncomputable def poly_Wide_Cmp.cx (k : Nat) : Go.Sx.Ctx := ⟨tys, [], eqs, 29, 0, [], false⟩
theorem poly_Wide_Cmp.cok (k : Nat) : CtxOk PR (poly_Wide_Cmp.cx k) := ctx_ok tysOk eqsOk FnsOk.nil HsOk.nil
noncomputable def poly_Wide_Cmp.c1p (a0 : V90) (a1 : V90) : SL := ⟨[(2, (.val .ptr ⟨0, 0, (0 : Int), 0, 0⟩)), (3, (.val .ptr ⟨1, 0, (0 : Int), 0, 0⟩))], [(0, .cells T90 a0), (1, .cells T90 a1)]⟩
noncomputable def poly_Wide_Cmp.c1q (o : Bool) : SL := (fun v => ⟨[(9, (.val T4 v))], []⟩) o
noncomputable def poly_Wide_Cmp.c1x (o : Bool) : Ex := (fun _ => .normal) o
noncomputable def poly_Wide_Cmp.c1n (o : Bool) : Nat := (fun _ => 0) o
theorem poly_Wide_Cmp.c1_ok (k : Nat) (a0 : V90) (a1 : V90) : Owp (poly_Wide_Cmp.c1 k a0 a1) fun o => Triple PR (poly_Wide_Cmp.cx k) (sub poly_Wide_Cmp.code [1, 0, 0, 1, 1, 0]) 2 (poly_Wide_Cmp.c1p a0 a1) (poly_Wide_Cmp.c1x o) (poly_Wide_Cmp.c1n o) (poly_Wide_Cmp.c1q o) := by
  unfold poly_Wide_Cmp.c1; exact
   Owp.bif (fun e2 =>
   Owp.some (triple_way (poly_Wide_Cmp.cok k) hmix [.dec true, .dec true, .dec true, .dec true, .dec true, .dec true, .dec true, .dec true, .dec true, .dec true, .dec true, .dec true, .dec true, .dec true] [] [] (via (finP (And.intro (And.intro (And.intro (And.intro (And.intro (And.intro (And.intro (And.intro trivial e2) e2) e2) e2) e2) e2) e2) e2) .normal [] (poly_Wide_Cmp.c1q true)) (by kernel_rfl)))) (fun e2 =>
   Owp.bif (fun e3 =>
    Owp.some (triple_way (poly_Wide_Cmp.cok k) hmix [.dec false, .dec false, .dec false, .dec false, .dec false, .dec false, .dec true, .dec true, .dec true, .dec true, .dec true, .dec false, .dec true, .dec false] [] [] (via (finP (And.intro (And.intro (And.intro (And.intro (And.intro (And.intro (And.intro (And.intro (And.intro (And.intro (And.intro (And.intro (And.intro trivial e2) e2) e2) e2) e2) e2) e3) e3) e3) e3) e3) (And.intro e2 e3)) e2) .normal [] (poly_Wide_Cmp.c1q (ilt a0.2.1 a1.2.1))) (by kernel_rfl)))) (fun e3 =>
    Owp.some (triple_way (poly_Wide_Cmp.cok k) hmix [.dec false, .dec false, .dec false, .dec false, .dec false, .dec false, .dec false, .dec false, .dec false, .dec false, .dec false, .dec false, .dec false, .dec false] [] [] (via (finP (And.intro (And.intro (And.intro (And.intro (And.intro (And.intro (And.intro (And.intro (And.intro (And.intro (And.intro (And.intro (And.intro trivial e2) e2) e2) e2) e2) e2) e3) e3) e3) e3) e3) (And.intro e2 e3)) e2) .normal [] (poly_Wide_Cmp.c1q false)) (by kernel_rfl)))))
theorem poly_Wide_Cmp.way (k : Nat) (a0 : V90) (a1 : V90) : Owp (poly_Wide_Cmp k a0 a1) fun y => ∃ answers cmds, exec PR (poly_Wide_Cmp.cx k) poly_Wide_Cmp.code 0 (entry (.pair T90 (.pair T90 .unit)) (a0, a1, ())).st answers (Ret (poly_Wide_Cmp.cx k) Try.f67 cmds (.one (.dp T2)) y) := by
  unfold poly_Wide_Cmp; exact
   Owp.bif (fun e1 =>
   Owp.some (⟨[.dec true], [], via (retP (And.intro trivial e1) (.one (.dp T2)) ((0 : Int) : Int)) (by kernel_rfl)⟩)) (fun e1 =>
   Owp.bnd fun o4 e5 =>
    Owp.bif (fun e6 =>
    Owp.some (⟨[.dec false, .cutR 3 ⟨[], [(0, 0), (1, 1)], (poly_Wide_Cmp.c1p a0 a1), 2, .normal, (poly_Wide_Cmp.c1q o4), 0⟩, .dec true], [], via (cutP (And.intro trivial e1) [(0, 0), (1, 1)] (poly_Wide_Cmp.c1p a0 a1) (((poly_Wide_Cmp.c1_ok k a0 a1).ap e5)) (retP (And.intro trivial e6) (.one (.dp T2)) ((-1 : Int) : Int))) (by kernel_rfl)⟩)) (fun e6 =>
    Owp.some (⟨[.dec false, .cutR 3 ⟨[], [(0, 0), (1, 1)], (poly_Wide_Cmp.c1p a0 a1), 2, .normal, (poly_Wide_Cmp.c1q o4), 0⟩, .dec false], [], via (cutP (And.intro trivial e1) [(0, 0), (1, 1)] (poly_Wide_Cmp.c1p a0 a1) (((poly_Wide_Cmp.c1_ok k a0 a1).ap e5)) (retP (And.intro trivial e6) (.one (.dp T2)) ((1 : Int) : Int))) (by kernel_rfl)⟩)))
theorem poly_Wide_Cmp.ok (k : Nat) : FnOk PR 67 (poly_Wide_Cmp.sp k) :=
  fn_ok (poly_Wide_Cmp.cok k) hmix Try.func67 (code := poly_Wide_Cmp.code) (by kernel_rfl) (by kernel_rfl) (by kernel_rfl) rfl rfl (by kernel_rfl) (by kernel_rfl) (by kernel_rfl) (fun x => Nat.le_of_ble_eq_true (by kernel_rfl)) fun x y hy => (poly_Wide_Cmp.way k x.1 x.2.1).ap hy

/-! math/bits.Len64 -/
noncomputable def bits_Len64.code : Code := Func.cd Try.f202
def bits_Len64.c1 (k : Nat) (a0 : Int) : Option ((Int × Int)) :=
  bif' (ige a0 4294967296)
  (some ((ishr .u64 a0 32), 32))
  (some (a0, 0))
def bits_Len64.c2 (k : Nat) (o2 : (Int × Int)) : Option ((Int × Int)) :=
  bif' (ige o2.1 65536)
  (some ((ishr .u64 o2.1 16), (iadd .i64 o2.2 16)))
  (some (o2.1, o2.2))
def bits_Len64.c3 (k : Nat) (o5 : (Int × Int)) : Option ((Int × Int)) :=
  bif' (ige o5.1 256)
  (some ((ishr .u64 o5.1 8), (iadd .i64 o5.2 8)))
  (some (o5.1, o5.2))
def bits_Len64 (k : Nat) (a0 : Int) : Option Int :=
  bnd (bits_Len64.c1 k a0) fun o2 =>
  bnd (bits_Len64.c2 k o2) fun o5 =>
  bnd (bits_Len64.c3 k o5) fun o8 =>
  req (inR (icv .u8 o8.1) 256) <|
  some (iadd .i64 o8.2 (icv .i64 (strAt str0 (icv .u8 o8.1))))
noncomputable def bits_Len64.sp (k : Nat) : Go.Sx.Spec := ⟨(.pair T12 .unit), (.one (.dp T2)), fun x => bits_Len64 k x.1, false⟩
noncomputable def bits_Len64.cx (k : Nat) : Go.Sx.Ctx := ⟨tys, [], eqs, 25, 0, [], false⟩
theorem bits_Len64.cok (k : Nat) : CtxOk PR (bits_Len64.cx k) := ctx_ok tysOk eqsOk FnsOk.nil HsOk.nil
noncomputable def bits_Len64.c1p (a0 : Int) : SL := ⟨[(0, (.val T12 a0)), (2, (.val T2 (0 : Int))), (4, (.val T4 (ige a0 (4294967296 : Int))))], []⟩
noncomputable def bits_Len64.c1q (o : (Int × Int)) : SL := (fun v => ⟨[(0, (.val T12 v.1)), (2, (.val T2 v.2))], []⟩) o
noncomputable def bits_Len64.c1x (o : (Int × Int)) : Ex := (fun _ => .normal) o
noncomputable def bits_Len64.c1n (o : (Int × Int)) : Nat := (fun _ => 0) o
theorem bits_Len64.c1_ok (k : Nat) (a0 : Int) : Owp (bits_Len64.c1 k a0) fun o => Triple PR (bits_Len64.cx k) (sub bits_Len64.code [1, 0, 1]) 0 (bits_Len64.c1p a0) (bits_Len64.c1x o) (bits_Len64.c1n o) (bits_Len64.c1q o) := by
  unfold bits_Len64.c1; exact
   Owp.bif (fun e1 =>
   Owp.some (triple_way (bits_Len64.cok k) hmix [.dec true] [] [] (via (finP (And.intro (And.intro trivial e1) (by decide : ng (32 : Int))) .normal [] (bits_Len64.c1q ((ishr .u64 a0 (32 : Int)), (32 : Int)))) (by kernel_rfl)))) (fun e1 =>
   Owp.some (triple_way (bits_Len64.cok k) hmix [.dec false] [] [] (via (finP (And.intro trivial e1) .normal [] (bits_Len64.c1q (a0, (0 : Int)))) (by kernel_rfl))))
noncomputable def bits_Len64.c2p (o2 : (Int × Int)) : SL := ⟨[(0, (.val T12 o2.1)), (2, (.val T2 o2.2)), (8, (.val T4 (ige o2.1 (65536 : Int))))], []⟩
noncomputable def bits_Len64.c2q (o : (Int × Int)) : SL := (fun v => ⟨[(0, (.val T12 v.1)), (2, (.val T2 v.2))], []⟩) o
noncomputable def bits_Len64.c2x (o : (Int × Int)) : Ex := (fun _ => .normal) o
noncomputable def bits_Len64.c2n (o : (Int × Int)) : Nat := (fun _ => 0) o
theorem bits_Len64.c2_ok (k : Nat) (o2 : (Int × Int)) : Owp (bits_Len64.c2 k o2) fun o => Triple PR (bits_Len64.cx k) (sub bits_Len64.code [1, 1, 0, 1]) 0 (bits_Len64.c2p o2) (bits_Len64.c2x o) (bits_Len64.c2n o) (bits_Len64.c2q o) := by
  unfold bits_Len64.c2; exact
   Owp.bif (fun e4 =>
   Owp.some (triple_way (bits_Len64.cok k) hmix [.dec true] [] [] (via (finP (And.intro (And.intro trivial e4) (by decide : ng (16 : Int))) .normal [] (bits_Len64.c2q ((ishr .u64 o2.1 (16 : Int)), (iadd .i64 o2.2 (16 : Int))))) (by kernel_rfl)))) (fun e4 =>
   Owp.some (triple_way (bits_Len64.cok k) hmix [.dec false] [] [] (via (finP (And.intro trivial e4) .normal [] (bits_Len64.c2q (o2.1, o2.2))) (by kernel_rfl))))
noncomputable def bits_Len64.c3p (o5 : (Int × Int)) : SL := ⟨[(0, (.val T12 o5.1)), (2, (.val T2 o5.2)), (14, (.val T4 (ige o5.1 (256 : Int))))], []⟩
noncomputable def bits_Len64.c3q (o : (Int × Int)) : SL := (fun v => ⟨[(0, (.val T12 v.1)), (2, (.val T2 v.2))], []⟩) o
noncomputable def bits_Len64.c3x (o : (Int × Int)) : Ex := (fun _ => .normal) o
noncomputable def bits_Len64.c3n (o : (Int × Int)) : Nat := (fun _ => 0) o
theorem bits_Len64.c3_ok (k : Nat) (o5 : (Int × Int)) : Owp (bits_Len64.c3 k o5) fun o => Triple PR (bits_Len64.cx k) (sub bits_Len64.code [1, 1, 1, 0, 1]) 0 (bits_Len64.c3p o5) (bits_Len64.c3x o) (bits_Len64.c3n o) (bits_Len64.c3q o) := by
  unfold bits_Len64.c3; exact
   Owp.bif (fun e7 =>
   Owp.some (triple_way (bits_Len64.cok k) hmix [.dec true] [] [] (via (finP (And.intro (And.intro trivial e7) (by decide : ng (8 : Int))) .normal [] (bits_Len64.c3q ((ishr .u64 o5.1 (8 : Int)), (iadd .i64 o5.2 (8 : Int))))) (by kernel_rfl)))) (fun e7 =>
   Owp.some (triple_way (bits_Len64.cok k) hmix [.dec false] [] [] (via (finP (And.intro trivial e7) .normal [] (bits_Len64.c3q (o5.1, o5.2))) (by kernel_rfl))))
theorem bits_Len64.way (k : Nat) (a0 : Int) : Owp (bits_Len64 k a0) fun y => ∃ answers cmds, exec PR (bits_Len64.cx k) bits_Len64.code 0 (entry (.pair T12 .unit) (a0, ())).st answers (Ret (bits_Len64.cx k) Try.f202 cmds (.one (.dp T2)) y) := by
  unfold bits_Len64; exact
   Owp.bnd fun o2 e3 =>
   Owp.bnd fun o5 e6 =>
   Owp.bnd fun o8 e9 =>
   Owp.req fun h10 =>
   Owp.some (⟨[.cut ⟨[], [], (bits_Len64.c1p a0), 0, .normal, (bits_Len64.c1q o2), 0⟩, .cut ⟨[], [], (bits_Len64.c2p o2), 0, .normal, (bits_Len64.c2q o5), 0⟩, .cut ⟨[], [], (bits_Len64.c3p o5), 0, .normal, (bits_Len64.c3q o8), 0⟩], [], via (cutP trivial [] (bits_Len64.c1p a0) (((bits_Len64.c1_ok k a0).ap e3)) (cutP trivial [] (bits_Len64.c2p o2) (((bits_Len64.c2_ok k o2).ap e6)) (cutP trivial [] (bits_Len64.c3p o5) (((bits_Len64.c3_ok k o5).ap e9)) (retP (And.intro trivial h10) (.one (.dp T2)) ((iadd .i64 o8.2 (icv .i64 (strAt str0 (icv .u8 o8.1)))) : Int))))) (by kernel_rfl)⟩)
theorem bits_Len64.ok (k : Nat) : FnOk PR 202 (bits_Len64.sp k) :=
  fn_ok (bits_Len64.cok k) hmix Try.func202 (code := bits_Len64.code) (by kernel_rfl) (by kernel_rfl) (by kernel_rfl) rfl rfl (by kernel_rfl) (by kernel_rfl) (by kernel_rfl) (fun x => Nat.le_of_ble_eq_true (by kernel_rfl)) fun x y hy => (bits_Len64.way k x.1).ap hy

/-! math/bits.LeadingZeros64 -/
noncomputable def bits_LeadingZeros64.code : Code := Func.cd Try.f196
def bits_LeadingZeros64 (k : Nat) (a0 : Int) : Option Int :=
  bnd (bits_Len64 k a0) fun y1 =>
  some (isub .i64 64 y1)
noncomputable def bits_LeadingZeros64.sp (k : Nat) : Go.Sx.Spec := ⟨(.pair T12 .unit), (.one (.dp T2)), fun x => bits_LeadingZeros64 k x.1, false⟩
noncomputable def bits_LeadingZeros64.cx (k : Nat) : Go.Sx.Ctx := ⟨tys, [(202, bits_Len64.sp k)], eqs, 6, 0, [], false⟩
theorem bits_LeadingZeros64.cok (k : Nat) : CtxOk PR (bits_LeadingZeros64.cx k) := ctx_ok tysOk eqsOk (FnsOk.cons (bits_Len64.ok k) FnsOk.nil) HsOk.nil
theorem bits_LeadingZeros64.way (k : Nat) (a0 : Int) : Owp (bits_LeadingZeros64 k a0) fun y => ∃ answers cmds, exec PR (bits_LeadingZeros64.cx k) bits_LeadingZeros64.code 0 (entry (.pair T12 .unit) (a0, ())).st answers (Ret (bits_LeadingZeros64.cx k) Try.f196 cmds (.one (.dp T2)) y) := by
  unfold bits_LeadingZeros64; exact
   Owp.bnd fun y1 e2 =>
   Owp.some (⟨[.res (.one (.dp T2)) y1], [], via (retP (And.intro trivial e2) (.one (.dp T2)) ((isub .i64 (64 : Int) y1) : Int)) (by kernel_rfl)⟩)
theorem bits_LeadingZeros64.ok (k : Nat) : FnOk PR 196 (bits_LeadingZeros64.sp k) :=
  fn_ok (bits_LeadingZeros64.cok k) hmix Try.func196 (code := bits_LeadingZeros64.code) (by kernel_rfl) (by kernel_rfl) (by kernel_rfl) rfl rfl (by kernel_rfl) (by kernel_rfl) (by kernel_rfl) (fun x => Nat.le_of_ble_eq_true (by kernel_rfl)) fun x y hy => (bits_LeadingZeros64.way k x.1).ap hy

/-! math/bits.Div64 -/
noncomputable def bits_Div64.code : Code := Func.cd Try.f162
def bits_Div64.c2 (k : Nat) (a1 : Int) (a2 : Int) (v10 : Int) (v11 : Int) (y5 : Int) : Option (Bool) :=
  bif' (ige v10 4294967296)
  (some true)
  (some (igt (imul .u64 v10 (ibits .and .u64 (ishl .u64 a2 (icv .u64 y5)) 4294967295)) (iadd .u64 (imul .u64 4294967296 v11) (ishr .u64 (ishl .u64 a1 (icv .u64 y5)) 32))))
def bits_Div64.c1 (k : Nat) (a1 : Int) (a2 : Int) (y5 : Int) : Nat → Int → Int → Option (Int)
  | 0, _, _ => none
  | n + 1, v10, v11 =>
   bnd (bits_Div64.c2 k a1 a2 v10 v11 y5) fun o13 =>
   bif' o13
   (bif' (ige (iadd .u64 v11 (ishr .u64 (ishl .u64 a2 (icv .u64 y5)) 32)) 4294967296)
    (some (isub .u64 v10 1))
    (bits_Div64.c1 k a1 a2 y5 n (isub .u64 v10 1) (iadd .u64 v11 (ishr .u64 (ishl .u64 a2 (icv .u64 y5)) 32))))
   (some v10)
def bits_Div64.c4 (k : Nat) (a1 : Int) (a2 : Int) (v19 : Int) (v20 : Int) (y5 : Int) : Option (Bool) :=
  bif' (ige v20 4294967296)
  (some true)
  (some (igt (imul .u64 v20 (ibits .and .u64 (ishl .u64 a2 (icv .u64 y5)) 4294967295)) (iadd .u64 (imul .u64 4294967296 v19) (ibits .and .u64 (ishl .u64 a1 (icv .u64 y5)) 4294967295))))
def bits_Div64.c3 (k : Nat) (a1 : Int) (a2 : Int) (y5 : Int) : Nat → Int → Int → Option (Int)
  | 0, _, _ => none
  | n + 1, v19, v20 =>
   bnd (bits_Div64.c4 k a1 a2 v19 v20 y5) fun o22 =>
   bif' o22
   (bif' (ige (iadd .u64 v19 (ishr .u64 (ishl .u64 a2 (icv .u64 y5)) 32)) 4294967296)
    (some (isub .u64 v20 1))
    (bits_Div64.c3 k a1 a2 y5 n (iadd .u64 v19 (ishr .u64 (ishl .u64 a2 (icv .u64 y5)) 32)) (isub .u64 v20 1)))
   (some v20)
def bits_Div64 (k : Nat) (a0 : Int) (a1 : Int) (a2 : Int) : Option (Int × Int) :=
  bif' (ieq a2 0)
  (none)
  (bif' (ile a2 a0)
   (none)
   (bif' (ieq a0 0)
    (req (nz a2) <|
     some ((iquo .u64 a1 a2), (irem a1 a2)))
    (bnd (bits_LeadingZeros64 k a2) fun y5 =>
     req (ng (icv .u64 y5)) <|
     req (ng (isub .u64 64 (icv .u64 y5))) <|
     req (nz (ishr .u64 (ishl .u64 a2 (icv .u64 y5)) 32)) <|
     bnd (bits_Div64.c1 k a1 a2 y5 k (iquo .u64 (ibits .or .u64 (ishl .u64 a0 (icv .u64 y5)) (ishr .u64 a1 (isub .u64 64 (icv .u64 y5)))) (ishr .u64 (ishl .u64 a2 (icv .u64 y5)) 32)) (isub .u64 (ibits .or .u64 (ishl .u64 a0 (icv .u64 y5)) (ishr .u64 a1 (isub .u64 64 (icv .u64 y5)))) (imul .u64 (iquo .u64 (ibits .or .u64 (ishl .u64 a0 (icv .u64 y5)) (ishr .u64 a1 (isub .u64 64 (icv .u64 y5)))) (ishr .u64 (ishl .u64 a2 (icv .u64 y5)) 32)) (ishr .u64 (ishl .u64 a2 (icv .u64 y5)) 32)))) fun o17 =>
     bnd (bits_Div64.c3 k a1 a2 y5 k (isub .u64 (isub .u64 (iadd .u64 (imul .u64 (ibits .or .u64 (ishl .u64 a0 (icv .u64 y5)) (ishr .u64 a1 (isub .u64 64 (icv .u64 y5)))) 4294967296) (ishr .u64 (ishl .u64 a1 (icv .u64 y5)) 32)) (imul .u64 o17 (ishl .u64 a2 (icv .u64 y5)))) (imul .u64 (iquo .u64 (isub .u64 (iadd .u64 (imul .u64 (ibits .or .u64 (ishl .u64 a0 (icv .u64 y5)) (ishr .u64 a1 (isub .u64 64 (icv .u64 y5)))) 4294967296) (ishr .u64 (ishl .u64 a1 (icv .u64 y5)) 32)) (imul .u64 o17 (ishl .u64 a2 (icv .u64 y5)))) (ishr .u64 (ishl .u64 a2 (icv .u64 y5)) 32)) (ishr .u64 (ishl .u64 a2 (icv .u64 y5)) 32))) (iquo .u64 (isub .u64 (iadd .u64 (imul .u64 (ibits .or .u64 (ishl .u64 a0 (icv .u64 y5)) (ishr .u64 a1 (isub .u64 64 (icv .u64 y5)))) 4294967296) (ishr .u64 (ishl .u64 a1 (icv .u64 y5)) 32)) (imul .u64 o17 (ishl .u64 a2 (icv .u64 y5)))) (ishr .u64 (ishl .u64 a2 (icv .u64 y5)) 32))) fun o26 =>
     some ((iadd .u64 (imul .u64 o17 4294967296) o26), (ishr .u64 (isub .u64 (iadd .u64 (imul .u64 (isub .u64 (iadd .u64 (imul .u64 (ibits .or .u64 (ishl .u64 a0 (icv .u64 y5)) (ishr .u64 a1 (isub .u64 64 (icv .u64 y5)))) 4294967296) (ishr .u64 (ishl .u64 a1 (icv .u64 y5)) 32)) (imul .u64 o17 (ishl .u64 a2 (icv .u64 y5)))) 4294967296) (ibits .and .u64 (ishl .u64 a1 (icv .u64 y5)) 4294967295)) (imul .u64 o26 (ishl .u64 a2 (icv .u64 y5)))) (icv .u64 y5))))))
noncomputable def bits_Div64.sp (k : Nat) : Go.Sx.Spec := ⟨(.pair T12 (.pair T12 (.pair T12 .unit))), (.more (.dp T12) (.one (.dp T12))), fun x => bits_Div64 k x.1 x.2.1 x.2.2.1, false⟩
noncomputable def bits_Div64.cx (k : Nat) : Go.Sx.Ctx := ⟨tys, [(196, bits_LeadingZeros64.sp k)], eqs, 135, 0, [], false⟩
theorem bits_Div64.cok (k : Nat) : CtxOk PR (bits_Div64.cx k) := ctx_ok tysOk eqsOk (FnsOk.cons (bits_LeadingZeros64.ok k) FnsOk.nil) HsOk.nil
noncomputable def bits_Div64.c2p (a0 : Int) (a1 : Int) (a2 : Int) (v10 : Int) (v11 : Int) (y5 : Int) : SL := ⟨[(2, (.val T12 (ishl .u64 a2 (icv .u64 y5)))), (8, (.val T12 (icv .u64 y5))), (9, (.val T12 (ishr .u64 (ishl .u64 a2 (icv .u64 y5)) (32 : Int)))), (10, (.val T12 (ibits .and .u64 (ishl .u64 a2 (icv .u64 y5)) (4294967295 : Int)))), (11, (.val T12 (ibits .or .u64 (ishl .u64 a0 (icv .u64 y5)) (ishr .u64 a1 (isub .u64 (64 : Int) (icv .u64 y5)))))), (13, (.val T12 (ishr .u64 (ishl .u64 a1 (icv .u64 y5)) (32 : Int)))), (14, (.val T12 (ibits .and .u64 (ishl .u64 a1 (icv .u64 y5)) (4294967295 : Int)))), (15, (.val T12 v10)), (16, (.val T12 v11))], []⟩
noncomputable def bits_Div64.c2q (a0 : Int) (a1 : Int) (a2 : Int) (v10 : Int) (v11 : Int) (y5 : Int) (o : Bool) : SL := (fun v => ⟨[(2, (.val T12 (ishl .u64 a2 (icv .u64 y5)))), (8, (.val T12 (icv .u64 y5))), (9, (.val T12 (ishr .u64 (ishl .u64 a2 (icv .u64 y5)) (32 : Int)))), (10, (.val T12 (ibits .and .u64 (ishl .u64 a2 (icv .u64 y5)) (4294967295 : Int)))), (11, (.val T12 (ibits .or .u64 (ishl .u64 a0 (icv .u64 y5)) (ishr .u64 a1 (isub .u64 (64 : Int) (icv .u64 y5)))))), (13, (.val T12 (ishr .u64 (ishl .u64 a1 (icv .u64 y5)) (32 : Int)))), (14, (.val T12 (ibits .and .u64 (ishl .u64 a1 (icv .u64 y5)) (4294967295 : Int)))), (15, (.val T12 v10)), (16, (.val T12 v11)), (78, (.val T4 v))], []⟩) o
noncomputable def bits_Div64.c2x (o : Bool) : Ex := (fun _ => .normal) o
noncomputable def bits_Div64.c2n (o : Bool) : Nat := (fun _ => 0) o
theorem bits_Div64.c2_ok (k : Nat) (a0 : Int) (a1 : Int) (a2 : Int) (v10 : Int) (v11 : Int) (y5 : Int) : Owp (bits_Div64.c2 k a1 a2 v10 v11 y5) fun o => Triple PR (bits_Div64.cx k) (sub bits_Div64.code [1, 1, 1, 1, 1, 1, 1, 1, 1, 1, 1, 1, 1, 1, 0, 0, 0, 0, 0]) 0 (bits_Div64.c2p a0 a1 a2 v10 v11 y5) (bits_Div64.c2x o) (bits_Div64.c2n o) (bits_Div64.c2q a0 a1 a2 v10 v11 y5 o) := by
  unfold bits_Div64.c2; exact
   Owp.bif (fun e12 =>
   Owp.some (triple_way (bits_Div64.cok k) hmix [.dec true, .dec true, .dec true, .dec true, .dec true, .dec true, .dec true, .dec true, .dec true] [] [] (via (finP (And.intro (And.intro (And.intro (And.intro (And.intro (And.intro (And.intro (And.intro (And.intro trivial e12) e12) e12) e12) e12) e12) e12) e12) e12) .normal [] (bits_Div64.c2q a0 a1 a2 v10 v11 y5 true)) (by kernel_rfl)))) (fun e12 =>
   Owp.some (triple_way (bits_Div64.cok k) hmix [.dec false, .dec false, .dec false, .dec false, .dec false, .dec false, .dec false, .dec false, .dec false] [] [] (via (finP (And.intro (And.intro (And.intro (And.intro (And.intro (And.intro (And.intro (And.intro (And.intro trivial e12) e12) e12) e12) e12) e12) e12) e12) e12) .normal [] (bits_Div64.c2q a0 a1 a2 v10 v11 y5 (igt (imul .u64 v10 (ibits .and .u64 (ishl .u64 a2 (icv .u64 y5)) (4294967295 : Int))) (iadd .u64 (imul .u64 (4294967296 : Int) v11) (ishr .u64 (ishl .u64 a1 (icv .u64 y5)) (32 : Int)))))) (by kernel_rfl))))
noncomputable def bits_Div64.c1p (a0 : Int) (a1 : Int) (a2 : Int) (y5 : Int) (v10 : Int) (v11 : Int) : SL := ⟨[(2, (.val T12 (ishl .u64 a2 (icv .u64 y5)))), (8, (.val T12 (icv .u64 y5))), (9, (.val T12 (ishr .u64 (ishl .u64 a2 (icv .u64 y5)) (32 : Int)))), (10, (.val T12 (ibits .and .u64 (ishl .u64 a2 (icv .u64 y5)) (4294967295 : Int)))), (11, (.val T12 (ibits .or .u64 (ishl .u64 a0 (icv .u64 y5)) (ishr .u64 a1 (isub .u64 (64 : Int) (icv .u64 y5)))))), (13, (.val T12 (ishr .u64 (ishl .u64 a1 (icv .u64 y5)) (32 : Int)))), (14, (.val T12 (ibits .and .u64 (ishl .u64 a1 (icv .u64 y5)) (4294967295 : Int)))), (15, (.val T12 v10)), (16, (.val T12 v11))], []⟩
noncomputable def bits_Div64.c1q (a0 : Int) (a1 : Int) (a2 : Int) (y5 : Int) (o : Int) : SL := (fun v => ⟨[(2, (.val T12 (ishl .u64 a2 (icv .u64 y5)))), (8, (.val T12 (icv .u64 y5))), (9, (.val T12 (ishr .u64 (ishl .u64 a2 (icv .u64 y5)) (32 : Int)))), (10, (.val T12 (ibits .and .u64 (ishl .u64 a2 (icv .u64 y5)) (4294967295 : Int)))), (11, (.val T12 (ibits .or .u64 (ishl .u64 a0 (icv .u64 y5)) (ishr .u64 a1 (isub .u64 (64 : Int) (icv .u64 y5)))))), (13, (.val T12 (ishr .u64 (ishl .u64 a1 (icv .u64 y5)) (32 : Int)))), (14, (.val T12 (ibits .and .u64 (ishl .u64 a1 (icv .u64 y5)) (4294967295 : Int)))), (15, (.val T12 v))], []⟩) o
noncomputable def bits_Div64.c1x (o : Int) : Ex := (fun _ => (.exit 0)) o
noncomputable def bits_Div64.c1n (o : Int) : Nat := (fun _ => 0) o
theorem bits_Div64.c1_ok (k : Nat) (a0 : Int) (a1 : Int) (a2 : Int) (y5 : Int) : ∀ (n : Nat) (v10 : Int) (v11 : Int), Owp (bits_Div64.c1 k a1 a2 y5 n v10 v11) fun o => LTriple PR (bits_Div64.cx k) (sub bits_Div64.code [1, 1, 1, 1, 1, 1, 1, 1, 1, 1, 1, 1, 1, 1, 0, 0, 0]) 0 (bits_Div64.c1p a0 a1 a2 y5 v10 v11) (bits_Div64.c1x o) (bits_Div64.c1n o) (bits_Div64.c1q a0 a1 a2 y5 o)
  | 0, _, _ => fun _ h => nomatch h
  | n + 1, v10, v11 => Owp.of (bits_Div64.c1.eq_2 ..) (
   Owp.bnd fun o13 e14 =>
   Owp.bif (fun e15 =>
   Owp.bif (fun e16 =>
    Owp.some (loop_exit (bits_Div64.cok k) hmix [.cutR 17 ⟨[], [], (bits_Div64.c2p a0 a1 a2 v10 v11 y5), 0, .normal, (bits_Div64.c2q a0 a1 a2 v10 v11 y5 o13), 0⟩, .dec true, .dec true] [] [] (exne 0) (via (cutP trivial [] (bits_Div64.c2p a0 a1 a2 v10 v11 y5) (((bits_Div64.c2_ok k a0 a1 a2 v10 v11 y5).ap e14)) (finP (And.intro (And.intro trivial e15) e16) (.exit 0) [] (bits_Div64.c1q a0 a1 a2 y5 (isub .u64 v10 (1 : Int))))) (by kernel_rfl)))) (fun e16 =>
    fun y hy => loop_back (bits_Div64.cok k) hmix 0 (bits_Div64.c1p a0 a1 a2 y5 (isub .u64 v10 (1 : Int)) (iadd .u64 v11 (ishr .u64 (ishl .u64 a2 (icv .u64 y5)) (32 : Int)))) [.cutR 17 ⟨[], [], (bits_Div64.c2p a0 a1 a2 v10 v11 y5), 0, .normal, (bits_Div64.c2q a0 a1 a2 v10 v11 y5 o13), 0⟩, .dec true, .dec false] [] [] (via (cutP trivial [] (bits_Div64.c2p a0 a1 a2 v10 v11 y5) (((bits_Div64.c2_ok k a0 a1 a2 v10 v11 y5).ap e14)) (finP (And.intro (And.intro trivial e15) e16) .normal [] (bits_Div64.c1p a0 a1 a2 y5 (isub .u64 v10 (1 : Int)) (iadd .u64 v11 (ishr .u64 (ishl .u64 a2 (icv .u64 y5)) (32 : Int)))))) (by kernel_rfl)) ((bits_Div64.c1_ok k a0 a1 a2 y5 n (isub .u64 v10 (1 : Int)) (iadd .u64 v11 (ishr .u64 (ishl .u64 a2 (icv .u64 y5)) (32 : Int)))).ap hy))) (fun e15 =>
   Owp.some (loop_exit (bits_Div64.cok k) hmix [.cutR 17 ⟨[], [], (bits_Div64.c2p a0 a1 a2 v10 v11 y5), 0, .normal, (bits_Div64.c2q a0 a1 a2 v10 v11 y5 o13), 0⟩, .dec false] [] [] (exne 0) (via (cutP trivial [] (bits_Div64.c2p a0 a1 a2 v10 v11 y5) (((bits_Div64.c2_ok k a0 a1 a2 v10 v11 y5).ap e14)) (finP (And.intro trivial e15) (.exit 0) [] (bits_Div64.c1q a0 a1 a2 y5 v10))) (by kernel_rfl)))))
noncomputable def bits_Div64.c4p (a0 : Int) (a1 : Int) (a2 : Int) (o17 : Int) (v19 : Int) (v20 : Int) (y5 : Int) : SL := ⟨[(2, (.val T12 (ishl .u64 a2 (icv .u64 y5)))), (8, (.val T12 (icv .u64 y5))), (9, (.val T12 (ishr .u64 (ishl .u64 a2 (icv .u64 y5)) (32 : Int)))), (10, (.val T12 (ibits .and .u64 (ishl .u64 a2 (icv .u64 y5)) (4294967295 : Int)))), (14, (.val T12 (ibits .and .u64 (ishl .u64 a1 (icv .u64 y5)) (4294967295 : Int)))), (15, (.val T12 o17)), (16, (.val T12 v19)), (17, (.val T12 (isub .u64 (iadd .u64 (imul .u64 (ibits .or .u64 (ishl .u64 a0 (icv .u64 y5)) (ishr .u64 a1 (isub .u64 (64 : Int) (icv .u64 y5)))) (4294967296 : Int)) (ishr .u64 (ishl .u64 a1 (icv .u64 y5)) (32 : Int))) (imul .u64 o17 (ishl .u64 a2 (icv .u64 y5)))))), (18, (.val T12 v20))], []⟩
noncomputable def bits_Div64.c4q (a0 : Int) (a1 : Int) (a2 : Int) (o17 : Int) (v19 : Int) (v20 : Int) (y5 : Int) (o : Bool) : SL := (fun v => ⟨[(2, (.val T12 (ishl .u64 a2 (icv .u64 y5)))), (8, (.val T12 (icv .u64 y5))), (9, (.val T12 (ishr .u64 (ishl .u64 a2 (icv .u64 y5)) (32 : Int)))), (10, (.val T12 (ibits .and .u64 (ishl .u64 a2 (icv .u64 y5)) (4294967295 : Int)))), (14, (.val T12 (ibits .and .u64 (ishl .u64 a1 (icv .u64 y5)) (4294967295 : Int)))), (15, (.val T12 o17)), (16, (.val T12 v19)), (17, (.val T12 (isub .u64 (iadd .u64 (imul .u64 (ibits .or .u64 (ishl .u64 a0 (icv .u64 y5)) (ishr .u64 a1 (isub .u64 (64 : Int) (icv .u64 y5)))) (4294967296 : Int)) (ishr .u64 (ishl .u64 a1 (icv .u64 y5)) (32 : Int))) (imul .u64 o17 (ishl .u64 a2 (icv .u64 y5)))))), (18, (.val T12 v20)), (113, (.val T4 v))], []⟩) o
noncomputable def bits_Div64.c4x (o : Bool) : Ex := (fun _ => .normal) o
noncomputable def bits_Div64.c4n (o : Bool) : Nat := (fun _ => 0) o
theorem bits_Div64.c4_ok (k : Nat) (a0 : Int) (a1 : Int) (a2 : Int) (o17 : Int) (v19 : Int) (v20 : Int) (y5 : Int) : Owp (bits_Div64.c4 k a1 a2 v19 v20 y5) fun o => Triple PR (bits_Div64.cx k) (sub bits_Div64.code [1, 1, 1, 1, 1, 1, 1, 1, 1, 1, 1, 1, 1, 1, 1, 1, 1, 1, 0, 0, 0, 0, 0]) 0 (bits_Div64.c4p a0 a1 a2 o17 v19 v20 y5) (bits_Div64.c4x o) (bits_Div64.c4n o) (bits_Div64.c4q a0 a1 a2 o17 v19 v20 y5 o) := by
  unfold bits_Div64.c4; exact
   Owp.bif (fun e21 =>
   Owp.some (triple_way (bits_Div64.cok k) hmix [.dec true, .dec true, .dec true, .dec true, .dec true, .dec true, .dec true, .dec true, .dec true] [] [] (via (finP (And.intro (And.intro (And.intro (And.intro (And.intro (And.intro (And.intro (And.intro (And.intro trivial e21) e21) e21) e21) e21) e21) e21) e21) e21) .normal [] (bits_Div64.c4q a0 a1 a2 o17 v19 v20 y5 true)) (by kernel_rfl)))) (fun e21 =>
   Owp.some (triple_way (bits_Div64.cok k) hmix [.dec false, .dec false, .dec false, .dec false, .dec false, .dec false, .dec false, .dec false, .dec false] [] [] (via (finP (And.intro (And.intro (And.intro (And.intro (And.intro (And.intro (And.intro (And.intro (And.intro trivial e21) e21) e21) e21) e21) e21) e21) e21) e21) .normal [] (bits_Div64.c4q a0 a1 a2 o17 v19 v20 y5 (igt (imul .u64 v20 (ibits .and .u64 (ishl .u64 a2 (icv .u64 y5)) (4294967295 : Int))) (iadd .u64 (imul .u64 (4294967296 : Int) v19) (ibits .and .u64 (ishl .u64 a1 (icv .u64 y5)) (4294967295 : Int)))))) (by kernel_rfl))))
noncomputable def bits_Div64.c3p (a0 : Int) (a1 : Int) (a2 : Int) (o17 : Int) (y5 : Int) (v19 : Int) (v20 : Int) : SL := ⟨[(2, (.val T12 (ishl .u64 a2 (icv .u64 y5)))), (8, (.val T12 (icv .u64 y5))), (9, (.val T12 (ishr .u64 (ishl .u64 a2 (icv .u64 y5)) (32 : Int)))), (10, (.val T12 (ibits .and .u64 (ishl .u64 a2 (icv .u64 y5)) (4294967295 : Int)))), (14, (.val T12 (ibits .and .u64 (ishl .u64 a1 (icv .u64 y5)) (4294967295 : Int)))), (15, (.val T12 o17)), (16, (.val T12 v19)), (17, (.val T12 (isub .u64 (iadd .u64 (imul .u64 (ibits .or .u64 (ishl .u64 a0 (icv .u64 y5)) (ishr .u64 a1 (isub .u64 (64 : Int) (icv .u64 y5)))) (4294967296 : Int)) (ishr .u64 (ishl .u64 a1 (icv .u64 y5)) (32 : Int))) (imul .u64 o17 (ishl .u64 a2 (icv .u64 y5)))))), (18, (.val T12 v20))], []⟩
noncomputable def bits_Div64.c3q (a0 : Int) (a1 : Int) (a2 : Int) (o17 : Int) (y5 : Int) (o : Int) : SL := (fun v => ⟨[(2, (.val T12 (ishl .u64 a2 (icv .u64 y5)))), (8, (.val T12 (icv .u64 y5))), (14, (.val T12 (ibits .and .u64 (ishl .u64 a1 (icv .u64 y5)) (4294967295 : Int)))), (15, (.val T12 o17)), (17, (.val T12 (isub .u64 (iadd .u64 (imul .u64 (ibits .or .u64 (ishl .u64 a0 (icv .u64 y5)) (ishr .u64 a1 (isub .u64 (64 : Int) (icv .u64 y5)))) (4294967296 : Int)) (ishr .u64 (ishl .u64 a1 (icv .u64 y5)) (32 : Int))) (imul .u64 o17 (ishl .u64 a2 (icv .u64 y5)))))), (18, (.val T12 v))], []⟩) o
noncomputable def bits_Div64.c3x (o : Int) : Ex := (fun _ => (.exit 2)) o
noncomputable def bits_Div64.c3n (o : Int) : Nat := (fun _ => 0) o
theorem bits_Div64.c3_ok (k : Nat) (a0 : Int) (a1 : Int) (a2 : Int) (o17 : Int) (y5 : Int) : ∀ (n : Nat) (v19 : Int) (v20 : Int), Owp (bits_Div64.c3 k a1 a2 y5 n v19 v20) fun o => LTriple PR (bits_Div64.cx k) (sub bits_Div64.code [1, 1, 1, 1, 1, 1, 1, 1, 1, 1, 1, 1, 1, 1, 1, 1, 1, 1, 0, 0, 0]) 0 (bits_Div64.c3p a0 a1 a2 o17 y5 v19 v20) (bits_Div64.c3x o) (bits_Div64.c3n o) (bits_Div64.c3q a0 a1 a2 o17 y5 o)
  | 0, _, _ => fun _ h => nomatch h
  | n + 1, v19, v20 => Owp.of (bits_Div64.c3.eq_2 ..) (
   Owp.bnd fun o22 e23 =>
   Owp.bif (fun e24 =>
   Owp.bif (fun e25 =>
    Owp.some (loop_exit (bits_Div64.cok k) hmix [.cutR 24 ⟨[], [], (bits_Div64.c4p a0 a1 a2 o17 v19 v20 y5), 0, .normal, (bits_Div64.c4q a0 a1 a2 o17 v19 v20 y5 o22), 0⟩, .dec true, .dec true] [] [] (exne 2) (via (cutP trivial [] (bits_Div64.c4p a0 a1 a2 o17 v19 v20 y5) (((bits_Div64.c4_ok k a0 a1 a2 o17 v19 v20 y5).ap e23)) (finP (And.intro (And.intro trivial e24) e25) (.exit 2) [] (bits_Div64.c3q a0 a1 a2 o17 y5 (isub .u64 v20 (1 : Int))))) (by kernel_rfl)))) (fun e25 =>
    fun y hy => loop_back (bits_Div64.cok k) hmix 0 (bits_Div64.c3p a0 a1 a2 o17 y5 (iadd .u64 v19 (ishr .u64 (ishl .u64 a2 (icv .u64 y5)) (32 : Int))) (isub .u64 v20 (1 : Int))) [.cutR 24 ⟨[], [], (bits_Div64.c4p a0 a1 a2 o17 v19 v20 y5), 0, .normal, (bits_Div64.c4q a0 a1 a2 o17 v19 v20 y5 o22), 0⟩, .dec true, .dec false] [] [] (via (cutP trivial [] (bits_Div64.c4p a0 a1 a2 o17 v19 v20 y5) (((bits_Div64.c4_ok k a0 a1 a2 o17 v19 v20 y5).ap e23)) (finP (And.intro (And.intro trivial e24) e25) .normal [] (bits_Div64.c3p a0 a1 a2 o17 y5 (iadd .u64 v19 (ishr .u64 (ishl .u64 a2 (icv .u64 y5)) (32 : Int))) (isub .u64 v20 (1 : Int))))) (by kernel_rfl)) ((bits_Div64.c3_ok k a0 a1 a2 o17 y5 n (iadd .u64 v19 (ishr .u64 (ishl .u64 a2 (icv .u64 y5)) (32 : Int))) (isub .u64 v20 (1 : Int))).ap hy))) (fun e24 =>
   Owp.some (loop_exit (bits_Div64.cok k) hmix [.cutR 24 ⟨[], [], (bits_Div64.c4p a0 a1 a2 o17 v19 v20 y5), 0, .normal, (bits_Div64.c4q a0 a1 a2 o17 v19 v20 y5 o22), 0⟩, .dec false] [] [] (exne 2) (via (cutP trivial [] (bits_Div64.c4p a0 a1 a2 o17 v19 v20 y5) (((bits_Div64.c4_ok k a0 a1 a2 o17 v19 v20 y5).ap e23)) (finP (And.intro trivial e24) (.exit 2) [] (bits_Div64.c3q a0 a1 a2 o17 y5 v20))) (by kernel_rfl)))))
theorem bits_Div64.way (k : Nat) (a0 : Int) (a1 : Int) (a2 : Int) : Owp (bits_Div64 k a0 a1 a2) fun y => ∃ answers cmds, exec PR (bits_Div64.cx k) bits_Div64.code 0 (entry (.pair T12 (.pair T12 (.pair T12 .unit))) (a0, a1, a2, ())).st answers (Ret (bits_Div64.cx k) Try.f162 cmds (.more (.dp T12) (.one (.dp T12))) y) := by
  unfold bits_Div64; exact
   Owp.bif (fun e1 =>
   Owp.none) (fun e1 =>
   Owp.bif (fun e2 =>
    Owp.none) (fun e2 =>
    Owp.bif (fun e3 =>
     Owp.req fun h4 =>
      Owp.some (⟨[.dec false, .dec false, .dec true], [], via (retP (And.intro (And.intro (And.intro (And.intro (And.intro trivial e1) e2) e3) h4) h4) (.more (.dp T12) (.one (.dp T12))) (((iquo .u64 a1 a2), (irem a1 a2)) : (Int × Int))) (by kernel_rfl)⟩)) (fun e3 =>
     Owp.bnd fun y5 e6 =>
      Owp.req fun h7 =>
      Owp.req fun h8 =>
      Owp.req fun h9 =>
      Owp.bnd fun o17 e18 =>
      Owp.bnd fun o26 e27 =>
      Owp.some (⟨[.dec false, .dec false, .dec false, .res (.one (.dp T2)) y5, .cut ⟨[], [], (bits_Div64.c1p a0 a1 a2 y5 (iquo .u64 (ibits .or .u64 (ishl .u64 a0 (icv .u64 y5)) (ishr .u64 a1 (isub .u64 (64 : Int) (icv .u64 y5)))) (ishr .u64 (ishl .u64 a2 (icv .u64 y5)) (32 : Int))) (isub .u64 (ibits .or .u64 (ishl .u64 a0 (icv .u64 y5)) (ishr .u64 a1 (isub .u64 (64 : Int) (icv .u64 y5)))) (imul .u64 (iquo .u64 (ibits .or .u64 (ishl .u64 a0 (icv .u64 y5)) (ishr .u64 a1 (isub .u64 (64 : Int) (icv .u64 y5)))) (ishr .u64 (ishl .u64 a2 (icv .u64 y5)) (32 : Int))) (ishr .u64 (ishl .u64 a2 (icv .u64 y5)) (32 : Int))))), 0, (.exit 0), (bits_Div64.c1q a0 a1 a2 y5 o17), 0⟩, .cut ⟨[], [], (bits_Div64.c3p a0 a1 a2 o17 y5 (isub .u64 (isub .u64 (iadd .u64 (imul .u64 (ibits .or .u64 (ishl .u64 a0 (icv .u64 y5)) (ishr .u64 a1 (isub .u64 (64 : Int) (icv .u64 y5)))) (4294967296 : Int)) (ishr .u64 (ishl .u64 a1 (icv .u64 y5)) (32 : Int))) (imul .u64 o17 (ishl .u64 a2 (icv .u64 y5)))) (imul .u64 (iquo .u64 (isub .u64 (iadd .u64 (imul .u64 (ibits .or .u64 (ishl .u64 a0 (icv .u64 y5)) (ishr .u64 a1 (isub .u64 (64 : Int) (icv .u64 y5)))) (4294967296 : Int)) (ishr .u64 (ishl .u64 a1 (icv .u64 y5)) (32 : Int))) (imul .u64 o17 (ishl .u64 a2 (icv .u64 y5)))) (ishr .u64 (ishl .u64 a2 (icv .u64 y5)) (32 : Int))) (ishr .u64 (ishl .u64 a2 (icv .u64 y5)) (32 : Int)))) (iquo .u64 (isub .u64 (iadd .u64 (imul .u64 (ibits .or .u64 (ishl .u64 a0 (icv .u64 y5)) (ishr .u64 a1 (isub .u64 (64 : Int) (icv .u64 y5)))) (4294967296 : Int)) (ishr .u64 (ishl .u64 a1 (icv .u64 y5)) (32 : Int))) (imul .u64 o17 (ishl .u64 a2 (icv .u64 y5)))) (ishr .u64 (ishl .u64 a2 (icv .u64 y5)) (32 : Int)))), 0, (.exit 2), (bits_Div64.c3q a0 a1 a2 o17 y5 o26), 0⟩], [], via (cutP (And.intro (And.intro (And.intro (And.intro (And.intro (And.intro (And.intro (And.intro (And.intro (And.intro (And.intro trivial e1) e2) e3) e6) h7) (by decide : ng (32 : Int))) h7) h8) h7) (by decide : ng (32 : Int))) h9) [] (bits_Div64.c1p a0 a1 a2 y5 (iquo .u64 (ibits .or .u64 (ishl .u64 a0 (icv .u64 y5)) (ishr .u64 a1 (isub .u64 (64 : Int) (icv .u64 y5)))) (ishr .u64 (ishl .u64 a2 (icv .u64 y5)) (32 : Int))) (isub .u64 (ibits .or .u64 (ishl .u64 a0 (icv .u64 y5)) (ishr .u64 a1 (isub .u64 (64 : Int) (icv .u64 y5)))) (imul .u64 (iquo .u64 (ibits .or .u64 (ishl .u64 a0 (icv .u64 y5)) (ishr .u64 a1 (isub .u64 (64 : Int) (icv .u64 y5)))) (ishr .u64 (ishl .u64 a2 (icv .u64 y5)) (32 : Int))) (ishr .u64 (ishl .u64 a2 (icv .u64 y5)) (32 : Int))))) (((bits_Div64.c1_ok k a0 a1 a2 y5 k (iquo .u64 (ibits .or .u64 (ishl .u64 a0 (icv .u64 y5)) (ishr .u64 a1 (isub .u64 (64 : Int) (icv .u64 y5)))) (ishr .u64 (ishl .u64 a2 (icv .u64 y5)) (32 : Int))) (isub .u64 (ibits .or .u64 (ishl .u64 a0 (icv .u64 y5)) (ishr .u64 a1 (isub .u64 (64 : Int) (icv .u64 y5)))) (imul .u64 (iquo .u64 (ibits .or .u64 (ishl .u64 a0 (icv .u64 y5)) (ishr .u64 a1 (isub .u64 (64 : Int) (icv .u64 y5)))) (ishr .u64 (ishl .u64 a2 (icv .u64 y5)) (32 : Int))) (ishr .u64 (ishl .u64 a2 (icv .u64 y5)) (32 : Int))))).ap e18).triple) (cutP (And.intro trivial h9) [] (bits_Div64.c3p a0 a1 a2 o17 y5 (isub .u64 (isub .u64 (iadd .u64 (imul .u64 (ibits .or .u64 (ishl .u64 a0 (icv .u64 y5)) (ishr .u64 a1 (isub .u64 (64 : Int) (icv .u64 y5)))) (4294967296 : Int)) (ishr .u64 (ishl .u64 a1 (icv .u64 y5)) (32 : Int))) (imul .u64 o17 (ishl .u64 a2 (icv .u64 y5)))) (imul .u64 (iquo .u64 (isub .u64 (iadd .u64 (imul .u64 (ibits .or .u64 (ishl .u64 a0 (icv .u64 y5)) (ishr .u64 a1 (isub .u64 (64 : Int) (icv .u64 y5)))) (4294967296 : Int)) (ishr .u64 (ishl .u64 a1 (icv .u64 y5)) (32 : Int))) (imul .u64 o17 (ishl .u64 a2 (icv .u64 y5)))) (ishr .u64 (ishl .u64 a2 (icv .u64 y5)) (32 : Int))) (ishr .u64 (ishl .u64 a2 (icv .u64 y5)) (32 : Int)))) (iquo .u64 (isub .u64 (iadd .u64 (imul .u64 (ibits .or .u64 (ishl .u64 a0 (icv .u64 y5)) (ishr .u64 a1 (isub .u64 (64 : Int) (icv .u64 y5)))) (4294967296 : Int)) (ishr .u64 (ishl .u64 a1 (icv .u64 y5)) (32 : Int))) (imul .u64 o17 (ishl .u64 a2 (icv .u64 y5)))) (ishr .u64 (ishl .u64 a2 (icv .u64 y5)) (32 : Int)))) (((bits_Div64.c3_ok k a0 a1 a2 o17 y5 k (isub .u64 (isub .u64 (iadd .u64 (imul .u64 (ibits .or .u64 (ishl .u64 a0 (icv .u64 y5)) (ishr .u64 a1 (isub .u64 (64 : Int) (icv .u64 y5)))) (4294967296 : Int)) (ishr .u64 (ishl .u64 a1 (icv .u64 y5)) (32 : Int))) (imul .u64 o17 (ishl .u64 a2 (icv .u64 y5)))) (imul .u64 (iquo .u64 (isub .u64 (iadd .u64 (imul .u64 (ibits .or .u64 (ishl .u64 a0 (icv .u64 y5)) (ishr .u64 a1 (isub .u64 (64 : Int) (icv .u64 y5)))) (4294967296 : Int)) (ishr .u64 (ishl .u64 a1 (icv .u64 y5)) (32 : Int))) (imul .u64 o17 (ishl .u64 a2 (icv .u64 y5)))) (ishr .u64 (ishl .u64 a2 (icv .u64 y5)) (32 : Int))) (ishr .u64 (ishl .u64 a2 (icv .u64 y5)) (32 : Int)))) (iquo .u64 (isub .u64 (iadd .u64 (imul .u64 (ibits .or .u64 (ishl .u64 a0 (icv .u64 y5)) (ishr .u64 a1 (isub .u64 (64 : Int) (icv .u64 y5)))) (4294967296 : Int)) (ishr .u64 (ishl .u64 a1 (icv .u64 y5)) (32 : Int))) (imul .u64 o17 (ishl .u64 a2 (icv .u64 y5)))) (ishr .u64 (ishl .u64 a2 (icv .u64 y5)) (32 : Int)))).ap e27).triple) (retP (And.intro trivial h7) (.more (.dp T12) (.one (.dp T12))) (((iadd .u64 (imul .u64 o17 (4294967296 : Int)) o26), (ishr .u64 (isub .u64 (iadd .u64 (imul .u64 (isub .u64 (iadd .u64 (imul .u64 (ibits .or .u64 (ishl .u64 a0 (icv .u64 y5)) (ishr .u64 a1 (isub .u64 (64 : Int) (icv .u64 y5)))) (4294967296 : Int)) (ishr .u64 (ishl .u64 a1 (icv .u64 y5)) (32 : Int))) (imul .u64 o17 (ishl .u64 a2 (icv .u64 y5)))) (4294967296 : Int)) (ibits .and .u64 (ishl .u64 a1 (icv .u64 y5)) (4294967295 : Int))) (imul .u64 o26 (ishl .u64 a2 (icv .u64 y5)))) (icv .u64 y5))) : (Int × Int))))) (by kernel_rfl)⟩))))
theorem bits_Div64.ok (k : Nat) : FnOk PR 162 (bits_Div64.sp k) :=
  fn_ok (bits_Div64.cok k) hmix Try.func162 (code := bits_Div64.code) (by kernel_rfl) (by kernel_rfl) (by kernel_rfl) rfl rfl (by kernel_rfl) (by kernel_rfl) (by kernel_rfl) (fun x => Nat.le_of_ble_eq_true (by kernel_rfl)) fun x y hy => (bits_Div64.way k x.1 x.2.1 x.2.2.1).ap hy

/-! tourney/poly.Has -/
noncomputable def poly_Has.code : Code := Func.cd Try.f174
def poly_Has.c1 (k : Nat) (a0 : (List V22)) (a1 : V22) : Option (Bool) :=
  bnd (poly_Check k a0) fun y1 =>
  bif' (ine y1 0)
  (some true)
  (bnd (poly_within k a1) fun y4 =>
   some (!y4))
def poly_Has.c2 (k : Nat) (a0 : (List V22)) (a1 : V22) : Nat → Int → Option (Unit ⊕ Unit)
  | 0, _ => none
  | n + 1, v9 =>
   bif' (ilt v9 (len a0))
   (req (inL v9 a0) <|
    req (nz (len a0)) <|
    req (inL (irem (iadd .i64 v9 1) (len a0)) a0) <|
    bnd (poly_side k (el Z22 a0 v9) (el Z22 a0 (irem (iadd .i64 v9 1) (len a0))) a1) fun y14 =>
    bif' (ilt y14 0)
    (some (.inl ()))
    (poly_Has.c2 k a0 a1 n (iadd .i64 v9 1)))
   (some (.inr ()))
def poly_Has (k : Nat) (a0 : (List V22)) (a1 : V22) : Option Bool :=
  bnd (poly_Has.c1 k a0 a1) fun o6 =>
  bif' o6
  (some false)
  (bnd (poly_Has.c2 k a0 a1 k 0) fun o17 =>
   two o17 (fun y19 =>
   some false) (fun y21 =>
   some true))
noncomputable def poly_Has.sp (k : Nat) : Go.Sx.Spec := ⟨(.pair T24 (.pair T22 .unit)), (.one (.dp T4)), fun x => poly_Has k x.1 x.2.1, false⟩
noncomputable def poly_Has.cx (k : Nat) : Go.Sx.Ctx := ⟨tys, [(39, poly_Check.sp k), (110, poly_within.sp k), (111, poly_side.sp k)], eqs, 35, 0, [], false⟩
theorem poly_Has.cok (k : Nat) : CtxOk PR (poly_Has.cx k) := ctx_ok tysOk eqsOk (FnsOk.cons (poly_Check.ok k) (FnsOk.cons (poly_within.ok k) (FnsOk.cons (poly_side.ok k) FnsOk.nil))) HsOk.nil
noncomputable def poly_Has.c1p (a0 : (List V22)) (a1 : V22) : SL := ⟨[(0, (.val T24 a0)), (3, (.val .ptr ⟨0, 0, (0 : Int), 0, 0⟩))], [(0, .cells T22 a1)]⟩
noncomputable def poly_Has.c1q (a0 : (List V22)) (a1 : V22) (o : Bool) : SL := (fun v => ⟨[(0, (.val T24 a0)), (3, (.val .ptr ⟨0, 0, (0 : Int), 0, 0⟩)), (14, (.val T4 v))], [(0, .cells T22 a1)]⟩) o
noncomputable def poly_Has.c1x (o : Bool) : Ex := (fun _ => .normal) o
noncomputable def poly_Has.c1n (o : Bool) : Nat := (fun _ => 1) o
theorem poly_Has.c1_ok (k : Nat) (a0 : (List V22)) (a1 : V22) : Owp (poly_Has.c1 k a0 a1) fun o => Triple PR (poly_Has.cx k) (sub poly_Has.code [1, 0, 0]) 1 (poly_Has.c1p a0 a1) (poly_Has.c1x o) (poly_Has.c1n o) (poly_Has.c1q a0 a1 o) := by
  unfold poly_Has.c1; exact
   Owp.bnd fun y1 e2 =>
   Owp.bif (fun e3 =>
   Owp.some (triple_way (poly_Has.cok k) hmix [.res (.one (.dp T2)) y1, .dec true, .dec true, .dec true, .dec true, .dec true] [] [(0, 0)] (via (finP (And.intro (And.intro (And.intro (And.intro (And.intro trivial e2) e3) e3) e3) e3) .normal [(0, 0)] (poly_Has.c1q a0 a1 true)) (by kernel_rfl)))) (fun e3 =>
   Owp.bnd fun y4 e5 =>
    Owp.some (triple_way (poly_Has.cok k) hmix [.res (.one (.dp T2)) y1, .dec false, .dec false, .res (.one (.dp T4)) y4, .dec false, .dec false] [] [(0, 0)] (via (finP (And.intro (And.intro (And.intro (And.intro (And.intro trivial e2) e3) (And.intro e3 e5)) e3) e3) .normal [(0, 0)] (poly_Has.c1q a0 a1 (!y4))) (by kernel_rfl))))
noncomputable def poly_Has.c2p (a0 : (List V22)) (a1 : V22) (v9 : Int) : SL := ⟨[(0, (.val T24 a0)), (3, (.val .ptr ⟨0, 0, (0 : Int), 0, 0⟩)), (15, (.val T24 a0)), (16, (.val T2 (len a0))), (17, (.val T2 v9))], [(0, .cells T22 a1)]⟩
noncomputable def poly_Has.c2q (o : Unit ⊕ Unit) : SL := (fun o => two o (fun v => ⟨[(4, (.val T4 false))], []⟩) (fun v => ⟨[], []⟩)) o
noncomputable def poly_Has.c2x (o : Unit ⊕ Unit) : Ex := (fun o => two o (fun _ => .ret) (fun _ => (.exit 0))) o
noncomputable def poly_Has.c2n (o : Unit ⊕ Unit) : Nat := (fun o => two o (fun _ => 0) (fun _ => 0)) o
theorem poly_Has.c2_ok (k : Nat) (a0 : (List V22)) (a1 : V22) : ∀ (n : Nat) (v9 : Int), Owp (poly_Has.c2 k a0 a1 n v9) fun o => LTriple PR (poly_Has.cx k) (sub poly_Has.code [1, 1, 0, 1, 0, 0]) 1 (poly_Has.c2p a0 a1 v9) (poly_Has.c2x o) (poly_Has.c2n o) (poly_Has.c2q o)
  | 0, _ => fun _ h => nomatch h
  | n + 1, v9 => Owp.of (poly_Has.c2.eq_2 ..) (
   Owp.bif (fun e10 =>
   Owp.req fun h11 =>
    Owp.req fun h12 =>
    Owp.req fun h13 =>
    Owp.bnd fun y14 e15 =>
    Owp.bif (fun e16 =>
    Owp.some (loop_exit (poly_Has.cok k) hmix [.dec true, .res (.one (.dp T2)) y14, .dec true] [] [] exne_ret (via (finP (And.intro (And.intro (And.intro (And.intro (And.intro (And.intro trivial e10) h11) h12) h13) e15) e16) .ret [] (poly_Has.c2q (.inl ()))) (by kernel_rfl)))) (fun e16 =>
    fun y hy => loop_back (poly_Has.cok k) hmix 1 (poly_Has.c2p a0 a1 (iadd .i64 v9 (1 : Int))) [.dec true, .res (.one (.dp T2)) y14, .dec false] [] [(0, 0)] (via (finP (And.intro (And.intro (And.intro (And.intro (And.intro (And.intro trivial e10) h11) h12) h13) e15) e16) .normal [(0, 0)] (poly_Has.c2p a0 a1 (iadd .i64 v9 (1 : Int)))) (by kernel_rfl)) ((poly_Has.c2_ok k a0 a1 n (iadd .i64 v9 (1 : Int))).ap hy))) (fun e10 =>
   Owp.some (loop_exit (poly_Has.cok k) hmix [.dec false] [] [] (exne 0) (via (finP (And.intro trivial e10) (.exit 0) [] (poly_Has.c2q (.inr ()))) (by kernel_rfl)))))
theorem poly_Has.way (k : Nat) (a0 : (List V22)) (a1 : V22) : Owp (poly_Has k a0 a1) fun y => ∃ answers cmds, exec PR (poly_Has.cx k) poly_Has.code 0 (entry (.pair T24 (.pair T22 .unit)) (a0, a1, ())).st answers (Ret (poly_Has.cx k) Try.f174 cmds (.one (.dp T4)) y) := by
  unfold poly_Has; exact
   Owp.bnd fun o6 e7 =>
   Owp.bif (fun e8 =>
   Owp.some (⟨[.cutR 1 ⟨[], [(0, 0)], (poly_Has.c1p a0 a1), 1, .normal, (poly_Has.c1q a0 a1 o6), 1⟩, .dec true], [], via (cutP trivial [(0, 0)] (poly_Has.c1p a0 a1) (((poly_Has.c1_ok k a0 a1).ap e7)) (retP (And.intro trivial e8) (.one (.dp T4)) (false : Bool))) (by kernel_rfl)⟩)) (fun e8 =>
   Owp.bnd fun o17 e18 =>
    Owp.two (fun y19 e20 =>
    Owp.some (⟨[.cutR 1 ⟨[], [(0, 0)], (poly_Has.c1p a0 a1), 1, .normal, (poly_Has.c1q a0 a1 o6), 1⟩, .dec false, .cut ⟨[], [(0, 0)], (poly_Has.c2p a0 a1 (0 : Int)), 1, .ret, (poly_Has.c2q (.inl ())), 0⟩], [], via (cutP trivial [(0, 0)] (poly_Has.c1p a0 a1) (((poly_Has.c1_ok k a0 a1).ap e7)) (cutP (And.intro trivial e8) [(0, 0)] (poly_Has.c2p a0 a1 (0 : Int)) (((poly_Has.c2_ok k a0 a1 k (0 : Int)).ap (e18.trans (congrArg some e20))).triple) (retP trivial (.one (.dp T4)) (false : Bool)))) (by kernel_rfl)⟩)) (fun y21 e22 =>
    Owp.some (⟨[.cutR 1 ⟨[], [(0, 0)], (poly_Has.c1p a0 a1), 1, .normal, (poly_Has.c1q a0 a1 o6), 1⟩, .dec false, .cut ⟨[], [(0, 0)], (poly_Has.c2p a0 a1 (0 : Int)), 1, (.exit 0), (poly_Has.c2q (.inr ())), 0⟩], [], via (cutP trivial [(0, 0)] (poly_Has.c1p a0 a1) (((poly_Has.c1_ok k a0 a1).ap e7)) (cutP (And.intro trivial e8) [(0, 0)] (poly_Has.c2p a0 a1 (0 : Int)) (((poly_Has.c2_ok k a0 a1 k (0 : Int)).ap (e18.trans (congrArg some e22))).triple) (retP trivial (.one (.dp T4)) (true : Bool)))) (by kernel_rfl)⟩)))
theorem poly_Has.ok (k : Nat) : FnOk PR 174 (poly_Has.sp k) :=
  fn_ok (poly_Has.cok k) hmix Try.func174 (code := poly_Has.code) (by kernel_rfl) (by kernel_rfl) (by kernel_rfl) rfl rfl (by kernel_rfl) (by kernel_rfl) (by kernel_rfl) (fun x => Nat.le_of_ble_eq_true (by kernel_rfl)) fun x y hy => (poly_Has.way k x.1 x.2.1).ap hy

/-! (tourney/tourref2.Big).Below -/
noncomputable def tourref2_Big_Below.code : Code := Func.cd Try.f179
def tourref2_Big_Below (k : Nat) (a0 : (List Int)) : Option Bool :=
  some (ieq (ishr .u32 (el 0 a0 7) 15) 1)
noncomputable def tourref2_Big_Below.sp (k : Nat) : Go.Sx.Spec := ⟨(.pair T134 .unit), (.one (.dp T4)), fun x => tourref2_Big_Below k x.1, false⟩
noncomputable def tourref2_Big_Below.cx (k : Nat) : Go.Sx.Ctx := ⟨tys, [], eqs, 7, 0, [], false⟩
theorem tourref2_Big_Below.cok (k : Nat) : CtxOk PR (tourref2_Big_Below.cx k) := ctx_ok tysOk eqsOk FnsOk.nil HsOk.nil
theorem tourref2_Big_Below.way (k : Nat) (a0 : (List Int)) : Owp (tourref2_Big_Below k a0) fun y => ∃ answers cmds, exec PR (tourref2_Big_Below.cx k) tourref2_Big_Below.code 0 (entry (.pair T134 .unit) (a0, ())).st answers (Ret (tourref2_Big_Below.cx k) Try.f179 cmds (.one (.dp T4)) y) := by
  unfold tourref2_Big_Below; exact
   Owp.some (⟨[], [], via (retP (And.intro (And.intro (And.intro trivial (by decide : inR (7 : Int) 8)) (by decide : inR (7 : Int) 8)) (by decide : ng (15 : Int))) (.one (.dp T4)) ((ieq (ishr .u32 (el (0 : Int) a0 (7 : Int)) (15 : Int)) (1 : Int)) : Bool)) (by kernel_rfl)⟩)
theorem tourref2_Big_Below.ok (k : Nat) : FnOk PR 179 (tourref2_Big_Below.sp k) :=
  fn_ok (tourref2_Big_Below.cok k) hmix Try.func179 (code := tourref2_Big_Below.code) (by kernel_rfl) (by kernel_rfl) (by kernel_rfl) rfl rfl (by kernel_rfl) (by kernel_rfl) (by kernel_rfl) (fun x => Nat.le_of_ble_eq_true (by kernel_rfl)) fun x y hy => (tourref2_Big_Below.way k x.1).ap hy

/-! (tourney/tourref2.Big).Cmp -/
noncomputable def tourref2_Big_Cmp.code : Code := Func.cd Try.f126
def tourref2_Big_Cmp.c1 (k : Nat) (a0 : (List Int)) (a1 : (List Int)) : Nat → Int → Option (Int ⊕ Unit)
  | 0, _ => none
  | n + 1, v6 =>
   bif' (ige v6 0)
   (req (inR v6 8) <|
    bif' (ine (el 0 a0 v6) (el 0 a1 v6))
    (bif' (ilt (el 0 a0 v6) (el 0 a1 v6))
     (some (.inl (-1)))
     (some (.inl 1)))
    (tourref2_Big_Cmp.c1 k a0 a1 n (isub .i64 v6 1)))
   (some (.inr ()))
def tourref2_Big_Cmp (k : Nat) (a0 : (List Int)) (a1 : (List Int)) : Option Int :=
  bnd (tourref2_Big_Below k a0) fun y1 =>
  bnd (tourref2_Big_Below k a1) fun y3 =>
  bif' (Ty.eqb T4 y1 y3)
  (bnd (tourref2_Big_Cmp.c1 k a0 a1 k 7) fun o11 =>
   two o11 (fun y13 =>
   some y13) (fun y15 =>
   some 0))
  (bnd (tourref2_Big_Below k a0) fun y17 =>
   bif' y17
   (some (-1))
   (some 1))
noncomputable def tourref2_Big_Cmp.sp (k : Nat) : Go.Sx.Spec := ⟨(.pair T134 (.pair T134 .unit)), (.one (.dp T2)), fun x => tourref2_Big_Cmp k x.1 x.2.1, false⟩
noncomputable def tourref2_Big_Cmp.cx (k : Nat) : Go.Sx.Ctx := ⟨tys, [(179, tourref2_Big_Below.sp k)], eqs, 31, 0, [], false⟩
theorem tourref2_Big_Cmp.cok (k : Nat) : CtxOk PR (tourref2_Big_Cmp.cx k) := ctx_ok tysOk eqsOk (FnsOk.cons (tourref2_Big_Below.ok k) FnsOk.nil) HsOk.nil
noncomputable def tourref2_Big_Cmp.c1p (a0 : (List Int)) (a1 : (List Int)) (v6 : Int) : SL := ⟨[(2, (.val .ptr ⟨0, 0, (0 : Int), 0, 0⟩)), (3, (.val .ptr ⟨1, 0, (0 : Int), 0, 0⟩)), (5, (.val T2 v6))], [(0, .cells T134 a0), (1, .cells T134 a1)]⟩
noncomputable def tourref2_Big_Cmp.c1q (o : Int ⊕ Unit) : SL := (fun o => two o (fun v => ⟨[(4, (.val T2 v))], []⟩) (fun v => ⟨[], []⟩)) o
noncomputable def tourref2_Big_Cmp.c1x (o : Int ⊕ Unit) : Ex := (fun o => two o (fun _ => .ret) (fun _ => (.exit 0))) o
noncomputable def tourref2_Big_Cmp.c1n (o : Int ⊕ Unit) : Nat := (fun o => two o (fun _ => 0) (fun _ => 0)) o
theorem tourref2_Big_Cmp.c1_ok (k : Nat) (a0 : (List Int)) (a1 : (List Int)) : ∀ (n : Nat) (v6 : Int), Owp (tourref2_Big_Cmp.c1 k a0 a1 n v6) fun o => LTriple PR (tourref2_Big_Cmp.cx k) (sub tourref2_Big_Cmp.code [1, 1, 0, 1, 0, 0]) 2 (tourref2_Big_Cmp.c1p a0 a1 v6) (tourref2_Big_Cmp.c1x o) (tourref2_Big_Cmp.c1n o) (tourref2_Big_Cmp.c1q o)
  | 0, _ => fun _ h => nomatch h
  | n + 1, v6 => Owp.of (tourref2_Big_Cmp.c1.eq_2 ..) (
   Owp.bif (fun e7 =>
   Owp.req fun h8 =>
    Owp.bif (fun e9 =>
    Owp.bif (fun e10 =>
     Owp.some (loop_exit (tourref2_Big_Cmp.cok k) hmix [.dec true, .dec true, .dec true] [] [] exne_ret (via (finP (And.intro (And.intro (And.intro (And.intro (And.intro (And.intro (And.intro (And.intro (And.intro (And.intro (And.intro trivial e7) h8) h8) h8) h8) e9) h8) h8) h8) h8) e10) .ret [] (tourref2_Big_Cmp.c1q (.inl (-1 : Int)))) (by kernel_rfl)))) (fun e10 =>
     Owp.some (loop_exit (tourref2_Big_Cmp.cok k) hmix [.dec true, .dec true, .dec false] [] [] exne_ret (via (finP (And.intro (And.intro (And.intro (And.intro (And.intro (And.intro (And.intro (And.intro (And.intro (And.intro (And.intro trivial e7) h8) h8) h8) h8) e9) h8) h8) h8) h8) e10) .ret [] (tourref2_Big_Cmp.c1q (.inl (1 : Int)))) (by kernel_rfl))))) (fun e9 =>
    fun y hy => loop_back (tourref2_Big_Cmp.cok k) hmix 2 (tourref2_Big_Cmp.c1p a0 a1 (isub .i64 v6 (1 : Int))) [.dec true, .dec false] [] [(0, 0), (1, 1)] (via (finP (And.intro (And.intro (And.intro (And.intro (And.intro (And.intro trivial e7) h8) h8) h8) h8) e9) .normal [(0, 0), (1, 1)] (tourref2_Big_Cmp.c1p a0 a1 (isub .i64 v6 (1 : Int)))) (by kernel_rfl)) ((tourref2_Big_Cmp.c1_ok k a0 a1 n (isub .i64 v6 (1 : Int))).ap hy))) (fun e7 =>
   Owp.some (loop_exit (tourref2_Big_Cmp.cok k) hmix [.dec false] [] [] (exne 0) (via (finP (And.intro trivial e7) (.exit 0) [] (tourref2_Big_Cmp.c1q (.inr ()))) (by kernel_rfl)))))
theorem tourref2_Big_Cmp.way (k : Nat) (a0 : (List Int)) (a1 : (List Int)) : Owp (tourref2_Big_Cmp k a0 a1) fun y => ∃ answers cmds, exec PR (tourref2_Big_Cmp.cx k) tourref2_Big_Cmp.code 0 (entry (.pair T134 (.pair T134 .unit)) (a0, a1, ())).st answers (Ret (tourref2_Big_Cmp.cx k) Try.f126 cmds (.one (.dp T2)) y) := by
  unfold tourref2_Big_Cmp; exact
   Owp.bnd fun y1 e2 =>
   Owp.bnd fun y3 e4 =>
   Owp.bif (fun e5 =>
   Owp.bnd fun o11 e12 =>
    Owp.two (fun y13 e14 =>
    Owp.some (⟨[.res (.one (.dp T4)) y1, .res (.one (.dp T4)) y3, .dec false, .cut ⟨[], [(0, 0), (1, 1)], (tourref2_Big_Cmp.c1p a0 a1 (7 : Int)), 2, .ret, (tourref2_Big_Cmp.c1q (.inl y13)), 0⟩], [], via (cutP (And.intro (And.intro (And.intro trivial e2) e4) (congrArg not e5)) [(0, 0), (1, 1)] (tourref2_Big_Cmp.c1p a0 a1 (7 : Int)) (((tourref2_Big_Cmp.c1_ok k a0 a1 k (7 : Int)).ap (e12.trans (congrArg some e14))).triple) (retP trivial (.one (.dp T2)) (y13 : Int))) (by kernel_rfl)⟩)) (fun y15 e16 =>
    Owp.some (⟨[.res (.one (.dp T4)) y1, .res (.one (.dp T4)) y3, .dec false, .cut ⟨[], [(0, 0), (1, 1)], (tourref2_Big_Cmp.c1p a0 a1 (7 : Int)), 2, (.exit 0), (tourref2_Big_Cmp.c1q (.inr ())), 0⟩], [], via (cutP (And.intro (And.intro (And.intro trivial e2) e4) (congrArg not e5)) [(0, 0), (1, 1)] (tourref2_Big_Cmp.c1p a0 a1 (7 : Int)) (((tourref2_Big_Cmp.c1_ok k a0 a1 k (7 : Int)).ap (e12.trans (congrArg some e16))).triple) (retP trivial (.one (.dp T2)) ((0 : Int) : Int))) (by kernel_rfl)⟩))) (fun e5 =>
   Owp.bnd fun y17 e18 =>
    Owp.bif (fun e19 =>
    Owp.some (⟨[.res (.one (.dp T4)) y1, .res (.one (.dp T4)) y3, .dec true, .res (.one (.dp T4)) y17, .dec true], [], via (retP (And.intro (And.intro (And.intro (And.intro (And.intro trivial e2) e4) (congrArg not e5)) e18) e19) (.one (.dp T2)) ((-1 : Int) : Int)) (by kernel_rfl)⟩)) (fun e19 =>
    Owp.some (⟨[.res (.one (.dp T4)) y1, .res (.one (.dp T4)) y3, .dec true, .res (.one (.dp T4)) y17, .dec false], [], via (retP (And.intro (And.intro (And.intro (And.intro (And.intro trivial e2) e4) (congrArg not e5)) e18) e19) (.one (.dp T2)) ((1 : Int) : Int)) (by kernel_rfl)⟩)))
theorem tourref2_Big_Cmp.ok (k : Nat) : FnOk PR 126 (tourref2_Big_Cmp.sp k) :=
  fn_ok (tourref2_Big_Cmp.cok k) hmix Try.func126 (code := tourref2_Big_Cmp.code) (by kernel_rfl) (by kernel_rfl) (by kernel_rfl) rfl rfl (by kernel_rfl) (by kernel_rfl) (by kernel_rfl) (fun x => Nat.le_of_ble_eq_true (by kernel_rfl)) fun x y hy => (tourref2_Big_Cmp.way k x.1 x.2.1).ap hy

end Go.Proofs.T1
