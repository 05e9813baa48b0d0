import Derived.Test.YtolkdkhdkfndfaaG0
import Derived.Test.YtolkdkhdkfndfaaLay
namespace Go.Proofs.T1
open Go Go.Sx Go.Proofs
set_option maxRecDepth 100000
set_option linter.unusedVariables false
/-! slices.IndexFunc[[]tourney/api.Vec,tourney/api.Vec] -/
noncomputable def slices_IndexFunc.code : Code := Func.cd Try.f99
noncomputable def slices_IndexFunc.c1 (k : Nat) (a0 : (List V27)) (a1 : ((V27 × Unit) → Option Bool)) : Nat → Int → Option (Int ⊕ Unit)
  | 0, _ => none
  | n + 1, v1 =>
   bif' (ilt v1 (len a0))
   (req (inL v1 a0) <|
    bnd (a1 ((el Z27 a0 v1), ())) fun y4 =>
    bif' y4
    (some (.inl v1))
    (slices_IndexFunc.c1 k a0 a1 n (iadd .i64 v1 1)))
   (some (.inr ()))
noncomputable def slices_IndexFunc (k : Nat) (a0 : (List V27)) (a1 : ((V27 × Unit) → Option Bool)) : Option Int :=
  bnd (slices_IndexFunc.c1 k a0 a1 k 0) fun o7 =>
  two o7 (fun y9 =>
  some y9) (fun y11 =>
  some (-1))
noncomputable def slices_IndexFunc.sp (k : Nat) : Go.Sx.Spec := ⟨(.pair T22 (.pair (.fn (.pair T27 .unit) T4) .unit)), (.one (.dp T2)), fun x => slices_IndexFunc k x.1 x.2.1, false⟩
noncomputable def slices_IndexFunc.cx (k : Nat) : Go.Sx.Ctx := ⟨tys, [], eqs, 19, 0, [], false⟩
theorem slices_IndexFunc.cok (k : Nat) : CtxOk PR (slices_IndexFunc.cx k) := ctx_ok tysOk eqsOk FnsOk.nil HsOk.nil
noncomputable def slices_IndexFunc.c1p (a0 : (List V27)) (a1 : ((V27 × Unit) → Option Bool)) (v1 : Int) : SL := ⟨[(0, (.val T22 a0)), (1, (.val (.fn (.pair T27 .unit) T4) a1)), (7, (.val T2 (len a0))), (8, (.val T2 v1))], []⟩
noncomputable def slices_IndexFunc.c1q (o : Int ⊕ Unit) : SL := (fun o => two o (fun v => ⟨[(4, (.val T2 v))], []⟩) (fun v => ⟨[], []⟩)) o
noncomputable def slices_IndexFunc.c1x (o : Int ⊕ Unit) : Ex := (fun o => two o (fun _ => .ret) (fun _ => (.exit 0))) o
noncomputable def slices_IndexFunc.c1n (o : Int ⊕ Unit) : Nat := (fun o => two o (fun _ => 0) (fun _ => 0)) o
theorem slices_IndexFunc.c1_ok (k : Nat) (a0 : (List V27)) (a1 : ((V27 × Unit) → Option Bool)) : ∀ (n : Nat) (v1 : Int), Owp (slices_IndexFunc.c1 k a0 a1 n v1) fun o => LTriple PR (slices_IndexFunc.cx k) (sub slices_IndexFunc.code [1, 0, 1, 0, 0]) 0 (slices_IndexFunc.c1p a0 a1 v1) (slices_IndexFunc.c1x o) (slices_IndexFunc.c1n o) (slices_IndexFunc.c1q o)
  | 0, _ => fun _ h => nomatch h
  | n + 1, v1 => Owp.of (slices_IndexFunc.c1.eq_2 ..) (
   Owp.bif (fun e2 =>
   Owp.req fun h3 =>
    Owp.bnd fun y4 e5 =>
    Owp.bif (fun e6 =>
    Owp.some (loop_exit (slices_IndexFunc.cok k) hmix [.dec true, .res (.one (.dp T4)) y4, .dec true] [] [] exne_ret (via (finP (And.intro (And.intro (And.intro (And.intro trivial e2) h3) e5) e6) .ret [] (slices_IndexFunc.c1q (.inl v1))) (by kernel_rfl)))) (fun e6 =>
    fun y hy => loop_back (slices_IndexFunc.cok k) hmix 0 (slices_IndexFunc.c1p a0 a1 (iadd .i64 v1 (1 : Int))) [.dec true, .res (.one (.dp T4)) y4, .dec false] [] [] (via (finP (And.intro (And.intro (And.intro (And.intro trivial e2) h3) e5) e6) .normal [] (slices_IndexFunc.c1p a0 a1 (iadd .i64 v1 (1 : Int)))) (by kernel_rfl)) ((slices_IndexFunc.c1_ok k a0 a1 n (iadd .i64 v1 (1 : Int))).ap hy))) (fun e2 =>
   Owp.some (loop_exit (slices_IndexFunc.cok k) hmix [.dec false] [] [] (exne 0) (via (finP (And.intro trivial e2) (.exit 0) [] (slices_IndexFunc.c1q (.inr ()))) (by kernel_rfl)))))
theorem slices_IndexFunc.way (k : Nat) (a0 : (List V27)) (a1 : ((V27 × Unit) → Option Bool)) : Owp (slices_IndexFunc k a0 a1) fun y => ∃ answers cmds, exec PR (slices_IndexFunc.cx k) slices_IndexFunc.code 0 (entry (.pair T22 (.pair (.fn (.pair T27 .unit) T4) .unit)) (a0, a1, ())).st answers (Ret (slices_IndexFunc.cx k) Try.f99 cmds (.one (.dp T2)) y) := by
  unfold slices_IndexFunc; exact
   Owp.bnd fun o7 e8 =>
   Owp.two (fun y9 e10 =>
   Owp.some (⟨[.cut ⟨[], [], (slices_IndexFunc.c1p a0 a1 (0 : Int)), 0, .ret, (slices_IndexFunc.c1q (.inl y9)), 0⟩], [], via (cutP trivial [] (slices_IndexFunc.c1p a0 a1 (0 : Int)) (((slices_IndexFunc.c1_ok k a0 a1 k (0 : Int)).ap (e8.trans (congrArg some e10))).triple) (retP trivial (.one (.dp T2)) (y9 : Int))) (by kernel_rfl)⟩)) (fun y11 e12 =>
   Owp.some (⟨[.cut ⟨[], [], (slices_IndexFunc.c1p a0 a1 (0 : Int)), 0, (.exit 0), (slices_IndexFunc.c1q (.inr ())), 0⟩], [], via (cutP trivial [] (slices_IndexFunc.c1p a0 a1 (0 : Int)) (((slices_IndexFunc.c1_ok k a0 a1 k (0 : Int)).ap (e8.trans (congrArg some e12))).triple) (retP trivial (.one (.dp T2)) ((-1 : Int) : Int))) (by kernel_rfl)⟩))
theorem slices_IndexFunc.ok (k : Nat) : FnOk PR 99 (slices_IndexFunc.sp k) :=
  fn_ok (slices_IndexFunc.cok k) hmix Try.func99 (code := slices_IndexFunc.code) (by kernel_rfl) (by kernel_rfl) (by kernel_rfl) rfl rfl (by kernel_rfl) (by kernel_rfl) (by kernel_rfl) (fun x => Nat.le_of_ble_eq_true (by kernel_rfl)) fun x y hy => (slices_IndexFunc.way k x.1 x.2.1).ap hy

/-! slices.ContainsFunc[[]tourney/api.Vec,tourney/api.Vec] -/
noncomputable def slices_ContainsFunc.code : Code := Func.cd Try.f23
noncomputable def slices_ContainsFunc (k : Nat) (a0 : (List V27)) (a1 : ((V27 × Unit) → Option Bool)) : Option Bool :=
  bnd (slices_IndexFunc k a0 a1) fun y1 =>
  some (ige y1 0)
noncomputable def slices_ContainsFunc.sp (k : Nat) : Go.Sx.Spec := ⟨(.pair T22 (.pair (.fn (.pair T27 .unit) T4) .unit)), (.one (.dp T4)), fun x => slices_ContainsFunc k x.1 x.2.1, false⟩
noncomputable def slices_ContainsFunc.cx (k : Nat) : Go.Sx.Ctx := ⟨tys, [(99, slices_IndexFunc.sp k)], eqs, 9, 0, [], false⟩
theorem slices_ContainsFunc.cok (k : Nat) : CtxOk PR (slices_ContainsFunc.cx k) := ctx_ok tysOk eqsOk (FnsOk.cons (slices_IndexFunc.ok k) FnsOk.nil) HsOk.nil
theorem slices_ContainsFunc.way (k : Nat) (a0 : (List V27)) (a1 : ((V27 × Unit) → Option Bool)) : Owp (slices_ContainsFunc k a0 a1) fun y => ∃ answers cmds, exec PR (slices_ContainsFunc.cx k) slices_ContainsFunc.code 0 (entry (.pair T22 (.pair (.fn (.pair T27 .unit) T4) .unit)) (a0, a1, ())).st answers (Ret (slices_ContainsFunc.cx k) Try.f23 cmds (.one (.dp T4)) y) := by
  unfold slices_ContainsFunc; exact
   Owp.bnd fun y1 e2 =>
   Owp.some (⟨[.res (.one (.dp T2)) y1], [], via (retP (And.intro trivial e2) (.one (.dp T4)) ((ige y1 (0 : Int)) : Bool)) (by kernel_rfl)⟩)
theorem slices_ContainsFunc.ok (k : Nat) : FnOk PR 23 (slices_ContainsFunc.sp k) :=
  fn_ok (slices_ContainsFunc.cok k) hmix Try.func23 (code := slices_ContainsFunc.code) (by kernel_rfl) (by kernel_rfl) (by kernel_rfl) rfl rfl (by kernel_rfl) (by kernel_rfl) (by kernel_rfl) (fun x => Nat.le_of_ble_eq_true (by kernel_rfl)) fun x y hy => (slices_ContainsFunc.way k x.1 x.2.1).ap hy

/-! tourney/poly.within -/
noncomputable def poly_within.code : Code := Func.cd Try.f86
noncomputable def poly_within (k : Nat) (a0 : V27) : Option Bool :=
  bif' (ige a0.1 (-65536000))
  (bif' (ile a0.1 65536000)
   (bif' (ige a0.2.1 (-65536000))
    (some (ile a0.2.1 65536000))
    (some false))
   (some false))
  (some false)
noncomputable def poly_within.sp (k : Nat) : Go.Sx.Spec := ⟨(.pair T27 .unit), (.one (.dp T4)), fun x => poly_within k x.1, false⟩
noncomputable def poly_within.cx (k : Nat) : Go.Sx.Ctx := ⟨tys, [], eqs, 21, 0, [], false⟩
theorem poly_within.cok (k : Nat) : CtxOk PR (poly_within.cx k) := ctx_ok tysOk eqsOk FnsOk.nil HsOk.nil
theorem poly_within.way (k : Nat) (a0 : V27) : Owp (poly_within k a0) fun y => ∃ answers cmds, exec PR (poly_within.cx k) poly_within.code 0 (entry (.pair T27 .unit) (a0, ())).st answers (Ret (poly_within.cx k) Try.f86 cmds (.one (.dp T4)) y) := by
  unfold poly_within; exact
   Owp.bif (fun e1 =>
   Owp.bif (fun e2 =>
    Owp.bif (fun e3 =>
     Owp.some (⟨[.dec true, .dec true, .dec true, .dec true, .dec true, .dec true, .dec true, .dec true, .dec true, .dec true, .dec true, .dec true], [], via (retP (And.intro (And.intro (And.intro (And.intro (And.intro (And.intro (And.intro (And.intro (And.intro (And.intro (And.intro (And.intro trivial e1) e1) e1) e1) e2) e2) e2) e2) e3) e3) e3) e3) (.one (.dp T4)) ((ile a0.2.1 (65536000 : Int)) : Bool)) (by kernel_rfl)⟩)) (fun e3 =>
     Owp.some (⟨[.dec true, .dec true, .dec true, .dec true, .dec true, .dec true, .dec true, .dec true, .dec false, .dec false, .dec false, .dec false], [], via (retP (And.intro (And.intro (And.intro (And.intro (And.intro (And.intro (And.intro (And.intro (And.intro (And.intro (And.intro (And.intro trivial e1) e1) e1) e1) e2) e2) e2) e2) e3) e3) e3) e3) (.one (.dp T4)) (false : Bool)) (by kernel_rfl)⟩))) (fun e2 =>
    Owp.some (⟨[.dec true, .dec true, .dec true, .dec true, .dec false, .dec false, .dec false, .dec false, .dec false, .dec false, .dec false, .dec false], [], via (retP (And.intro (And.intro (And.intro (And.intro (And.intro (And.intro (And.intro (And.intro (And.intro (And.intro (And.intro (And.intro trivial e1) e1) e1) e1) e2) e2) e2) e2) ff) ff) ff) ff) (.one (.dp T4)) (false : Bool)) (by kernel_rfl)⟩))) (fun e1 =>
   Owp.some (⟨[.dec false, .dec false, .dec false, .dec false, .dec false, .dec false, .dec false, .dec false, .dec false, .dec false, .dec false, .dec false], [], via (retP (And.intro (And.intro (And.intro (And.intro (And.intro (And.intro (And.intro (And.intro (And.intro (And.intro (And.intro (And.intro trivial e1) e1) e1) e1) ff) ff) ff) ff) ff) ff) ff) ff) (.one (.dp T4)) (false : Bool)) (by kernel_rfl)⟩))
theorem poly_within.ok (k : Nat) : FnOk PR 86 (poly_within.sp k) :=
  fn_ok (poly_within.cok k) hmix Try.func86 (code := poly_within.code) (by kernel_rfl) (by kernel_rfl) (by kernel_rfl) rfl rfl (by kernel_rfl) (by kernel_rfl) (by kernel_rfl) (fun x => Nat.le_of_ble_eq_true (by kernel_rfl)) fun x y hy => (poly_within.way k x.1).ap hy

/-! tourney/poly.Hull$1 -/
noncomputable def poly_Hull_1.code : Code := Func.cd Try.f85
noncomputable def poly_Hull_1 (k : Nat) (a0 : V27) : Option Bool :=
  bnd (poly_within k a0) fun y1 =>
  some (!y1)
noncomputable def poly_Hull_1.sp (k : Nat) : Go.Sx.Spec := ⟨(.pair T27 .unit), (.one (.dp T4)), fun x => poly_Hull_1 k x.1, false⟩
noncomputable def poly_Hull_1.cx (k : Nat) : Go.Sx.Ctx := ⟨tys, [(86, poly_within.sp k)], eqs, 6, 0, [], false⟩
theorem poly_Hull_1.cok (k : Nat) : CtxOk PR (poly_Hull_1.cx k) := ctx_ok tysOk eqsOk (FnsOk.cons (poly_within.ok k) FnsOk.nil) HsOk.nil
theorem poly_Hull_1.way (k : Nat) (a0 : V27) : Owp (poly_Hull_1 k a0) fun y => ∃ answers cmds, exec PR (poly_Hull_1.cx k) poly_Hull_1.code 0 (entry (.pair T27 .unit) (a0, ())).st answers (Ret (poly_Hull_1.cx k) Try.f85 cmds (.one (.dp T4)) y) := by
  unfold poly_Hull_1; exact
   Owp.bnd fun y1 e2 =>
   Owp.some (⟨[.res (.one (.dp T4)) y1], [], via (retP (And.intro trivial e2) (.one (.dp T4)) ((!y1) : Bool)) (by kernel_rfl)⟩)
theorem poly_Hull_1.ok (k : Nat) : FnOk PR 85 (poly_Hull_1.sp k) :=
  fn_ok (poly_Hull_1.cok k) hmix Try.func85 (code := poly_Hull_1.code) (by kernel_rfl) (by kernel_rfl) (by kernel_rfl) rfl rfl (by kernel_rfl) (by kernel_rfl) (by kernel_rfl) (fun x => Nat.le_of_ble_eq_true (by kernel_rfl)) fun x y hy => (poly_Hull_1.way k x.1).ap hy

/-! slices.Clone[[]tourney/api.Vec,tourney/api.Vec] -/
noncomputable def slices_Clone.code : Code := Func.cd Try.f87
noncomputable def slices_Clone (k : Nat) (a0 : (List V27)) : Option (List V27) :=
  req (room0 16 a0) <|
  some a0
noncomputable def slices_Clone.sp (k : Nat) : Go.Sx.Spec := ⟨(.pair T22 .unit), (.one (.ow T27 28)), fun x => slices_Clone k x.1, false⟩
noncomputable def slices_Clone.cx (k : Nat) : Go.Sx.Ctx := ⟨tys, [], eqs, 8, 0, [], false⟩
theorem slices_Clone.cok (k : Nat) : CtxOk PR (slices_Clone.cx k) := ctx_ok tysOk eqsOk FnsOk.nil HsOk.nil
theorem slices_Clone.way (k : Nat) (a0 : (List V27)) : Owp (slices_Clone k a0) fun y => ∃ answers cmds, exec PR (slices_Clone.cx k) slices_Clone.code 0 (entry (.pair T22 .unit) (a0, ())).st answers (Ret (slices_Clone.cx k) Try.f87 cmds (.one (.ow T27 28)) y) := by
  unfold slices_Clone; exact
   Owp.req fun h1 => match a0, h1 with
   | [], h1 => Owp.some (⟨[.fork [] [.dec true]], [.own 2 T27 28], via (show (True → (True ∧ (True ∧ some (Blk.row T27 ([] : (List V27)) 28) = some (Blk.row T27 ([] : (List V27)) 28)))) ∧ ((True ∧ room0 16 ([] : (List V27))) ∧ (True ∧ some (Blk.row T27 ([] : (List V27)) 28) = some (Blk.row T27 ([] : (List V27)) 28))) from ⟨fun _ => ⟨trivial, trivial, rfl⟩, ⟨trivial, h1⟩, trivial, rfl⟩) (by kernel_rfl)⟩)
   | a :: l, h1 => Owp.some (⟨[.dec false, .dec true], [.own 2 T27 28], via (show ((True ∧ false = false) ∧ room0 16 (a :: l)) ∧ (True ∧ some (Blk.row T27 (a :: l : (List V27)) 28) = some (Blk.row T27 (a :: l : (List V27)) 28)) from ⟨⟨⟨trivial, rfl⟩, h1⟩, trivial, rfl⟩) (by kernel_rfl)⟩)
theorem slices_Clone.ok (k : Nat) : FnOk PR 87 (slices_Clone.sp k) :=
  fn_ok (slices_Clone.cok k) hmix Try.func87 (code := slices_Clone.code) (by kernel_rfl) (by kernel_rfl) (by kernel_rfl) rfl rfl (by kernel_rfl) (by kernel_rfl) (by kernel_rfl) (fun x => Nat.le_of_ble_eq_true (by kernel_rfl)) fun x y hy => (slices_Clone.way k x.1).ap hy

/-! tourney/poly.before -/
noncomputable def poly_before.code : Code := Func.cd Try.f89
noncomputable def poly_before (k : Nat) (a0 : V27) (a1 : V27) : Option Int :=
  bif' (ine a0.2.1 a1.2.1)
  (some (isub .i64 a0.2.1 a1.2.1))
  (some (isub .i64 a0.1 a1.1))
noncomputable def poly_before.sp (k : Nat) : Go.Sx.Spec := ⟨T41, (.one (.dp T2)), fun x => poly_before k x.1 x.2.1, false⟩
noncomputable def poly_before.cx (k : Nat) : Go.Sx.Ctx := ⟨tys, [], eqs, 20, 0, [], false⟩
theorem poly_before.cok (k : Nat) : CtxOk PR (poly_before.cx k) := ctx_ok tysOk eqsOk FnsOk.nil HsOk.nil
theorem poly_before.way (k : Nat) (a0 : V27) (a1 : V27) : Owp (poly_before k a0 a1) fun y => ∃ answers cmds, exec PR (poly_before.cx k) poly_before.code 0 (entry T41 (a0, a1, ())).st answers (Ret (poly_before.cx k) Try.f89 cmds (.one (.dp T2)) y) := by
  unfold poly_before; exact
   Owp.bif (fun e1 =>
   Owp.some (⟨[.dec true], [], via (retP (And.intro trivial e1) (.one (.dp T2)) ((isub .i64 a0.2.1 a1.2.1) : Int)) (by kernel_rfl)⟩)) (fun e1 =>
   Owp.some (⟨[.dec false], [], via (retP (And.intro trivial e1) (.one (.dp T2)) ((isub .i64 a0.1 a1.1) : Int)) (by kernel_rfl)⟩))
theorem poly_before.ok (k : Nat) : FnOk PR 89 (poly_before.sp k) :=
  fn_ok (poly_before.cok k) hmix Try.func89 (code := poly_before.code) (by kernel_rfl) (by kernel_rfl) (by kernel_rfl) rfl rfl (by kernel_rfl) (by kernel_rfl) (by kernel_rfl) (fun x => Nat.le_of_ble_eq_true (by kernel_rfl)) fun x y hy => (poly_before.way k x.1 x.2.1).ap hy

/-! slices.SortFunc[[]tourney/api.Vec,tourney/api.Vec] -/
noncomputable def slices_SortFunc (k : Nat) (r0 : (List V27)) : Option (List V27) := sortG T27 r0 (fun z => poly_before k z.1 z.2.1)
noncomputable def slices_SortFunc.h (k : Nat) : Go.Sx.HSp := sortH0 T27 28 89 (fun x => poly_before k x.1 x.2.1)
theorem slices_SortFunc.ok (k : Nat) : HOk PR 88 (slices_SortFunc.h k) := sortH0_ok sortsAt_88 (by kernel_rfl) 28 (enters_of Try.func89 (by kernel_rfl) rfl) (poly_before.ok k)

/-! slices.Compact[[]tourney/api.Vec,tourney/api.Vec] -/
noncomputable def slices_Compact.code : Code := Func.cd Try.f90
noncomputable def slices_Compact.c3 (k : Nat) (v2 : Int) (v8 : Int) (v9 : Int) (v10 : (List V27)) : Option ((Int × (List V27))) :=
  bif' (Ty.eqb T27 (el Z27 v10 (ofs (Int.toNat v2) v9)) (el Z27 v10 (ofs (Int.toNat v2) (isub .i64 v9 (1 : Int)))))
  (some (v8, v10))
  (req (inR v9 ((List.length v10 - Int.toNat v2 : Nat) : Int)) <|
   req (inL (ofs (Int.toNat v2) v9) v10) <|
   req (inL v8 v10) <|
   some ((iadd .i64 v8 1), (st v10 v8 (el Z27 v10 (ofs (Int.toNat v2) v9)))))
noncomputable def slices_Compact.c2 (k : Nat) (v2 : Int) : Nat → Int → Int → (List V27) → Option ((Int × (List V27)))
  | 0, _, _, _ => none
  | n + 1, v8, v9, v10 =>
   bif' (ilt v9 ((List.length v10 - Int.toNat v2 : Nat) : Int))
   (req (inR v9 ((List.length v10 - Int.toNat v2 : Nat) : Int)) <|
    req (inL (ofs (Int.toNat v2) v9) v10) <|
    req (inR (isub .i64 v9 1) ((List.length v10 - Int.toNat v2 : Nat) : Int)) <|
    req (inL (ofs (Int.toNat v2) (isub .i64 v9 1)) v10) <|
    bnd (slices_Compact.c3 k v2 v8 v9 v10) fun o20 =>
    slices_Compact.c2 k v2 n o20.1 (iadd .i64 v9 1) o20.2)
   (some (v8, v10))
noncomputable def slices_Compact.c1 (k : Nat) (r0 : (List V27)) : Nat → Int → Option ((List V27) ⊕ Unit)
  | 0, _ => none
  | n + 1, v2 =>
   bif' (ilt v2 (len r0))
   (req (inL v2 r0) <|
    req (inL (isub .i64 v2 1) r0) <|
    bif' (Ty.eqb T27 (el Z27 r0 v2) (el Z27 r0 (isub .i64 v2 (1 : Int))))
    (req (sufIn v2 (List.length r0)) <|
     bnd (slices_Compact.c2 k v2 k v2 1 r0) fun o22 =>
     req (sufIn o22.1 (List.length o22.2)) <|
     req (Int.toNat o22.1 ≤ List.length o22.2) <|
     req (tkOk (clr Z27 o22.2 (Int.toNat o22.1)) o22.1) <|
     some (.inl (tk (clr Z27 o22.2 (Int.toNat o22.1)) o22.1)))
    (slices_Compact.c1 k r0 n (iadd .i64 v2 1)))
   (some (.inr ()))
noncomputable def slices_Compact (k : Nat) (r0 : (List V27)) : Option (List V27) :=
  bif' (ilt (len r0) 2)
  (some r0)
  (bnd (slices_Compact.c1 k r0 k 1) fun o27 =>
   two o27 (fun y29 =>
   some y29) (fun y31 =>
   some r0))
noncomputable def slices_Compact.h (k : Nat) : Go.Sx.HSp := ⟨(.pair T22 .unit), (.slice T27), 1, fun x => [.lent (.val .own (0 : Nat))], fun x => [(0, .row T27 x.1 28)], fun x => slices_Compact k x.1, fun x y => [(0, .row T27 y 28)], .none, fun y => (), false, true⟩
noncomputable def slices_Compact.cx (k : Nat) : Go.Sx.Ctx := ⟨tys, [], eqs, 61, 0, [], false⟩
theorem slices_Compact.cok (k : Nat) : CtxOk PR (slices_Compact.cx k) := ctx_ok tysOk eqsOk FnsOk.nil HsOk.nil
noncomputable def slices_Compact.c3p (v2 : Int) (v8 : Int) (v9 : Int) (v10 : (List V27)) : SL := ⟨[(0, (.val .own (0 : Nat))), (3, (.val T2 v8)), (4, (.suf 0 (Int.toNat v2) 2)), (5, (.val T2 v9)), (44, (.val T4 (!(Ty.eqb T27 (el Z27 v10 (ofs (Int.toNat v2) v9)) (el Z27 v10 (ofs (Int.toNat v2) (isub .i64 v9 (1 : Int))))))))], [(0, .row T27 v10 28)]⟩
noncomputable def slices_Compact.c3q (v2 : Int) (v9 : Int) (o : (Int × (List V27))) : SL := (fun v => ⟨[(0, (.val .own (0 : Nat))), (3, (.val T2 v.1)), (4, (.suf 0 (Int.toNat v2) 2)), (5, (.val T2 v9))], [(0, .row T27 v.2 28)]⟩) o
noncomputable def slices_Compact.c3x (o : (Int × (List V27))) : Ex := (fun _ => .normal) o
noncomputable def slices_Compact.c3n (o : (Int × (List V27))) : Nat := (fun _ => 1) o
theorem slices_Compact.c3_ok (k : Nat) (v2 : Int) (v8 : Int) (v9 : Int) (v10 : (List V27)) : Owp (slices_Compact.c3 k v2 v8 v9 v10) fun o => Triple PR (slices_Compact.cx k) (sub slices_Compact.code [1, 1, 0, 1, 0, 0, 1, 0, 0, 1, 0, 1, 0, 1, 0, 0, 1, 0, 0, 1]) 1 (slices_Compact.c3p v2 v8 v9 v10) (slices_Compact.c3x o) (slices_Compact.c3n o) (slices_Compact.c3q v2 v9 o) := by
  unfold slices_Compact.c3; exact
   Owp.bif (fun e16 =>
   Owp.some (triple_way (slices_Compact.cok k) hmix [.dec false] [] [(0, 0)] (via (finP (And.intro trivial (congrArg not e16)) .normal [(0, 0)] (slices_Compact.c3q v2 v9 (v8, v10))) (by kernel_rfl)))) (fun e16 =>
   Owp.req fun h17 =>
    Owp.req fun h18 =>
    Owp.req fun h19 =>
    Owp.some (triple_way (slices_Compact.cok k) hmix [.dec true] [] [(0, 0)] (via (finP (And.intro (And.intro (And.intro (And.intro (And.intro trivial (congrArg not e16)) h17) h18) h19) h19) .normal [(0, 0)] (slices_Compact.c3q v2 v9 ((iadd .i64 v8 (1 : Int)), (st v10 v8 (el Z27 v10 (ofs (Int.toNat v2) v9)))))) (by kernel_rfl))))
noncomputable def slices_Compact.c2p (v2 : Int) (v8 : Int) (v9 : Int) (v10 : (List V27)) : SL := ⟨[(0, (.val .own (0 : Nat))), (3, (.val T2 v8)), (4, (.suf 0 (Int.toNat v2) 2)), (5, (.val T2 v9))], [(0, .row T27 v10 28)]⟩
noncomputable def slices_Compact.c2q (o : (Int × (List V27))) : SL := (fun v => ⟨[(0, (.val .own (0 : Nat))), (3, (.val T2 v.1))], [(0, .row T27 v.2 28)]⟩) o
noncomputable def slices_Compact.c2x (o : (Int × (List V27))) : Ex := (fun _ => (.exit 2)) o
noncomputable def slices_Compact.c2n (o : (Int × (List V27))) : Nat := (fun _ => 1) o
theorem slices_Compact.c2_ok (k : Nat) (v2 : Int) : ∀ (n : Nat) (v8 : Int) (v9 : Int) (v10 : (List V27)), Owp (slices_Compact.c2 k v2 n v8 v9 v10) fun o => LTriple PR (slices_Compact.cx k) (sub slices_Compact.code [1, 1, 0, 1, 0, 0, 1, 0, 0, 1, 0, 1, 0, 1, 0, 0]) 1 (slices_Compact.c2p v2 v8 v9 v10) (slices_Compact.c2x o) (slices_Compact.c2n o) (slices_Compact.c2q o)
  | 0, _, _, _ => fun _ h => nomatch h
  | n + 1, v8, v9, v10 => Owp.of (slices_Compact.c2.eq_2 ..) (
   Owp.bif (fun e11 =>
   Owp.req fun h12 =>
    Owp.req fun h13 =>
    Owp.req fun h14 =>
    Owp.req fun h15 =>
    Owp.bnd fun o20 e21 =>
    fun y hy => loop_back (slices_Compact.cok k) hmix 1 (slices_Compact.c2p v2 o20.1 (iadd .i64 v9 (1 : Int)) o20.2) [.dec true, .cut ⟨[], [(0, 0)], (slices_Compact.c3p v2 v8 v9 v10), 1, .normal, (slices_Compact.c3q v2 v9 o20), 1⟩] [] [(0, 0)] (via (cutP (And.intro (And.intro (And.intro (And.intro (And.intro trivial e11) h12) h13) h14) h15) [(0, 0)] (slices_Compact.c3p v2 v8 v9 v10) (((slices_Compact.c3_ok k v2 v8 v9 v10).ap e21)) (finP trivial .normal [(0, 0)] (slices_Compact.c2p v2 o20.1 (iadd .i64 v9 (1 : Int)) o20.2))) (by kernel_rfl)) ((slices_Compact.c2_ok k v2 n o20.1 (iadd .i64 v9 (1 : Int)) o20.2).ap hy)) (fun e11 =>
   Owp.some (loop_exit (slices_Compact.cok k) hmix [.dec false] [] [(0, 0)] (exne 2) (via (finP (And.intro trivial e11) (.exit 2) [(0, 0)] (slices_Compact.c2q (v8, v10))) (by kernel_rfl)))))
noncomputable def slices_Compact.c1p (r0 : (List V27)) (v2 : Int) : SL := ⟨[(0, (.val .own (0 : Nat))), (3, (.val T2 v2))], [(0, .row T27 r0 28)]⟩
noncomputable def slices_Compact.c1q (r0 : (List V27)) (o : (List V27) ⊕ Unit) : SL := (fun o => two o (fun v => ⟨[(2, (.val .own (0 : Nat)))], [(0, .row T27 v 28)]⟩) (fun v => ⟨[(0, (.val .own (0 : Nat)))], [(0, .row T27 r0 28)]⟩)) o
noncomputable def slices_Compact.c1x (o : (List V27) ⊕ Unit) : Ex := (fun o => two o (fun _ => .ret) (fun _ => (.exit 0))) o
noncomputable def slices_Compact.c1n (o : (List V27) ⊕ Unit) : Nat := (fun o => two o (fun _ => 1) (fun _ => 1)) o
theorem slices_Compact.c1_ok (k : Nat) (r0 : (List V27)) : ∀ (n : Nat) (v2 : Int), Owp (slices_Compact.c1 k r0 n v2) fun o => LTriple PR (slices_Compact.cx k) (sub slices_Compact.code [1, 1, 0, 1, 0, 0]) 1 (slices_Compact.c1p r0 v2) (slices_Compact.c1x o) (slices_Compact.c1n o) (slices_Compact.c1q r0 o)
  | 0, _ => fun _ h => nomatch h
  | n + 1, v2 => Owp.of (slices_Compact.c1.eq_2 ..) (
   Owp.bif (fun e3 =>
   Owp.req fun h4 =>
    Owp.req fun h5 =>
    Owp.bif (fun e6 =>
    Owp.req fun h7 =>
     Owp.bnd fun o22 e23 =>
     Owp.req fun h24 =>
     Owp.req fun h25 =>
     Owp.req fun h26 =>
     Owp.some (loop_exit (slices_Compact.cok k) hmix [.dec true, .dec true, .cut ⟨[], [(0, 0)], (slices_Compact.c2p v2 v2 (1 : Int) r0), 1, (.exit 2), (slices_Compact.c2q o22), 1⟩] [] [(0, 7)] exne_ret (via (cutP (And.intro (And.intro (And.intro (And.intro (And.intro (And.intro (And.intro trivial e3) h4) h4) h5) h5) e6) h7) [(0, 0)] (slices_Compact.c2p v2 v2 (1 : Int) r0) (((slices_Compact.c2_ok k v2 k v2 (1 : Int) r0).ap e23).triple) (finP (And.intro (And.intro (And.intro trivial h24) h25) h26) .ret [(0, 7)] (slices_Compact.c1q r0 (.inl (tk (clr Z27 o22.2 (Int.toNat o22.1)) o22.1))))) (by kernel_rfl)))) (fun e6 =>
    fun y hy => loop_back (slices_Compact.cok k) hmix 1 (slices_Compact.c1p r0 (iadd .i64 v2 (1 : Int))) [.dec true, .dec false] [] [(0, 0)] (via (finP (And.intro (And.intro (And.intro (And.intro (And.intro (And.intro trivial e3) h4) h4) h5) h5) e6) .normal [(0, 0)] (slices_Compact.c1p r0 (iadd .i64 v2 (1 : Int)))) (by kernel_rfl)) ((slices_Compact.c1_ok k r0 n (iadd .i64 v2 (1 : Int))).ap hy))) (fun e3 =>
   Owp.some (loop_exit (slices_Compact.cok k) hmix [.dec false] [] [(0, 0)] (exne 0) (via (finP (And.intro trivial e3) (.exit 0) [(0, 0)] (slices_Compact.c1q r0 (.inr ()))) (by kernel_rfl)))))
@[irreducible] noncomputable def slices_Compact.P (k : Nat) (r0 : (List V27)) (y : (List V27)) (answers : List Ans) (cmds : List Cmd) : Prop := exec PR (slices_Compact.cx k) slices_Compact.code 1 (entryH (slices_Compact.h k) (r0, ())).st answers (RetG (slices_Compact.cx k) Try.f90 cmds (slices_Compact.h k) (r0, ()) y)
theorem slices_Compact.way (k : Nat) (r0 : (List V27)) : Owp (slices_Compact k r0) fun y => ∃ answers cmds, slices_Compact.P k r0 y answers cmds := by
  unfold slices_Compact; exact
   Owp.bif (fun e1 =>
   Owp.some (⟨[.dec true], [], via (retgP (And.intro trivial e1) (some (.row T27 r0 28))) (by kernel_rfl)⟩)) (fun e1 =>
   Owp.bnd fun o27 e28 =>
    Owp.two (fun y29 e30 =>
    Owp.some (⟨[.dec false, .cut ⟨[], [(0, 0)], (slices_Compact.c1p r0 (1 : Int)), 1, .ret, (slices_Compact.c1q r0 (.inl y29)), 1⟩], [], via (cutP (And.intro trivial e1) [(0, 0)] (slices_Compact.c1p r0 (1 : Int)) (((slices_Compact.c1_ok k r0 k (1 : Int)).ap (e28.trans (congrArg some e30))).triple) (retgP trivial (some (.row T27 y29 28)))) (by kernel_rfl)⟩)) (fun y31 e32 =>
    Owp.some (⟨[.dec false, .cut ⟨[], [(0, 0)], (slices_Compact.c1p r0 (1 : Int)), 1, (.exit 0), (slices_Compact.c1q r0 (.inr ())), 1⟩], [], via (cutP (And.intro trivial e1) [(0, 0)] (slices_Compact.c1p r0 (1 : Int)) (((slices_Compact.c1_ok k r0 k (1 : Int)).ap (e28.trans (congrArg some e32))).triple) (retgP trivial (some (.row T27 r0 28)))) (by kernel_rfl)⟩)))
theorem slices_Compact.ok (k : Nat) : HOk PR 90 (slices_Compact.h k) :=
  fnG_ok (slices_Compact.cok k) hmix Try.func90 (code := slices_Compact.code) (by kernel_rfl) (by kernel_rfl) (by kernel_rfl) (by kernel_rfl) (by kernel_rfl) (by kernel_rfl) (fun x => Nat.le_of_ble_eq_true (by kernel_rfl)) (fun x => ⟨_, _, _, rfl⟩) fun x y hy => match (slices_Compact.way k x.1).ap hy with | ⟨ans, cmds, h⟩ => ⟨ans, cmds, via h (by kernel_rfl)⟩

/-! tourney/poly.side -/
noncomputable def poly_side.code : Code := Func.cd Try.f91
noncomputable def poly_side (k : Nat) (a0 : V27) (a1 : V27) (a2 : V27) : Option Int :=
  some (isub .i64 (imul .i64 (isub .i64 a1.1 a0.1) (isub .i64 a2.2.1 a0.2.1)) (imul .i64 (isub .i64 a1.2.1 a0.2.1) (isub .i64 a2.1 a0.1)))
noncomputable def poly_side.sp (k : Nat) : Go.Sx.Spec := ⟨(.pair T27 T41), (.one (.dp T2)), fun x => poly_side k x.1 x.2.1 x.2.2.1, false⟩
noncomputable def poly_side.cx (k : Nat) : Go.Sx.Ctx := ⟨tys, [], eqs, 30, 0, [], false⟩
theorem poly_side.cok (k : Nat) : CtxOk PR (poly_side.cx k) := ctx_ok tysOk eqsOk FnsOk.nil HsOk.nil
theorem poly_side.way (k : Nat) (a0 : V27) (a1 : V27) (a2 : V27) : Owp (poly_side k a0 a1 a2) fun y => ∃ answers cmds, exec PR (poly_side.cx k) poly_side.code 0 (entry (.pair T27 T41) (a0, a1, a2, ())).st answers (Ret (poly_side.cx k) Try.f91 cmds (.one (.dp T2)) y) := by
  unfold poly_side; exact
   Owp.some (⟨[], [], via (retP trivial (.one (.dp T2)) ((isub .i64 (imul .i64 (isub .i64 a1.1 a0.1) (isub .i64 a2.2.1 a0.2.1)) (imul .i64 (isub .i64 a1.2.1 a0.2.1) (isub .i64 a2.1 a0.1))) : Int)) (by kernel_rfl)⟩)
theorem poly_side.ok (k : Nat) : FnOk PR 91 (poly_side.sp k) :=
  fn_ok (poly_side.cok k) hmix Try.func91 (code := poly_side.code) (by kernel_rfl) (by kernel_rfl) (by kernel_rfl) rfl rfl (by kernel_rfl) (by kernel_rfl) (by kernel_rfl) (fun x => Nat.le_of_ble_eq_true (by kernel_rfl)) fun x y hy => (poly_side.way k x.1 x.2.1 x.2.2.1).ap hy

/-! slices.Reverse[[]tourney/api.Vec,tourney/api.Vec] -/
noncomputable def slices_Reverse.code : Code := Func.cd Try.f92
noncomputable def slices_Reverse.c1 (k : Nat) : Nat → Int → Int → (List V27) → Option ((List V27))
  | 0, _, _, _ => none
  | n + 1, v1, v2, v3 =>
   bif' (ilt v1 v2)
   (req (inL v2 v3) <|
    req (inL v1 v3) <|
    req (inL v2 (st v3 v1 (el Z27 v3 v2))) <|
    slices_Reverse.c1 k n (iadd .i64 v1 1) (isub .i64 v2 1) (st (st v3 v1 (el Z27 v3 v2)) v2 (el Z27 v3 v1)))
   (some v3)
noncomputable def slices_Reverse (k : Nat) (r0 : (List V27)) : Option (List V27) :=
  bnd (slices_Reverse.c1 k k 0 (isub .i64 (len r0) 1) r0) fun o8 =>
  some o8
noncomputable def slices_Reverse.h (k : Nat) : Go.Sx.HSp := ⟨(.pair T22 .unit), T22, 1, fun x => [.lent (.val .own (0 : Nat))], fun x => [(0, .row T27 x.1 28)], fun x => slices_Reverse k x.1, fun x y => [(0, .row T27 y 28)], .none, fun y => (), false, false⟩
noncomputable def slices_Reverse.cx (k : Nat) : Go.Sx.Ctx := ⟨tys, [], eqs, 28, 1, [], false⟩
theorem slices_Reverse.cok (k : Nat) : CtxOk PR (slices_Reverse.cx k) := ctx_ok tysOk eqsOk FnsOk.nil HsOk.nil
noncomputable def slices_Reverse.c1p (v1 : Int) (v2 : Int) (v3 : (List V27)) : SL := ⟨[(0, (.val .own (0 : Nat))), (2, (.val T2 v1)), (3, (.val T2 v2))], [(0, .row T27 v3 28)]⟩
noncomputable def slices_Reverse.c1q (o : (List V27)) : SL := (fun v => ⟨[], [(0, .row T27 v 28)]⟩) o
noncomputable def slices_Reverse.c1x (o : (List V27)) : Ex := (fun _ => (.exit 0)) o
noncomputable def slices_Reverse.c1n (o : (List V27)) : Nat := (fun _ => 1) o
theorem slices_Reverse.c1_ok (k : Nat) : ∀ (n : Nat) (v1 : Int) (v2 : Int) (v3 : (List V27)), Owp (slices_Reverse.c1 k n v1 v2 v3) fun o => LTriple PR (slices_Reverse.cx k) (sub slices_Reverse.code [1, 0, 0]) 1 (slices_Reverse.c1p v1 v2 v3) (slices_Reverse.c1x o) (slices_Reverse.c1n o) (slices_Reverse.c1q o)
  | 0, _, _, _ => fun _ h => nomatch h
  | n + 1, v1, v2, v3 => Owp.of (slices_Reverse.c1.eq_2 ..) (
   Owp.bif (fun e4 =>
   Owp.req fun h5 =>
    Owp.req fun h6 =>
    Owp.req fun h7 =>
    fun y hy => loop_back (slices_Reverse.cok k) hmix 1 (slices_Reverse.c1p (iadd .i64 v1 (1 : Int)) (isub .i64 v2 (1 : Int)) (st (st v3 v1 (el Z27 v3 v2)) v2 (el Z27 v3 v1))) [.dec true] [] [(0, 0)] (via (finP (And.intro (And.intro (And.intro (And.intro (And.intro (And.intro (And.intro (And.intro (And.intro trivial e4) h5) h5) h6) h6) h6) h6) h7) h7) .normal [(0, 0)] (slices_Reverse.c1p (iadd .i64 v1 (1 : Int)) (isub .i64 v2 (1 : Int)) (st (st v3 v1 (el Z27 v3 v2)) v2 (el Z27 v3 v1)))) (by kernel_rfl)) ((slices_Reverse.c1_ok k n (iadd .i64 v1 (1 : Int)) (isub .i64 v2 (1 : Int)) (st (st v3 v1 (el Z27 v3 v2)) v2 (el Z27 v3 v1))).ap hy)) (fun e4 =>
   Owp.some (loop_exit (slices_Reverse.cok k) hmix [.dec false] [] [(0, 0)] (exne 0) (via (finP (And.intro trivial e4) (.exit 0) [(0, 0)] (slices_Reverse.c1q v3)) (by kernel_rfl)))))
@[irreducible] noncomputable def slices_Reverse.P (k : Nat) (r0 : (List V27)) (y : (List V27)) (answers : List Ans) (cmds : List Cmd) : Prop := exec PR (slices_Reverse.cx k) slices_Reverse.code 1 (entryH (slices_Reverse.h k) (r0, ())).st answers (RetH (slices_Reverse.cx k) Try.f92 cmds (slices_Reverse.h k) (r0, ()) y)
theorem slices_Reverse.way (k : Nat) (r0 : (List V27)) : Owp (slices_Reverse k r0) fun y => ∃ answers cmds, slices_Reverse.P k r0 y answers cmds := by
  unfold slices_Reverse; exact
   Owp.bnd fun o8 e9 =>
   Owp.some (⟨[.cut ⟨[], [(0, 0)], (slices_Reverse.c1p (0 : Int) (isub .i64 (len r0) (1 : Int)) r0), 1, (.exit 0), (slices_Reverse.c1q o8), 1⟩], [], via (cutP trivial [(0, 0)] (slices_Reverse.c1p (0 : Int) (isub .i64 (len r0) (1 : Int)) r0) (((slices_Reverse.c1_ok k k (0 : Int) (isub .i64 (len r0) (1 : Int)) r0).ap e9).triple) (rethP trivial [(0, .row T27 o8 28)] .none (() : Unit))) (by kernel_rfl)⟩)
theorem slices_Reverse.ok (k : Nat) : HOk PR 92 (slices_Reverse.h k) :=
  fnH_ok (slices_Reverse.cok k) hmix Try.func92 (code := slices_Reverse.code) (by kernel_rfl) (by kernel_rfl) (by kernel_rfl) (by kernel_rfl) (by kernel_rfl) (by kernel_rfl) (fun x => Nat.le_of_ble_eq_true (by kernel_rfl)) fun x y hy => match (slices_Reverse.way k x.1).ap hy with | ⟨ans, cmds, h⟩ => ⟨ans, cmds, via h (by kernel_rfl)⟩

/-! tourney/poly.Hull -/
noncomputable def poly_Hull.code : Code := Func.cd Try.f14
noncomputable def poly_Hull.c4 (k : Nat) (v12 : (List V27)) (v13 : (List V27)) (v15 : Int) (v19 : (List V27)) : Option (Bool) :=
  bif' (ige (len v19) (iadd .i64 (len v13) 2))
  (req (inL (isub .i64 (len v19) 2) v19) <|
   req (inL (isub .i64 (len v19) 1) v19) <|
   bnd (poly_side k (el Z27 v19 (isub .i64 (len v19) 2)) (el Z27 v19 (isub .i64 (len v19) 1)) (el Z27 v12 v15)) fun y23 =>
   some (ile y23 0))
  (some false)
noncomputable def poly_Hull.c3 (k : Nat) (v12 : (List V27)) (v13 : (List V27)) (v15 : Int) : Nat → (List V27) → Option ((List V27))
  | 0, _ => none
  | n + 1, v19 =>
   bnd (poly_Hull.c4 k v12 v13 v15 v19) fun o25 =>
   bif' o25
   (req (tkOk v19 (isub .i64 (len v19) 1)) <|
    poly_Hull.c3 k v12 v13 v15 n (tk v19 (isub .i64 (len v19) 1)))
   (some v19)
noncomputable def poly_Hull.c2 (k : Nat) (v12 : (List V27)) (v13 : (List V27)) : Nat → Int → (List V27) → Option ((List V27))
  | 0, _, _ => none
  | n + 1, v15, v16 =>
   bif' (ilt v15 (len v12))
   (req (inL v15 v12) <|
    bnd (poly_Hull.c3 k v12 v13 v15 k v16) fun o29 =>
    req (room 16 o29 [(el Z27 v12 v15)]) <|
    poly_Hull.c2 k v12 v13 n (iadd .i64 v15 1) (o29 ++ [(el Z27 v12 v15)]))
   (some v16)
noncomputable def poly_Hull.c1 (k : Nat) : Nat → Int → (List V27) → (List V27) → Option ((List V27))
  | 0, _, _, _ => none
  | n + 1, v11, v12, v13 =>
   bif' (ilt v11 2)
   (bnd (poly_Hull.c2 k v12 v13 k 0 v13) fun o32 =>
    req (tkOk o32 (imax (isub .i64 (len o32) 1) 0)) <|
    bnd (slices_Reverse k v12) fun y35 =>
    poly_Hull.c1 k n (iadd .i64 v11 1) y35 (tk o32 (imax (isub .i64 (len o32) 1) 0)))
   (some v13)
noncomputable def poly_Hull (k : Nat) (a0 : (List V27)) : Option ((List V27) × Int) :=
  bif' (igt (len a0) 64)
  (some ([], 2))
  (bnd (slices_ContainsFunc k a0 (fun x : (V27 × Unit) => poly_Hull_1 k (x.1))) fun y2 =>
   bif' y2
   (some ([], 1))
   (bnd (slices_Clone k a0) fun y5 =>
    bnd (slices_SortFunc k y5) fun y7 =>
    bnd (slices_Compact k y7) fun y9 =>
    bnd (poly_Hull.c1 k k 0 y9 []) fun o37 =>
    bif' (ilt (len o37) 3)
    (some ([], 3))
    (bif' (igt (len o37) 8)
     (some ([], 6))
     (some (o37, 0)))))
noncomputable def poly_Hull.sp (k : Nat) : Go.Sx.Spec := ⟨(.pair T22 .unit), (.more (.ow T27 28) (.one (.dp T2))), fun x => poly_Hull k x.1, false⟩
noncomputable def poly_Hull.cx (k : Nat) : Go.Sx.Ctx := ⟨tys, [(23, slices_ContainsFunc.sp k), (85, poly_Hull_1.sp k), (87, slices_Clone.sp k), (91, poly_side.sp k)], eqs, 80, 0, [(88, slices_SortFunc.h k), (90, slices_Compact.h k), (92, slices_Reverse.h k)], false⟩
theorem poly_Hull.cok (k : Nat) : CtxOk PR (poly_Hull.cx k) := ctx_ok tysOk eqsOk (FnsOk.cons (slices_ContainsFunc.ok k) (FnsOk.cons (poly_Hull_1.ok k) (FnsOk.cons (slices_Clone.ok k) (FnsOk.cons (poly_side.ok k) FnsOk.nil)))) (HsOk.cons (slices_SortFunc.ok k) (HsOk.cons (slices_Compact.ok k) (HsOk.cons (slices_Reverse.ok k) HsOk.nil)))
noncomputable def poly_Hull.c4p (v11 : Int) (v12 : (List V27)) (v13 : (List V27)) (v15 : Int) (v19 : (List V27)) : SL := ⟨[(4, (.val .own (0 : Nat))), (5, (.val .own (1 : Nat))), (6, (.val T2 (len v13))), (8, (.val .ptr ⟨2, 0, (0 : Int), 0, 0⟩)), (20, (.val T2 v11)), (24, (.val .own (0 : Nat))), (25, (.val T2 (len v12))), (26, (.val T2 v15))], [(0, .row T27 v12 28), (1, .row T27 v19 28), (2, .cells T27 (el Z27 v12 v15))]⟩
noncomputable def poly_Hull.c4q (v11 : Int) (v12 : (List V27)) (v13 : (List V27)) (v15 : Int) (v19 : (List V27)) (o : Bool) : SL := (fun v => ⟨[(4, (.val .own (0 : Nat))), (5, (.val .own (1 : Nat))), (6, (.val T2 (len v13))), (8, (.val .ptr ⟨2, 0, (0 : Int), 0, 0⟩)), (20, (.val T2 v11)), (24, (.val .own (0 : Nat))), (25, (.val T2 (len v12))), (26, (.val T2 v15)), (51, (.val T4 v))], [(0, .row T27 v12 28), (1, .row T27 v19 28), (2, .cells T27 (el Z27 v12 v15))]⟩) o
noncomputable def poly_Hull.c4x (o : Bool) : Ex := (fun _ => .normal) o
noncomputable def poly_Hull.c4n (o : Bool) : Nat := (fun _ => 3) o
theorem poly_Hull.c4_ok (k : Nat) (v11 : Int) (v12 : (List V27)) (v13 : (List V27)) (v15 : Int) (v19 : (List V27)) : Owp (poly_Hull.c4 k v12 v13 v15 v19) fun o => Triple PR (poly_Hull.cx k) (sub poly_Hull.code [1, 1, 1, 1, 1, 1, 1, 0, 1, 0, 0, 1, 1, 0, 0, 1, 0, 1, 0, 0, 1, 1, 0, 0, 1, 0, 0, 0, 0, 0]) 3 (poly_Hull.c4p v11 v12 v13 v15 v19) (poly_Hull.c4x o) (poly_Hull.c4n o) (poly_Hull.c4q v11 v12 v13 v15 v19 o) := by
  unfold poly_Hull.c4; exact
   Owp.bif (fun e20 =>
   Owp.req fun h21 =>
    Owp.req fun h22 =>
    Owp.bnd fun y23 e24 =>
    Owp.some (triple_way (poly_Hull.cok k) hmix [.dec true, .dec true, .dec true, .dec true, .dec true, .dec true, .dec true, .dec true, .dec true, .dec true, .dec true, .dec true, .dec true, .dec true, .res (.one (.dp T2)) y23, .dec true, .dec true] [] [(0, 0), (1, 1), (2, 2)] (via (finP (And.intro (And.intro (And.intro (And.intro (And.intro (And.intro (And.intro (And.intro (And.intro (And.intro (And.intro (And.intro (And.intro (And.intro (And.intro (And.intro trivial e20) e20) e20) e20) (And.intro e20 h21)) (And.intro e20 h21)) e20) e20) e20) e20) (And.intro e20 h22)) (And.intro e20 h22)) e20) (And.intro e20 e24)) e20) e20) .normal [(0, 0), (1, 1), (2, 2)] (poly_Hull.c4q v11 v12 v13 v15 v19 (ile y23 (0 : Int)))) (by kernel_rfl)))) (fun e20 =>
   Owp.some (triple_way (poly_Hull.cok k) hmix [.dec false, .dec false, .dec false, .dec false, .dec false, .dec false, .dec false, .dec false, .dec false, .dec false, .dec false, .dec false, .dec false, .dec false, .dec true, .dec false, .dec false] [] [(0, 0), (1, 1), (2, 2)] (via (finP (And.intro (And.intro (And.intro (And.intro (And.intro (And.intro (And.intro (And.intro (And.intro (And.intro (And.intro (And.intro (And.intro (And.intro (And.intro (And.intro trivial e20) e20) e20) e20) e20) e20) e20) e20) e20) e20) e20) e20) e20) e20) e20) e20) .normal [(0, 0), (1, 1), (2, 2)] (poly_Hull.c4q v11 v12 v13 v15 v19 false)) (by kernel_rfl))))
noncomputable def poly_Hull.c3p (v11 : Int) (v12 : (List V27)) (v13 : (List V27)) (v15 : Int) (v19 : (List V27)) : SL := ⟨[(4, (.val .own (0 : Nat))), (5, (.val .own (1 : Nat))), (6, (.val T2 (len v13))), (8, (.val .ptr ⟨2, 0, (0 : Int), 0, 0⟩)), (20, (.val T2 v11)), (24, (.val .own (0 : Nat))), (25, (.val T2 (len v12))), (26, (.val T2 v15))], [(0, .row T27 v12 28), (1, .row T27 v19 28), (2, .cells T27 (el Z27 v12 v15))]⟩
noncomputable def poly_Hull.c3q (v11 : Int) (v12 : (List V27)) (v13 : (List V27)) (v15 : Int) (o : (List V27)) : SL := (fun v => ⟨[(4, (.val .own (0 : Nat))), (5, (.val .own (1 : Nat))), (6, (.val T2 (len v13))), (8, (.val .ptr ⟨2, 0, (0 : Int), 0, 0⟩)), (20, (.val T2 v11)), (24, (.val .own (0 : Nat))), (25, (.val T2 (len v12))), (26, (.val T2 v15))], [(0, .row T27 v12 28), (1, .row T27 v 28), (2, .cells T27 (el Z27 v12 v15))]⟩) o
noncomputable def poly_Hull.c3x (o : (List V27)) : Ex := (fun _ => (.exit 4)) o
noncomputable def poly_Hull.c3n (o : (List V27)) : Nat := (fun _ => 3) o
theorem poly_Hull.c3_ok (k : Nat) (v11 : Int) (v12 : (List V27)) (v13 : (List V27)) (v15 : Int) : ∀ (n : Nat) (v19 : (List V27)), Owp (poly_Hull.c3 k v12 v13 v15 n v19) fun o => LTriple PR (poly_Hull.cx k) (sub poly_Hull.code [1, 1, 1, 1, 1, 1, 1, 0, 1, 0, 0, 1, 1, 0, 0, 1, 0, 1, 0, 0, 1, 1, 0, 0, 1, 0, 0, 0]) 3 (poly_Hull.c3p v11 v12 v13 v15 v19) (poly_Hull.c3x o) (poly_Hull.c3n o) (poly_Hull.c3q v11 v12 v13 v15 o)
  | 0, _ => fun _ h => nomatch h
  | n + 1, v19 => Owp.of (poly_Hull.c3.eq_2 ..) (
   Owp.bnd fun o25 e26 =>
   Owp.bif (fun e27 =>
   Owp.req fun h28 =>
    fun y hy => loop_back (poly_Hull.cok k) hmix 3 (poly_Hull.c3p v11 v12 v13 v15 (tk v19 (isub .i64 (len v19) (1 : Int)))) [.cutR 15 ⟨[], [(0, 0), (1, 1), (2, 2)], (poly_Hull.c4p v11 v12 v13 v15 v19), 3, .normal, (poly_Hull.c4q v11 v12 v13 v15 v19 o25), 3⟩, .dec true] [] [(0, 0), (1, 7), (2, 2)] (via (cutP trivial [(0, 0), (1, 1), (2, 2)] (poly_Hull.c4p v11 v12 v13 v15 v19) (((poly_Hull.c4_ok k v11 v12 v13 v15 v19).ap e26)) (finP (And.intro (And.intro trivial e27) h28) .normal [(0, 0), (1, 7), (2, 2)] (poly_Hull.c3p v11 v12 v13 v15 (tk v19 (isub .i64 (len v19) (1 : Int)))))) (by kernel_rfl)) ((poly_Hull.c3_ok k v11 v12 v13 v15 n (tk v19 (isub .i64 (len v19) (1 : Int)))).ap hy)) (fun e27 =>
   Owp.some (loop_exit (poly_Hull.cok k) hmix [.cutR 15 ⟨[], [(0, 0), (1, 1), (2, 2)], (poly_Hull.c4p v11 v12 v13 v15 v19), 3, .normal, (poly_Hull.c4q v11 v12 v13 v15 v19 o25), 3⟩, .dec false] [] [(0, 0), (1, 1), (2, 2)] (exne 4) (via (cutP trivial [(0, 0), (1, 1), (2, 2)] (poly_Hull.c4p v11 v12 v13 v15 v19) (((poly_Hull.c4_ok k v11 v12 v13 v15 v19).ap e26)) (finP (And.intro trivial e27) (.exit 4) [(0, 0), (1, 1), (2, 2)] (poly_Hull.c3q v11 v12 v13 v15 v19))) (by kernel_rfl)))))
noncomputable def poly_Hull.c2p (v11 : Int) (v12 : (List V27)) (v13 : (List V27)) (v15 : Int) (v16 : (List V27)) : SL := ⟨[(4, (.val .own (0 : Nat))), (5, (.val .own (1 : Nat))), (6, (.val T2 (len v13))), (20, (.val T2 v11)), (24, (.val .own (0 : Nat))), (25, (.val T2 (len v12))), (26, (.val T2 v15))], [(0, .row T27 v12 28), (1, .row T27 v16 28)]⟩
noncomputable def poly_Hull.c2q (v11 : Int) (v12 : (List V27)) (o : (List V27)) : SL := (fun v => ⟨[(4, (.val .own (0 : Nat))), (5, (.val .own (1 : Nat))), (20, (.val T2 v11))], [(0, .row T27 v12 28), (1, .row T27 v 28)]⟩) o
noncomputable def poly_Hull.c2x (o : (List V27)) : Ex := (fun _ => (.exit 2)) o
noncomputable def poly_Hull.c2n (o : (List V27)) : Nat := (fun _ => 2) o
theorem poly_Hull.c2_ok (k : Nat) (v11 : Int) (v12 : (List V27)) (v13 : (List V27)) : ∀ (n : Nat) (v15 : Int) (v16 : (List V27)), Owp (poly_Hull.c2 k v12 v13 n v15 v16) fun o => LTriple PR (poly_Hull.cx k) (sub poly_Hull.code [1, 1, 1, 1, 1, 1, 1, 0, 1, 0, 0, 1, 1, 0, 0, 1, 0, 1, 0, 0]) 2 (poly_Hull.c2p v11 v12 v13 v15 v16) (poly_Hull.c2x o) (poly_Hull.c2n o) (poly_Hull.c2q v11 v12 o)
  | 0, _, _ => fun _ h => nomatch h
  | n + 1, v15, v16 => Owp.of (poly_Hull.c2.eq_2 ..) (
   Owp.bif (fun e17 =>
   Owp.req fun h18 =>
    Owp.bnd fun o29 e30 =>
    Owp.req fun h31 =>
    fun y hy => loop_back (poly_Hull.cok k) hmix 2 (poly_Hull.c2p v11 v12 v13 (iadd .i64 v15 (1 : Int)) (o29 ++ [(el Z27 v12 v15)])) [.dec true, .cut ⟨[], [(0, 0), (1, 1), (2, 5)], (poly_Hull.c3p v11 v12 v13 v15 v16), 3, (.exit 4), (poly_Hull.c3q v11 v12 v13 v15 o29), 3⟩, .dec true] [] [(0, 0), (1, 6)] (via (cutP (And.intro (And.intro (And.intro trivial e17) h18) h18) [(0, 0), (1, 1), (2, 5)] (poly_Hull.c3p v11 v12 v13 v15 v16) (((poly_Hull.c3_ok k v11 v12 v13 v15 k v16).ap e30).triple) (finP (And.intro trivial h31) .normal [(0, 0), (1, 6)] (poly_Hull.c2p v11 v12 v13 (iadd .i64 v15 (1 : Int)) (o29 ++ [(el Z27 v12 v15)])))) (by kernel_rfl)) ((poly_Hull.c2_ok k v11 v12 v13 n (iadd .i64 v15 (1 : Int)) (o29 ++ [(el Z27 v12 v15)])).ap hy)) (fun e17 =>
   Owp.some (loop_exit (poly_Hull.cok k) hmix [.dec false] [] [(0, 0), (1, 1)] (exne 2) (via (finP (And.intro trivial e17) (.exit 2) [(0, 0), (1, 1)] (poly_Hull.c2q v11 v12 v16)) (by kernel_rfl)))))
noncomputable def poly_Hull.c1p (v11 : Int) (v12 : (List V27)) (v13 : (List V27)) : SL := ⟨[(4, (.val .own (0 : Nat))), (5, (.val .own (1 : Nat))), (20, (.val T2 v11))], [(0, .row T27 v12 28), (1, .row T27 v13 28)]⟩
noncomputable def poly_Hull.c1q (o : (List V27)) : SL := (fun v => ⟨[(5, (.val .own (0 : Nat)))], [(0, .row T27 v 28)]⟩) o
noncomputable def poly_Hull.c1x (o : (List V27)) : Ex := (fun _ => (.exit 0)) o
noncomputable def poly_Hull.c1n (o : (List V27)) : Nat := (fun _ => 1) o
theorem poly_Hull.c1_ok (k : Nat) : ∀ (n : Nat) (v11 : Int) (v12 : (List V27)) (v13 : (List V27)), Owp (poly_Hull.c1 k n v11 v12 v13) fun o => LTriple PR (poly_Hull.cx k) (sub poly_Hull.code [1, 1, 1, 1, 1, 1, 1, 0, 1, 0, 0]) 2 (poly_Hull.c1p v11 v12 v13) (poly_Hull.c1x o) (poly_Hull.c1n o) (poly_Hull.c1q o)
  | 0, _, _, _ => fun _ h => nomatch h
  | n + 1, v11, v12, v13 => Owp.of (poly_Hull.c1.eq_2 ..) (
   Owp.bif (fun e14 =>
   Owp.bnd fun o32 e33 =>
    Owp.req fun h34 =>
    Owp.bnd fun y35 e36 =>
    fun y hy => loop_back (poly_Hull.cok k) hmix 2 (poly_Hull.c1p (iadd .i64 v11 (1 : Int)) y35 (tk o32 (imax (isub .i64 (len o32) (1 : Int)) (0 : Int)))) [.dec true, .cut ⟨[], [(0, 0), (1, 1)], (poly_Hull.c2p v11 v12 v13 (0 : Int) v13), 2, (.exit 2), (poly_Hull.c2q v11 v12 o32), 2⟩, .hres [(0, 0)] (.pair T22 .unit) (v12, ()) T22 y35] [] [(0, 0), (1, 7)] (via (cutP (And.intro trivial e14) [(0, 0), (1, 1)] (poly_Hull.c2p v11 v12 v13 (0 : Int) v13) (((poly_Hull.c2_ok k v11 v12 v13 k (0 : Int) v13).ap e33).triple) (finP (And.intro (And.intro trivial h34) (callHP (slices_Reverse.h k) [(0, 0)] (v12, ()) e36)) .normal [(0, 0), (1, 7)] (poly_Hull.c1p (iadd .i64 v11 (1 : Int)) y35 (tk o32 (imax (isub .i64 (len o32) (1 : Int)) (0 : Int)))))) (by kernel_rfl)) ((poly_Hull.c1_ok k n (iadd .i64 v11 (1 : Int)) y35 (tk o32 (imax (isub .i64 (len o32) (1 : Int)) (0 : Int)))).ap hy)) (fun e14 =>
   Owp.some (loop_exit (poly_Hull.cok k) hmix [.dec false] [] [(0, 1)] (exne 0) (via (finP (And.intro trivial e14) (.exit 0) [(0, 1)] (poly_Hull.c1q v13)) (by kernel_rfl)))))
theorem poly_Hull.way (k : Nat) (a0 : (List V27)) : Owp (poly_Hull k a0) fun y => ∃ answers cmds, exec PR (poly_Hull.cx k) poly_Hull.code 0 (entry (.pair T22 .unit) (a0, ())).st answers (Ret (poly_Hull.cx k) Try.f14 cmds (.more (.ow T27 28) (.one (.dp T2))) y) := by
  unfold poly_Hull; exact
   Owp.bif (fun e1 =>
   Owp.some (⟨[.dec true], [.own 2 T27 28], via (retP (And.intro trivial e1) (.more (.ow T27 28) (.one (.dp T2))) (([], (2 : Int)) : ((List V27) × Int))) (by kernel_rfl)⟩)) (fun e1 =>
   Owp.bnd fun y2 e3 =>
    Owp.bif (fun e4 =>
    Owp.some (⟨[.dec false, .res (.one (.dp T4)) y2, .dec true], [.own 2 T27 28], via (retP (And.intro (And.intro (And.intro trivial e1) e3) e4) (.more (.ow T27 28) (.one (.dp T2))) (([], (1 : Int)) : ((List V27) × Int))) (by kernel_rfl)⟩)) (fun e4 =>
    Owp.bnd fun y5 e6 =>
     Owp.bnd fun y7 e8 =>
     Owp.bnd fun y9 e10 =>
     Owp.bnd fun o37 e38 =>
     Owp.bif (fun e39 =>
     Owp.some (⟨[.dec false, .res (.one (.dp T4)) y2, .dec false, .res (.one (.ow T27 28)) y5, .hres [(0, 8)] (.pair T22 .unit) (y5, ()) T22 y7, .hres [(0, 8)] (.pair T22 .unit) (y7, ()) T22 y9, .cut ⟨[.own 5 T27 28], [(0, 13), (1, 17)], (poly_Hull.c1p (0 : Int) y9 []), 2, (.exit 0), (poly_Hull.c1q o37), 1⟩, .dec true], [.own 2 T27 28], via (cutP (And.intro (And.intro (And.intro (And.intro (And.intro (And.intro trivial e1) e3) e4) e6) (callHP (slices_SortFunc.h k) [(0, 8)] (y5, ()) e8)) (callHP (slices_Compact.h k) [(0, 8)] (y7, ()) e10)) [(0, 13), (1, 17)] (poly_Hull.c1p (0 : Int) y9 []) (((poly_Hull.c1_ok k k (0 : Int) y9 []).ap e38).triple) (retP (And.intro trivial e39) (.more (.ow T27 28) (.one (.dp T2))) (([], (3 : Int)) : ((List V27) × Int)))) (by kernel_rfl)⟩)) (fun e39 =>
     Owp.bif (fun e40 =>
      Owp.some (⟨[.dec false, .res (.one (.dp T4)) y2, .dec false, .res (.one (.ow T27 28)) y5, .hres [(0, 8)] (.pair T22 .unit) (y5, ()) T22 y7, .hres [(0, 8)] (.pair T22 .unit) (y7, ()) T22 y9, .cut ⟨[.own 5 T27 28], [(0, 13), (1, 17)], (poly_Hull.c1p (0 : Int) y9 []), 2, (.exit 0), (poly_Hull.c1q o37), 1⟩, .dec false, .dec true], [.own 2 T27 28], via (cutP (And.intro (And.intro (And.intro (And.intro (And.intro (And.intro trivial e1) e3) e4) e6) (callHP (slices_SortFunc.h k) [(0, 8)] (y5, ()) e8)) (callHP (slices_Compact.h k) [(0, 8)] (y7, ()) e10)) [(0, 13), (1, 17)] (poly_Hull.c1p (0 : Int) y9 []) (((poly_Hull.c1_ok k k (0 : Int) y9 []).ap e38).triple) (retP (And.intro (And.intro trivial e39) e40) (.more (.ow T27 28) (.one (.dp T2))) (([], (6 : Int)) : ((List V27) × Int)))) (by kernel_rfl)⟩)) (fun e40 =>
      Owp.some (⟨[.dec false, .res (.one (.dp T4)) y2, .dec false, .res (.one (.ow T27 28)) y5, .hres [(0, 8)] (.pair T22 .unit) (y5, ()) T22 y7, .hres [(0, 8)] (.pair T22 .unit) (y7, ()) T22 y9, .cut ⟨[.own 5 T27 28], [(0, 13), (1, 17)], (poly_Hull.c1p (0 : Int) y9 []), 2, (.exit 0), (poly_Hull.c1q o37), 1⟩, .dec false, .dec false], [], via (cutP (And.intro (And.intro (And.intro (And.intro (And.intro (And.intro trivial e1) e3) e4) e6) (callHP (slices_SortFunc.h k) [(0, 8)] (y5, ()) e8)) (callHP (slices_Compact.h k) [(0, 8)] (y7, ()) e10)) [(0, 13), (1, 17)] (poly_Hull.c1p (0 : Int) y9 []) (((poly_Hull.c1_ok k k (0 : Int) y9 []).ap e38).triple) (retP (And.intro (And.intro trivial e39) e40) (.more (.ow T27 28) (.one (.dp T2))) ((o37, (0 : Int)) : ((List V27) × Int)))) (by kernel_rfl)⟩)))))
theorem poly_Hull.ok (k : Nat) : FnOk PR 14 (poly_Hull.sp k) :=
  fn_ok (poly_Hull.cok k) hmix Try.func14 (code := poly_Hull.code) (by kernel_rfl) (by kernel_rfl) (by kernel_rfl) rfl rfl (by kernel_rfl) (by kernel_rfl) (by kernel_rfl) (fun x => Nat.le_of_ble_eq_true (by kernel_rfl)) fun x y hy => (poly_Hull.way k x.1).ap hy

/-! tourney/poly.Check$1 -/
noncomputable def poly_Check_1.code : Code := Func.cd Try.f98
noncomputable def poly_Check_1 (k : Nat) (a0 : V27) : Option Bool :=
  bnd (poly_within k a0) fun y1 =>
  some (!y1)
noncomputable def poly_Check_1.sp (k : Nat) : Go.Sx.Spec := ⟨(.pair T27 .unit), (.one (.dp T4)), fun x => poly_Check_1 k x.1, false⟩
noncomputable def poly_Check_1.cx (k : Nat) : Go.Sx.Ctx := ⟨tys, [(86, poly_within.sp k)], eqs, 6, 0, [], false⟩
theorem poly_Check_1.cok (k : Nat) : CtxOk PR (poly_Check_1.cx k) := ctx_ok tysOk eqsOk (FnsOk.cons (poly_within.ok k) FnsOk.nil) HsOk.nil
theorem poly_Check_1.way (k : Nat) (a0 : V27) : Owp (poly_Check_1 k a0) fun y => ∃ answers cmds, exec PR (poly_Check_1.cx k) poly_Check_1.code 0 (entry (.pair T27 .unit) (a0, ())).st answers (Ret (poly_Check_1.cx k) Try.f98 cmds (.one (.dp T4)) y) := by
  unfold poly_Check_1; exact
   Owp.bnd fun y1 e2 =>
   Owp.some (⟨[.res (.one (.dp T4)) y1], [], via (retP (And.intro trivial e2) (.one (.dp T4)) ((!y1) : Bool)) (by kernel_rfl)⟩)
theorem poly_Check_1.ok (k : Nat) : FnOk PR 98 (poly_Check_1.sp k) :=
  fn_ok (poly_Check_1.cok k) hmix Try.func98 (code := poly_Check_1.code) (by kernel_rfl) (by kernel_rfl) (by kernel_rfl) rfl rfl (by kernel_rfl) (by kernel_rfl) (by kernel_rfl) (fun x => Nat.le_of_ble_eq_true (by kernel_rfl)) fun x y hy => (poly_Check_1.way k x.1).ap hy

/-! tourney/poly.Check -/
noncomputable def poly_Check.code : Code := Func.cd Try.f22
noncomputable def poly_Check.c3 (k : Nat) (a0 : (List V27)) (v6 : Int) (v11 : Int) : Option (Bool) :=
  bif' (ine v11 v6)
  (req (nz (len a0)) <|
   bif' (ine v11 (irem (iadd .i64 v6 1) (len a0)))
   (bnd (poly_side k (el Z27 a0 v6) (el Z27 a0 (irem (iadd .i64 v6 1) (len a0))) (el Z27 a0 v11)) fun y17 =>
    some (ile y17 0))
   (some false))
  (some false)
noncomputable def poly_Check.c2 (k : Nat) (a0 : (List V27)) (v6 : Int) : Nat → Int → Option (Unit ⊕ Unit)
  | 0, _ => none
  | n + 1, v11 =>
   bif' (ilt v11 (len a0))
   (req (inL v11 a0) <|
    bnd (poly_Check.c3 k a0 v6 v11) fun o19 =>
    bif' o19
    (some (.inl ()))
    (poly_Check.c2 k a0 v6 n (iadd .i64 v11 1)))
   (some (.inr ()))
noncomputable def poly_Check.c1 (k : Nat) (a0 : (List V27)) : Nat → Int → Option (Unit ⊕ Unit)
  | 0, _ => none
  | n + 1, v6 =>
   bif' (ilt v6 (len a0))
   (req (inL v6 a0) <|
    req (nz (len a0)) <|
    req (inL (irem (iadd .i64 v6 1) (len a0)) a0) <|
    bnd (poly_Check.c2 k a0 v6 k 0) fun o22 =>
    two o22 (fun y24 =>
    some (.inl ())) (fun y26 =>
    poly_Check.c1 k a0 n (iadd .i64 v6 1)))
   (some (.inr ()))
noncomputable def poly_Check (k : Nat) (a0 : (List V27)) : Option Int :=
  bif' (igt (len a0) 8)
  (some 2)
  (bif' (ilt (len a0) 3)
   (some 3)
   (bnd (slices_ContainsFunc k a0 (fun x : (V27 × Unit) => poly_Check_1 k (x.1))) fun y3 =>
    bif' y3
    (some 1)
    (bnd (poly_Check.c1 k a0 k 0) fun o28 =>
     two o28 (fun y30 =>
     some 3) (fun y32 =>
     some 0))))
noncomputable def poly_Check.sp (k : Nat) : Go.Sx.Spec := ⟨(.pair T22 .unit), (.one (.dp T2)), fun x => poly_Check k x.1, false⟩
noncomputable def poly_Check.cx (k : Nat) : Go.Sx.Ctx := ⟨tys, [(23, slices_ContainsFunc.sp k), (98, poly_Check_1.sp k), (91, poly_side.sp k)], eqs, 59, 0, [], false⟩
theorem poly_Check.cok (k : Nat) : CtxOk PR (poly_Check.cx k) := ctx_ok tysOk eqsOk (FnsOk.cons (slices_ContainsFunc.ok k) (FnsOk.cons (poly_Check_1.ok k) (FnsOk.cons (poly_side.ok k) FnsOk.nil))) HsOk.nil
noncomputable def poly_Check.c3p (a0 : (List V27)) (v6 : Int) (v11 : Int) : SL := ⟨[(0, (.val T22 a0)), (3, (.val T2 v6)), (4, (.val .ptr ⟨0, 0, (0 : Int), 0, 0⟩)), (5, (.val .ptr ⟨1, 0, (0 : Int), 0, 0⟩)), (6, (.val T2 v11)), (7, (.val .ptr ⟨2, 0, (0 : Int), 0, 0⟩)), (16, (.val T22 a0)), (17, (.val T2 (len a0))), (18, (.val T2 v6)), (31, (.val T22 a0)), (32, (.val T2 (len a0))), (33, (.val T2 v11))], [(0, .cells T27 (el Z27 a0 v6)), (1, .cells T27 (el Z27 a0 (irem (iadd .i64 v6 (1 : Int)) (len a0)))), (2, .cells T27 (el Z27 a0 v11))]⟩
noncomputable def poly_Check.c3q (a0 : (List V27)) (v6 : Int) (v11 : Int) (o : Bool) : SL := (fun v => ⟨[(0, (.val T22 a0)), (3, (.val T2 v6)), (4, (.val .ptr ⟨0, 0, (0 : Int), 0, 0⟩)), (5, (.val .ptr ⟨1, 0, (0 : Int), 0, 0⟩)), (16, (.val T22 a0)), (17, (.val T2 (len a0))), (18, (.val T2 v6)), (31, (.val T22 a0)), (32, (.val T2 (len a0))), (33, (.val T2 v11)), (56, (.val T4 v))], [(0, .cells T27 (el Z27 a0 v6)), (1, .cells T27 (el Z27 a0 (irem (iadd .i64 v6 (1 : Int)) (len a0))))]⟩) o
noncomputable def poly_Check.c3x (o : Bool) : Ex := (fun _ => .normal) o
noncomputable def poly_Check.c3n (o : Bool) : Nat := (fun _ => 2) o
theorem poly_Check.c3_ok (k : Nat) (a0 : (List V27)) (v6 : Int) (v11 : Int) : Owp (poly_Check.c3 k a0 v6 v11) fun o => Triple PR (poly_Check.cx k) (sub poly_Check.code [1, 1, 1, 1, 0, 1, 0, 0, 1, 1, 0, 0, 1, 1, 1, 0, 0, 1, 1, 0, 0, 1, 0]) 3 (poly_Check.c3p a0 v6 v11) (poly_Check.c3x o) (poly_Check.c3n o) (poly_Check.c3q a0 v6 v11 o) := by
  unfold poly_Check.c3; exact
   Owp.bif (fun e14 =>
   Owp.req fun h15 =>
    Owp.bif (fun e16 =>
    Owp.bnd fun y17 e18 =>
     Owp.some (triple_way (poly_Check.cok k) hmix [.dec true, .dec true, .dec true, .dec true, .dec true, .dec true, .dec true, .dec true, .dec true, .dec true, .dec true, .dec true, .res (.one (.dp T2)) y17, .dec true, .dec true] [] [(0, 0), (1, 1)] (via (finP (And.intro (And.intro (And.intro (And.intro (And.intro (And.intro (And.intro (And.intro (And.intro (And.intro (And.intro (And.intro (And.intro (And.intro trivial e14) e14) e14) e14) e14) (And.intro e14 h15)) e14) e14) e16) e16) e16) (And.intro e16 e18)) e16) e16) .normal [(0, 0), (1, 1)] (poly_Check.c3q a0 v6 v11 (ile y17 (0 : Int)))) (by kernel_rfl)))) (fun e16 =>
    Owp.some (triple_way (poly_Check.cok k) hmix [.dec true, .dec true, .dec true, .dec true, .dec true, .dec true, .dec true, .dec true, .dec false, .dec false, .dec false, .dec false, .dec true, .dec false, .dec false] [] [(0, 0), (1, 1)] (via (finP (And.intro (And.intro (And.intro (And.intro (And.intro (And.intro (And.intro (And.intro (And.intro (And.intro (And.intro (And.intro (And.intro (And.intro trivial e14) e14) e14) e14) e14) (And.intro e14 h15)) e14) e14) e16) e16) e16) e16) e16) e16) .normal [(0, 0), (1, 1)] (poly_Check.c3q a0 v6 v11 false)) (by kernel_rfl))))) (fun e14 =>
   Owp.some (triple_way (poly_Check.cok k) hmix [.dec false, .dec false, .dec false, .dec false, .dec false, .dec false, .dec false, .dec false, .dec false, .dec false, .dec false, .dec false, .dec true, .dec false, .dec false] [] [(0, 0), (1, 1)] (via (finP (And.intro (And.intro (And.intro (And.intro (And.intro (And.intro (And.intro (And.intro (And.intro (And.intro (And.intro (And.intro (And.intro (And.intro trivial e14) e14) e14) e14) e14) e14) e14) e14) ff) ff) ff) ff) ff) ff) .normal [(0, 0), (1, 1)] (poly_Check.c3q a0 v6 v11 false)) (by kernel_rfl))))
noncomputable def poly_Check.c2p (a0 : (List V27)) (v6 : Int) (v11 : Int) : SL := ⟨[(0, (.val T22 a0)), (3, (.val T2 v6)), (4, (.val .ptr ⟨0, 0, (0 : Int), 0, 0⟩)), (5, (.val .ptr ⟨1, 0, (0 : Int), 0, 0⟩)), (16, (.val T22 a0)), (17, (.val T2 (len a0))), (18, (.val T2 v6)), (31, (.val T22 a0)), (32, (.val T2 (len a0))), (33, (.val T2 v11))], [(0, .cells T27 (el Z27 a0 v6)), (1, .cells T27 (el Z27 a0 (irem (iadd .i64 v6 (1 : Int)) (len a0))))]⟩
noncomputable def poly_Check.c2q (a0 : (List V27)) (v6 : Int) (o : Unit ⊕ Unit) : SL := (fun o => two o (fun v => ⟨[(2, (.val T2 (3 : Int)))], []⟩) (fun v => ⟨[(0, (.val T22 a0)), (16, (.val T22 a0)), (17, (.val T2 (len a0))), (18, (.val T2 v6))], []⟩)) o
noncomputable def poly_Check.c2x (o : Unit ⊕ Unit) : Ex := (fun o => two o (fun _ => .ret) (fun _ => (.exit 2))) o
noncomputable def poly_Check.c2n (o : Unit ⊕ Unit) : Nat := (fun o => two o (fun _ => 0) (fun _ => 0)) o
theorem poly_Check.c2_ok (k : Nat) (a0 : (List V27)) (v6 : Int) : ∀ (n : Nat) (v11 : Int), Owp (poly_Check.c2 k a0 v6 n v11) fun o => LTriple PR (poly_Check.cx k) (sub poly_Check.code [1, 1, 1, 1, 0, 1, 0, 0, 1, 1, 0, 0, 1, 1, 1, 0, 0]) 2 (poly_Check.c2p a0 v6 v11) (poly_Check.c2x o) (poly_Check.c2n o) (poly_Check.c2q a0 v6 o)
  | 0, _ => fun _ h => nomatch h
  | n + 1, v11 => Owp.of (poly_Check.c2.eq_2 ..) (
   Owp.bif (fun e12 =>
   Owp.req fun h13 =>
    Owp.bnd fun o19 e20 =>
    Owp.bif (fun e21 =>
    Owp.some (loop_exit (poly_Check.cok k) hmix [.dec true, .cutR 14 ⟨[], [(0, 0), (1, 1), (2, 6)], (poly_Check.c3p a0 v6 v11), 3, .normal, (poly_Check.c3q a0 v6 v11 o19), 2⟩, .dec true] [] [] exne_ret (via (cutP (And.intro (And.intro trivial e12) h13) [(0, 0), (1, 1), (2, 6)] (poly_Check.c3p a0 v6 v11) (((poly_Check.c3_ok k a0 v6 v11).ap e20)) (finP (And.intro trivial e21) .ret [] (poly_Check.c2q a0 v6 (.inl ())))) (by kernel_rfl)))) (fun e21 =>
    fun y hy => loop_back (poly_Check.cok k) hmix 2 (poly_Check.c2p a0 v6 (iadd .i64 v11 (1 : Int))) [.dec true, .cutR 14 ⟨[], [(0, 0), (1, 1), (2, 6)], (poly_Check.c3p a0 v6 v11), 3, .normal, (poly_Check.c3q a0 v6 v11 o19), 2⟩, .dec false] [] [(0, 0), (1, 1)] (via (cutP (And.intro (And.intro trivial e12) h13) [(0, 0), (1, 1), (2, 6)] (poly_Check.c3p a0 v6 v11) (((poly_Check.c3_ok k a0 v6 v11).ap e20)) (finP (And.intro trivial e21) .normal [(0, 0), (1, 1)] (poly_Check.c2p a0 v6 (iadd .i64 v11 (1 : Int))))) (by kernel_rfl)) ((poly_Check.c2_ok k a0 v6 n (iadd .i64 v11 (1 : Int))).ap hy))) (fun e12 =>
   Owp.some (loop_exit (poly_Check.cok k) hmix [.dec false] [] [] (exne 2) (via (finP (And.intro trivial e12) (.exit 2) [] (poly_Check.c2q a0 v6 (.inr ()))) (by kernel_rfl)))))
noncomputable def poly_Check.c1p (a0 : (List V27)) (v6 : Int) : SL := ⟨[(0, (.val T22 a0)), (16, (.val T22 a0)), (17, (.val T2 (len a0))), (18, (.val T2 v6))], []⟩
noncomputable def poly_Check.c1q (o : Unit ⊕ Unit) : SL := (fun o => two o (fun v => ⟨[(2, (.val T2 (3 : Int)))], []⟩) (fun v => ⟨[], []⟩)) o
noncomputable def poly_Check.c1x (o : Unit ⊕ Unit) : Ex := (fun o => two o (fun _ => .ret) (fun _ => (.exit 0))) o
noncomputable def poly_Check.c1n (o : Unit ⊕ Unit) : Nat := (fun o => two o (fun _ => 0) (fun _ => 0)) o
theorem poly_Check.c1_ok (k : Nat) (a0 : (List V27)) : ∀ (n : Nat) (v6 : Int), Owp (poly_Check.c1 k a0 n v6) fun o => LTriple PR (poly_Check.cx k) (sub poly_Check.code [1, 1, 1, 1, 0, 1, 0, 0]) 0 (poly_Check.c1p a0 v6) (poly_Check.c1x o) (poly_Check.c1n o) (poly_Check.c1q o)
  | 0, _ => fun _ h => nomatch h
  | n + 1, v6 => Owp.of (poly_Check.c1.eq_2 ..) (
   Owp.bif (fun e7 =>
   Owp.req fun h8 =>
    Owp.req fun h9 =>
    Owp.req fun h10 =>
    Owp.bnd fun o22 e23 =>
    Owp.two (fun y24 e25 =>
    Owp.some (loop_exit (poly_Check.cok k) hmix [.dec true, .cut ⟨[], [(0, 4), (1, 15)], (poly_Check.c2p a0 v6 (0 : Int)), 2, .ret, (poly_Check.c2q a0 v6 (.inl ())), 0⟩] [] [] exne_ret (via (cutP (And.intro (And.intro (And.intro (And.intro trivial e7) h8) h9) h10) [(0, 4), (1, 15)] (poly_Check.c2p a0 v6 (0 : Int)) (((poly_Check.c2_ok k a0 v6 k (0 : Int)).ap (e23.trans (congrArg some e25))).triple) (finP trivial .ret [] (poly_Check.c1q (.inl ())))) (by kernel_rfl)))) (fun y26 e27 =>
    fun y hy => loop_back (poly_Check.cok k) hmix 0 (poly_Check.c1p a0 (iadd .i64 v6 (1 : Int))) [.dec true, .cut ⟨[], [(0, 4), (1, 15)], (poly_Check.c2p a0 v6 (0 : Int)), 2, (.exit 2), (poly_Check.c2q a0 v6 (.inr ())), 0⟩] [] [] (via (cutP (And.intro (And.intro (And.intro (And.intro trivial e7) h8) h9) h10) [(0, 4), (1, 15)] (poly_Check.c2p a0 v6 (0 : Int)) (((poly_Check.c2_ok k a0 v6 k (0 : Int)).ap (e23.trans (congrArg some e27))).triple) (finP trivial .normal [] (poly_Check.c1p a0 (iadd .i64 v6 (1 : Int))))) (by kernel_rfl)) ((poly_Check.c1_ok k a0 n (iadd .i64 v6 (1 : Int))).ap hy))) (fun e7 =>
   Owp.some (loop_exit (poly_Check.cok k) hmix [.dec false] [] [] (exne 0) (via (finP (And.intro trivial e7) (.exit 0) [] (poly_Check.c1q (.inr ()))) (by kernel_rfl)))))
theorem poly_Check.way (k : Nat) (a0 : (List V27)) : Owp (poly_Check k a0) fun y => ∃ answers cmds, exec PR (poly_Check.cx k) poly_Check.code 0 (entry (.pair T22 .unit) (a0, ())).st answers (Ret (poly_Check.cx k) Try.f22 cmds (.one (.dp T2)) y) := by
  unfold poly_Check; exact
   Owp.bif (fun e1 =>
   Owp.some (⟨[.dec true], [], via (retP (And.intro trivial e1) (.one (.dp T2)) ((2 : Int) : Int)) (by kernel_rfl)⟩)) (fun e1 =>
   Owp.bif (fun e2 =>
    Owp.some (⟨[.dec false, .dec true], [], via (retP (And.intro (And.intro trivial e1) e2) (.one (.dp T2)) ((3 : Int) : Int)) (by kernel_rfl)⟩)) (fun e2 =>
    Owp.bnd fun y3 e4 =>
     Owp.bif (fun e5 =>
     Owp.some (⟨[.dec false, .dec false, .res (.one (.dp T4)) y3, .dec true], [], via (retP (And.intro (And.intro (And.intro (And.intro trivial e1) e2) e4) e5) (.one (.dp T2)) ((1 : Int) : Int)) (by kernel_rfl)⟩)) (fun e5 =>
     Owp.bnd fun o28 e29 =>
      Owp.two (fun y30 e31 =>
      Owp.some (⟨[.dec false, .dec false, .res (.one (.dp T4)) y3, .dec false, .cut ⟨[], [], (poly_Check.c1p a0 (0 : Int)), 0, .ret, (poly_Check.c1q (.inl ())), 0⟩], [], via (cutP (And.intro (And.intro (And.intro (And.intro trivial e1) e2) e4) e5) [] (poly_Check.c1p a0 (0 : Int)) (((poly_Check.c1_ok k a0 k (0 : Int)).ap (e29.trans (congrArg some e31))).triple) (retP trivial (.one (.dp T2)) ((3 : Int) : Int))) (by kernel_rfl)⟩)) (fun y32 e33 =>
      Owp.some (⟨[.dec false, .dec false, .res (.one (.dp T4)) y3, .dec false, .cut ⟨[], [], (poly_Check.c1p a0 (0 : Int)), 0, (.exit 0), (poly_Check.c1q (.inr ())), 0⟩], [], via (cutP (And.intro (And.intro (And.intro (And.intro trivial e1) e2) e4) e5) [] (poly_Check.c1p a0 (0 : Int)) (((poly_Check.c1_ok k a0 k (0 : Int)).ap (e29.trans (congrArg some e33))).triple) (retP trivial (.one (.dp T2)) ((0 : Int) : Int))) (by kernel_rfl)⟩)))))
theorem poly_Check.ok (k : Nat) : FnOk PR 22 (poly_Check.sp k) :=
  fn_ok (poly_Check.cok k) hmix Try.func22 (code := poly_Check.code) (by kernel_rfl) (by kernel_rfl) (by kernel_rfl) rfl rfl (by kernel_rfl) (by kernel_rfl) (by kernel_rfl) (fun x => Nat.le_of_ble_eq_true (by kernel_rfl)) fun x y hy => (poly_Check.way k x.1).ap hy

/-! tourney/poly.Has -/
noncomputable def poly_Has.code : Code := Func.cd Try.f21
noncomputable def poly_Has.c1 (k : Nat) (a0 : (List V27)) (a1 : V27) : Option (Bool) :=
  bnd (poly_Check k a0) fun y1 =>
  bif' (ine y1 0)
  (some true)
  (bnd (poly_within k a1) fun y4 =>
   some (!y4))
noncomputable def poly_Has.c2 (k : Nat) (a0 : (List V27)) (a1 : V27) : Nat → Int → Option (Unit ⊕ Unit)
  | 0, _ => none
  | n + 1, v9 =>
   bif' (ilt v9 (len a0))
   (req (inL v9 a0) <|
    req (nz (len a0)) <|
    req (inL (irem (iadd .i64 v9 1) (len a0)) a0) <|
    bnd (poly_side k (el Z27 a0 v9) (el Z27 a0 (irem (iadd .i64 v9 1) (len a0))) a1) fun y14 =>
    bif' (ilt y14 0)
    (some (.inl ()))
    (poly_Has.c2 k a0 a1 n (iadd .i64 v9 1)))
   (some (.inr ()))
noncomputable def poly_Has (k : Nat) (a0 : (List V27)) (a1 : V27) : Option Bool :=
  bnd (poly_Has.c1 k a0 a1) fun o6 =>
  bif' o6
  (some false)
  (bnd (poly_Has.c2 k a0 a1 k 0) fun o17 =>
   two o17 (fun y19 =>
   some false) (fun y21 =>
   some true))
noncomputable def poly_Has.sp (k : Nat) : Go.Sx.Spec := ⟨(.pair T22 (.pair T27 .unit)), (.one (.dp T4)), fun x => poly_Has k x.1 x.2.1, false⟩
noncomputable def poly_Has.cx (k : Nat) : Go.Sx.Ctx := ⟨tys, [(22, poly_Check.sp k), (86, poly_within.sp k), (91, poly_side.sp k)], eqs, 35, 0, [], false⟩
theorem poly_Has.cok (k : Nat) : CtxOk PR (poly_Has.cx k) := ctx_ok tysOk eqsOk (FnsOk.cons (poly_Check.ok k) (FnsOk.cons (poly_within.ok k) (FnsOk.cons (poly_side.ok k) FnsOk.nil))) HsOk.nil
noncomputable def poly_Has.c1p (a0 : (List V27)) (a1 : V27) : SL := ⟨[(0, (.val T22 a0)), (3, (.val .ptr ⟨0, 0, (0 : Int), 0, 0⟩))], [(0, .cells T27 a1)]⟩
noncomputable def poly_Has.c1q (a0 : (List V27)) (a1 : V27) (o : Bool) : SL := (fun v => ⟨[(0, (.val T22 a0)), (3, (.val .ptr ⟨0, 0, (0 : Int), 0, 0⟩)), (14, (.val T4 v))], [(0, .cells T27 a1)]⟩) o
noncomputable def poly_Has.c1x (o : Bool) : Ex := (fun _ => .normal) o
noncomputable def poly_Has.c1n (o : Bool) : Nat := (fun _ => 1) o
theorem poly_Has.c1_ok (k : Nat) (a0 : (List V27)) (a1 : V27) : Owp (poly_Has.c1 k a0 a1) fun o => Triple PR (poly_Has.cx k) (sub poly_Has.code [1, 0, 0]) 1 (poly_Has.c1p a0 a1) (poly_Has.c1x o) (poly_Has.c1n o) (poly_Has.c1q a0 a1 o) := by
  unfold poly_Has.c1; exact
   Owp.bnd fun y1 e2 =>
   Owp.bif (fun e3 =>
   Owp.some (triple_way (poly_Has.cok k) hmix [.res (.one (.dp T2)) y1, .dec true, .dec true, .dec true, .dec true, .dec true] [] [(0, 0)] (via (finP (And.intro (And.intro (And.intro (And.intro (And.intro trivial e2) e3) e3) e3) e3) .normal [(0, 0)] (poly_Has.c1q a0 a1 true)) (by kernel_rfl)))) (fun e3 =>
   Owp.bnd fun y4 e5 =>
    Owp.some (triple_way (poly_Has.cok k) hmix [.res (.one (.dp T2)) y1, .dec false, .dec false, .res (.one (.dp T4)) y4, .dec false, .dec false] [] [(0, 0)] (via (finP (And.intro (And.intro (And.intro (And.intro (And.intro trivial e2) e3) (And.intro e3 e5)) e3) e3) .normal [(0, 0)] (poly_Has.c1q a0 a1 (!y4))) (by kernel_rfl))))
noncomputable def poly_Has.c2p (a0 : (List V27)) (a1 : V27) (v9 : Int) : SL := ⟨[(0, (.val T22 a0)), (3, (.val .ptr ⟨0, 0, (0 : Int), 0, 0⟩)), (15, (.val T22 a0)), (16, (.val T2 (len a0))), (17, (.val T2 v9))], [(0, .cells T27 a1)]⟩
noncomputable def poly_Has.c2q (o : Unit ⊕ Unit) : SL := (fun o => two o (fun v => ⟨[(4, (.val T4 false))], []⟩) (fun v => ⟨[], []⟩)) o
noncomputable def poly_Has.c2x (o : Unit ⊕ Unit) : Ex := (fun o => two o (fun _ => .ret) (fun _ => (.exit 0))) o
noncomputable def poly_Has.c2n (o : Unit ⊕ Unit) : Nat := (fun o => two o (fun _ => 0) (fun _ => 0)) o
theorem poly_Has.c2_ok (k : Nat) (a0 : (List V27)) (a1 : V27) : ∀ (n : Nat) (v9 : Int), Owp (poly_Has.c2 k a0 a1 n v9) fun o => LTriple PR (poly_Has.cx k) (sub poly_Has.code [1, 1, 0, 1, 0, 0]) 1 (poly_Has.c2p a0 a1 v9) (poly_Has.c2x o) (poly_Has.c2n o) (poly_Has.c2q o)
  | 0, _ => fun _ h => nomatch h
  | n + 1, v9 => Owp.of (poly_Has.c2.eq_2 ..) (
   Owp.bif (fun e10 =>
   Owp.req fun h11 =>
    Owp.req fun h12 =>
    Owp.req fun h13 =>
    Owp.bnd fun y14 e15 =>
    Owp.bif (fun e16 =>
    Owp.some (loop_exit (poly_Has.cok k) hmix [.dec true, .res (.one (.dp T2)) y14, .dec true] [] [] exne_ret (via (finP (And.intro (And.intro (And.intro (And.intro (And.intro (And.intro trivial e10) h11) h12) h13) e15) e16) .ret [] (poly_Has.c2q (.inl ()))) (by kernel_rfl)))) (fun e16 =>
    fun y hy => loop_back (poly_Has.cok k) hmix 1 (poly_Has.c2p a0 a1 (iadd .i64 v9 (1 : Int))) [.dec true, .res (.one (.dp T2)) y14, .dec false] [] [(0, 0)] (via (finP (And.intro (And.intro (And.intro (And.intro (And.intro (And.intro trivial e10) h11) h12) h13) e15) e16) .normal [(0, 0)] (poly_Has.c2p a0 a1 (iadd .i64 v9 (1 : Int)))) (by kernel_rfl)) ((poly_Has.c2_ok k a0 a1 n (iadd .i64 v9 (1 : Int))).ap hy))) (fun e10 =>
   Owp.some (loop_exit (poly_Has.cok k) hmix [.dec false] [] [] (exne 0) (via (finP (And.intro trivial e10) (.exit 0) [] (poly_Has.c2q (.inr ()))) (by kernel_rfl)))))
theorem poly_Has.way (k : Nat) (a0 : (List V27)) (a1 : V27) : Owp (poly_Has k a0 a1) fun y => ∃ answers cmds, exec PR (poly_Has.cx k) poly_Has.code 0 (entry (.pair T22 (.pair T27 .unit)) (a0, a1, ())).st answers (Ret (poly_Has.cx k) Try.f21 cmds (.one (.dp T4)) y) := by
  unfold poly_Has; exact
   Owp.bnd fun o6 e7 =>
   Owp.bif (fun e8 =>
   Owp.some (⟨[.cutR 1 ⟨[], [(0, 0)], (poly_Has.c1p a0 a1), 1, .normal, (poly_Has.c1q a0 a1 o6), 1⟩, .dec true], [], via (cutP trivial [(0, 0)] (poly_Has.c1p a0 a1) (((poly_Has.c1_ok k a0 a1).ap e7)) (retP (And.intro trivial e8) (.one (.dp T4)) (false : Bool))) (by kernel_rfl)⟩)) (fun e8 =>
   Owp.bnd fun o17 e18 =>
    Owp.two (fun y19 e20 =>
    Owp.some (⟨[.cutR 1 ⟨[], [(0, 0)], (poly_Has.c1p a0 a1), 1, .normal, (poly_Has.c1q a0 a1 o6), 1⟩, .dec false, .cut ⟨[], [(0, 0)], (poly_Has.c2p a0 a1 (0 : Int)), 1, .ret, (poly_Has.c2q (.inl ())), 0⟩], [], via (cutP trivial [(0, 0)] (poly_Has.c1p a0 a1) (((poly_Has.c1_ok k a0 a1).ap e7)) (cutP (And.intro trivial e8) [(0, 0)] (poly_Has.c2p a0 a1 (0 : Int)) (((poly_Has.c2_ok k a0 a1 k (0 : Int)).ap (e18.trans (congrArg some e20))).triple) (retP trivial (.one (.dp T4)) (false : Bool)))) (by kernel_rfl)⟩)) (fun y21 e22 =>
    Owp.some (⟨[.cutR 1 ⟨[], [(0, 0)], (poly_Has.c1p a0 a1), 1, .normal, (poly_Has.c1q a0 a1 o6), 1⟩, .dec false, .cut ⟨[], [(0, 0)], (poly_Has.c2p a0 a1 (0 : Int)), 1, (.exit 0), (poly_Has.c2q (.inr ())), 0⟩], [], via (cutP trivial [(0, 0)] (poly_Has.c1p a0 a1) (((poly_Has.c1_ok k a0 a1).ap e7)) (cutP (And.intro trivial e8) [(0, 0)] (poly_Has.c2p a0 a1 (0 : Int)) (((poly_Has.c2_ok k a0 a1 k (0 : Int)).ap (e18.trans (congrArg some e22))).triple) (retP trivial (.one (.dp T4)) (true : Bool)))) (by kernel_rfl)⟩)))
theorem poly_Has.ok (k : Nat) : FnOk PR 21 (poly_Has.sp k) :=
  fn_ok (poly_Has.cok k) hmix Try.func21 (code := poly_Has.code) (by kernel_rfl) (by kernel_rfl) (by kernel_rfl) rfl rfl (by kernel_rfl) (by kernel_rfl) (by kernel_rfl) (fun x => Nat.le_of_ble_eq_true (by kernel_rfl)) fun x y hy => (poly_Has.way k x.1 x.2.1).ap hy

/-! tourney/poly.Area -/
noncomputable def poly_Area.code : Code := Func.cd Try.f96
noncomputable def poly_Area.c1 (k : Nat) (a0 : (List V27)) : Nat → Int → Int → Option (Int)
  | 0, _, _ => none
  | n + 1, v4, v5 =>
   bif' (ilt v5 (len a0))
   (req (inL 0 a0) <|
    req (inL (isub .i64 v5 1) a0) <|
    req (inL v5 a0) <|
    bnd (poly_side k (el Z27 a0 0) (el Z27 a0 (isub .i64 v5 1)) (el Z27 a0 v5)) fun y10 =>
    poly_Area.c1 k a0 n (iadd .i64 v4 y10) (iadd .i64 v5 1))
   (some v4)
noncomputable def poly_Area (k : Nat) (a0 : (List V27)) : Option (Int × Int) :=
  bnd (poly_Check k a0) fun y1 =>
  bif' (ine y1 0)
  (some (0, y1))
  (bnd (poly_Area.c1 k a0 k 0 2) fun o12 =>
   some (o12, 0))
noncomputable def poly_Area.sp (k : Nat) : Go.Sx.Spec := ⟨(.pair T22 .unit), (.more (.dp T2) (.one (.dp T2))), fun x => poly_Area k x.1, false⟩
noncomputable def poly_Area.cx (k : Nat) : Go.Sx.Ctx := ⟨tys, [(22, poly_Check.sp k), (91, poly_side.sp k)], eqs, 34, 0, [], false⟩
theorem poly_Area.cok (k : Nat) : CtxOk PR (poly_Area.cx k) := ctx_ok tysOk eqsOk (FnsOk.cons (poly_Check.ok k) (FnsOk.cons (poly_side.ok k) FnsOk.nil)) HsOk.nil
noncomputable def poly_Area.c1p (a0 : (List V27)) (v4 : Int) (v5 : Int) : SL := ⟨[(0, (.val T22 a0)), (5, (.val T2 v4)), (6, (.val T2 v5))], []⟩
noncomputable def poly_Area.c1q (o : Int) : SL := (fun v => ⟨[(5, (.val T2 v))], []⟩) o
noncomputable def poly_Area.c1x (o : Int) : Ex := (fun _ => (.exit 0)) o
noncomputable def poly_Area.c1n (o : Int) : Nat := (fun _ => 0) o
theorem poly_Area.c1_ok (k : Nat) (a0 : (List V27)) : ∀ (n : Nat) (v4 : Int) (v5 : Int), Owp (poly_Area.c1 k a0 n v4 v5) fun o => LTriple PR (poly_Area.cx k) (sub poly_Area.code [1, 1, 1, 0, 1, 0, 0]) 0 (poly_Area.c1p a0 v4 v5) (poly_Area.c1x o) (poly_Area.c1n o) (poly_Area.c1q o)
  | 0, _, _ => fun _ h => nomatch h
  | n + 1, v4, v5 => Owp.of (poly_Area.c1.eq_2 ..) (
   Owp.bif (fun e6 =>
   Owp.req fun h7 =>
    Owp.req fun h8 =>
    Owp.req fun h9 =>
    Owp.bnd fun y10 e11 =>
    fun y hy => loop_back (poly_Area.cok k) hmix 0 (poly_Area.c1p a0 (iadd .i64 v4 y10) (iadd .i64 v5 (1 : Int))) [.dec true, .res (.one (.dp T2)) y10] [] [] (via (finP (And.intro (And.intro (And.intro (And.intro (And.intro trivial e6) h7) h8) h9) e11) .normal [] (poly_Area.c1p a0 (iadd .i64 v4 y10) (iadd .i64 v5 (1 : Int)))) (by kernel_rfl)) ((poly_Area.c1_ok k a0 n (iadd .i64 v4 y10) (iadd .i64 v5 (1 : Int))).ap hy)) (fun e6 =>
   Owp.some (loop_exit (poly_Area.cok k) hmix [.dec false] [] [] (exne 0) (via (finP (And.intro trivial e6) (.exit 0) [] (poly_Area.c1q v4)) (by kernel_rfl)))))
theorem poly_Area.way (k : Nat) (a0 : (List V27)) : Owp (poly_Area k a0) fun y => ∃ answers cmds, exec PR (poly_Area.cx k) poly_Area.code 0 (entry (.pair T22 .unit) (a0, ())).st answers (Ret (poly_Area.cx k) Try.f96 cmds (.more (.dp T2) (.one (.dp T2))) y) := by
  unfold poly_Area; exact
   Owp.bnd fun y1 e2 =>
   Owp.bif (fun e3 =>
   Owp.some (⟨[.res (.one (.dp T2)) y1, .dec true], [], via (retP (And.intro (And.intro trivial e2) e3) (.more (.dp T2) (.one (.dp T2))) (((0 : Int), y1) : (Int × Int))) (by kernel_rfl)⟩)) (fun e3 =>
   Owp.bnd fun o12 e13 =>
    Owp.some (⟨[.res (.one (.dp T2)) y1, .dec false, .cut ⟨[], [], (poly_Area.c1p a0 (0 : Int) (2 : Int)), 0, (.exit 0), (poly_Area.c1q o12), 0⟩], [], via (cutP (And.intro (And.intro trivial e2) e3) [] (poly_Area.c1p a0 (0 : Int) (2 : Int)) (((poly_Area.c1_ok k a0 k (0 : Int) (2 : Int)).ap e13).triple) (retP trivial (.more (.dp T2) (.one (.dp T2))) ((o12, (0 : Int)) : (Int × Int)))) (by kernel_rfl)⟩))
theorem poly_Area.ok (k : Nat) : FnOk PR 96 (poly_Area.sp k) :=
  fn_ok (poly_Area.cok k) hmix Try.func96 (code := poly_Area.code) (by kernel_rfl) (by kernel_rfl) (by kernel_rfl) rfl rfl (by kernel_rfl) (by kernel_rfl) (by kernel_rfl) (fun x => Nat.le_of_ble_eq_true (by kernel_rfl)) fun x y hy => (poly_Area.way k x.1).ap hy

/-! math/bits.Mul64 -/
noncomputable def bits_Mul64.code : Code := Func.cd Try.f186
noncomputable def bits_Mul64 (k : Nat) (a0 : Int) (a1 : Int) : Option (Int × Int) :=
  some ((iadd .u64 (iadd .u64 (imul .u64 (ishr .u64 a0 32) (ishr .u64 a1 32)) (ishr .u64 (iadd .u64 (imul .u64 (ishr .u64 a0 32) (ibits .and .u64 a1 4294967295)) (ishr .u64 (imul .u64 (ibits .and .u64 a0 4294967295) (ibits .and .u64 a1 4294967295)) 32)) 32)) (ishr .u64 (iadd .u64 (ibits .and .u64 (iadd .u64 (imul .u64 (ishr .u64 a0 32) (ibits .and .u64 a1 4294967295)) (ishr .u64 (imul .u64 (ibits .and .u64 a0 4294967295) (ibits .and .u64 a1 4294967295)) 32)) 4294967295) (imul .u64 (ibits .and .u64 a0 4294967295) (ishr .u64 a1 32))) 32)), (imul .u64 a0 a1))
noncomputable def bits_Mul64.sp (k : Nat) : Go.Sx.Spec := ⟨(.pair T12 (.pair T12 .unit)), (.more (.dp T12) (.one (.dp T12))), fun x => bits_Mul64 k x.1 x.2.1, false⟩
noncomputable def bits_Mul64.cx (k : Nat) : Go.Sx.Ctx := ⟨tys, [], eqs, 51, 0, [], false⟩
theorem bits_Mul64.cok (k : Nat) : CtxOk PR (bits_Mul64.cx k) := ctx_ok tysOk eqsOk FnsOk.nil HsOk.nil
theorem bits_Mul64.way (k : Nat) (a0 : Int) (a1 : Int) : Owp (bits_Mul64 k a0 a1) fun y => ∃ answers cmds, exec PR (bits_Mul64.cx k) bits_Mul64.code 0 (entry (.pair T12 (.pair T12 .unit)) (a0, a1, ())).st answers (Ret (bits_Mul64.cx k) Try.f186 cmds (.more (.dp T12) (.one (.dp T12))) y) := by
  unfold bits_Mul64; exact
   Owp.some (⟨[], [], via (retP (And.intro (And.intro (And.intro (And.intro (And.intro trivial (by decide : ng (32 : Int))) (by decide : ng (32 : Int))) (by decide : ng (32 : Int))) (by decide : ng (32 : Int))) (by decide : ng (32 : Int))) (.more (.dp T12) (.one (.dp T12))) (((iadd .u64 (iadd .u64 (imul .u64 (ishr .u64 a0 (32 : Int)) (ishr .u64 a1 (32 : Int))) (ishr .u64 (iadd .u64 (imul .u64 (ishr .u64 a0 (32 : Int)) (ibits .and .u64 a1 (4294967295 : Int))) (ishr .u64 (imul .u64 (ibits .and .u64 a0 (4294967295 : Int)) (ibits .and .u64 a1 (4294967295 : Int))) (32 : Int))) (32 : Int))) (ishr .u64 (iadd .u64 (ibits .and .u64 (iadd .u64 (imul .u64 (ishr .u64 a0 (32 : Int)) (ibits .and .u64 a1 (4294967295 : Int))) (ishr .u64 (imul .u64 (ibits .and .u64 a0 (4294967295 : Int)) (ibits .and .u64 a1 (4294967295 : Int))) (32 : Int))) (4294967295 : Int)) (imul .u64 (ibits .and .u64 a0 (4294967295 : Int)) (ishr .u64 a1 (32 : Int)))) (32 : Int))), (imul .u64 a0 a1)) : (Int × Int))) (by kernel_rfl)⟩)
theorem bits_Mul64.ok (k : Nat) : FnOk PR 186 (bits_Mul64.sp k) :=
  fn_ok (bits_Mul64.cok k) hmix Try.func186 (code := bits_Mul64.code) (by kernel_rfl) (by kernel_rfl) (by kernel_rfl) rfl rfl (by kernel_rfl) (by kernel_rfl) (by kernel_rfl) (fun x => Nat.le_of_ble_eq_true (by kernel_rfl)) fun x y hy => (bits_Mul64.way k x.1 x.2.1).ap hy

/-! tourney/poly.Times -/
noncomputable def poly_Times.code : Code := Func.cd Try.f208
noncomputable def poly_Times.c1 (k : Nat) (a0 : Int) (a1 : Int) (y1 : (Int × Int)) : Option (Int) :=
  bif' (ilt a0 0)
  (some (isub .i64 (icv .i64 y1.1) a1))
  (some (icv .i64 y1.1))
noncomputable def poly_Times.c2 (k : Nat) (a0 : Int) (a1 : Int) (o4 : Int) : Option (Int) :=
  bif' (ilt a1 0)
  (some (isub .i64 o4 a0))
  (some o4)
noncomputable def poly_Times (k : Nat) (a0 : Int) (a1 : Int) : Option V154 :=
  bnd (bits_Mul64 k (icv .u64 a0) (icv .u64 a1)) fun y1 =>
  bnd (poly_Times.c1 k a0 a1 y1) fun o4 =>
  bnd (poly_Times.c2 k a0 a1 o4) fun o7 =>
  some (o7, y1.2, ())
noncomputable def poly_Times.sp (k : Nat) : Go.Sx.Spec := ⟨T27, (.one (.dp T154)), fun x => poly_Times k x.1 x.2.1, false⟩
noncomputable def poly_Times.cx (k : Nat) : Go.Sx.Ctx := ⟨tys, [(186, bits_Mul64.sp k)], eqs, 31, 0, [], false⟩
theorem poly_Times.cok (k : Nat) : CtxOk PR (poly_Times.cx k) := ctx_ok tysOk eqsOk (FnsOk.cons (bits_Mul64.ok k) FnsOk.nil) HsOk.nil
noncomputable def poly_Times.c1p (a0 : Int) (a1 : Int) (y1 : (Int × Int)) : SL := ⟨[(0, (.val T2 a0)), (1, (.val T2 a1)), (4, (.val .ptr ⟨0, 0, (0 : Int), 0, 0⟩)), (6, (.val T12 y1.2)), (7, (.val T2 (icv .i64 y1.1))), (19, (.val T4 (ilt a0 (0 : Int))))], [(0, .cells T154 ((0 : Int), (0 : Int), ()))]⟩
noncomputable def poly_Times.c1q (a0 : Int) (a1 : Int) (y1 : (Int × Int)) (o : Int) : SL := (fun v => ⟨[(0, (.val T2 a0)), (1, (.val T2 a1)), (4, (.val .ptr ⟨0, 0, (0 : Int), 0, 0⟩)), (6, (.val T12 y1.2)), (7, (.val T2 v))], [(0, .cells T154 ((0 : Int), (0 : Int), ()))]⟩) o
noncomputable def poly_Times.c1x (o : Int) : Ex := (fun _ => .normal) o
noncomputable def poly_Times.c1n (o : Int) : Nat := (fun _ => 1) o
theorem poly_Times.c1_ok (k : Nat) (a0 : Int) (a1 : Int) (y1 : (Int × Int)) : Owp (poly_Times.c1 k a0 a1 y1) fun o => Triple PR (poly_Times.cx k) (sub poly_Times.code [1, 1, 1, 0, 1]) 1 (poly_Times.c1p a0 a1 y1) (poly_Times.c1x o) (poly_Times.c1n o) (poly_Times.c1q a0 a1 y1 o) := by
  unfold poly_Times.c1; exact
   Owp.bif (fun e3 =>
   Owp.some (triple_way (poly_Times.cok k) hmix [.dec true] [] [(0, 0)] (via (finP (And.intro trivial e3) .normal [(0, 0)] (poly_Times.c1q a0 a1 y1 (isub .i64 (icv .i64 y1.1) a1))) (by kernel_rfl)))) (fun e3 =>
   Owp.some (triple_way (poly_Times.cok k) hmix [.dec false] [] [(0, 0)] (via (finP (And.intro trivial e3) .normal [(0, 0)] (poly_Times.c1q a0 a1 y1 (icv .i64 y1.1))) (by kernel_rfl))))
noncomputable def poly_Times.c2p (a0 : Int) (a1 : Int) (o4 : Int) (y1 : (Int × Int)) : SL := ⟨[(0, (.val T2 a0)), (4, (.val .ptr ⟨0, 0, (0 : Int), 0, 0⟩)), (6, (.val T12 y1.2)), (7, (.val T2 o4)), (24, (.val T4 (ilt a1 (0 : Int))))], [(0, .cells T154 ((0 : Int), (0 : Int), ()))]⟩
noncomputable def poly_Times.c2q (y1 : (Int × Int)) (o : Int) : SL := (fun v => ⟨[(4, (.val .ptr ⟨0, 0, (0 : Int), 0, 0⟩)), (6, (.val T12 y1.2)), (7, (.val T2 v))], [(0, .cells T154 ((0 : Int), (0 : Int), ()))]⟩) o
noncomputable def poly_Times.c2x (o : Int) : Ex := (fun _ => .normal) o
noncomputable def poly_Times.c2n (o : Int) : Nat := (fun _ => 1) o
theorem poly_Times.c2_ok (k : Nat) (a0 : Int) (a1 : Int) (o4 : Int) (y1 : (Int × Int)) : Owp (poly_Times.c2 k a0 a1 o4) fun o => Triple PR (poly_Times.cx k) (sub poly_Times.code [1, 1, 1, 1, 0, 1]) 1 (poly_Times.c2p a0 a1 o4 y1) (poly_Times.c2x o) (poly_Times.c2n o) (poly_Times.c2q y1 o) := by
  unfold poly_Times.c2; exact
   Owp.bif (fun e6 =>
   Owp.some (triple_way (poly_Times.cok k) hmix [.dec true] [] [(0, 0)] (via (finP (And.intro trivial e6) .normal [(0, 0)] (poly_Times.c2q y1 (isub .i64 o4 a0))) (by kernel_rfl)))) (fun e6 =>
   Owp.some (triple_way (poly_Times.cok k) hmix [.dec false] [] [(0, 0)] (via (finP (And.intro trivial e6) .normal [(0, 0)] (poly_Times.c2q y1 o4)) (by kernel_rfl))))
theorem poly_Times.way (k : Nat) (a0 : Int) (a1 : Int) : Owp (poly_Times k a0 a1) fun y => ∃ answers cmds, exec PR (poly_Times.cx k) poly_Times.code 0 (entry T27 (a0, a1, ())).st answers (Ret (poly_Times.cx k) Try.f208 cmds (.one (.dp T154)) y) := by
  unfold poly_Times; exact
   Owp.bnd fun y1 e2 =>
   Owp.bnd fun o4 e5 =>
   Owp.bnd fun o7 e8 =>
   Owp.some (⟨[.res (.more (.dp T12) (.one (.dp T12))) y1, .cut ⟨[], [(0, 0)], (poly_Times.c1p a0 a1 y1), 1, .normal, (poly_Times.c1q a0 a1 y1 o4), 1⟩, .cut ⟨[], [(0, 0)], (poly_Times.c2p a0 a1 o4 y1), 1, .normal, (poly_Times.c2q y1 o7), 1⟩], [], via (cutP (And.intro trivial e2) [(0, 0)] (poly_Times.c1p a0 a1 y1) (((poly_Times.c1_ok k a0 a1 y1).ap e5)) (cutP trivial [(0, 0)] (poly_Times.c2p a0 a1 o4 y1) (((poly_Times.c2_ok k a0 a1 o4 y1).ap e8)) (retP trivial (.one (.dp T154)) ((o7, y1.2, ()) : V154)))) (by kernel_rfl)⟩)
theorem poly_Times.ok (k : Nat) : FnOk PR 208 (poly_Times.sp k) :=
  fn_ok (poly_Times.cok k) hmix Try.func208 (code := poly_Times.code) (by kernel_rfl) (by kernel_rfl) (by kernel_rfl) rfl rfl (by kernel_rfl) (by kernel_rfl) (by kernel_rfl) (fun x => Nat.le_of_ble_eq_true (by kernel_rfl)) fun x y hy => (poly_Times.way k x.1 x.2.1).ap hy

theorem bits_Add64.ok (k : Nat) : FnOk PR 188 (bits_Add64.sp k) := add64_ok Try.func188 (by kernel_rfl) (by kernel_rfl) (by kernel_rfl) (by kernel_rfl) k

/-! (tourney/poly.Wide).Plus -/
noncomputable def poly_Wide_Plus.code : Code := Func.cd Try.f209
noncomputable def poly_Wide_Plus (k : Nat) (a0 : V154) (a1 : V154) : Option V154 :=
  bnd (bits_Add64 k a0.2.1 a1.2.1 0) fun y1 =>
  some ((iadd .i64 (iadd .i64 a0.1 a1.1) (icv .i64 y1.2)), y1.1, ())
noncomputable def poly_Wide_Plus.sp (k : Nat) : Go.Sx.Spec := ⟨(.pair T154 (.pair T154 .unit)), (.one (.dp T154)), fun x => poly_Wide_Plus k x.1 x.2.1, false⟩
noncomputable def poly_Wide_Plus.cx (k : Nat) : Go.Sx.Ctx := ⟨tys, [(188, bits_Add64.sp k)], eqs, 25, 0, [], false⟩
theorem poly_Wide_Plus.cok (k : Nat) : CtxOk PR (poly_Wide_Plus.cx k) := ctx_ok tysOk eqsOk (FnsOk.cons (bits_Add64.ok k) FnsOk.nil) HsOk.nil
theorem poly_Wide_Plus.way (k : Nat) (a0 : V154) (a1 : V154) : Owp (poly_Wide_Plus k a0 a1) fun y => ∃ answers cmds, exec PR (poly_Wide_Plus.cx k) poly_Wide_Plus.code 0 (entry (.pair T154 (.pair T154 .unit)) (a0, a1, ())).st answers (Ret (poly_Wide_Plus.cx k) Try.f209 cmds (.one (.dp T154)) y) := by
  unfold poly_Wide_Plus; exact
   Owp.bnd fun y1 e2 =>
   Owp.some (⟨[.res (.more (.dp T12) (.one (.dp T12))) y1], [], via (retP (And.intro trivial e2) (.one (.dp T154)) (((iadd .i64 (iadd .i64 a0.1 a1.1) (icv .i64 y1.2)), y1.1, ()) : V154)) (by kernel_rfl)⟩)
theorem poly_Wide_Plus.ok (k : Nat) : FnOk PR 209 (poly_Wide_Plus.sp k) :=
  fn_ok (poly_Wide_Plus.cok k) hmix Try.func209 (code := poly_Wide_Plus.code) (by kernel_rfl) (by kernel_rfl) (by kernel_rfl) rfl rfl (by kernel_rfl) (by kernel_rfl) (by kernel_rfl) (fun x => Nat.le_of_ble_eq_true (by kernel_rfl)) fun x y hy => (poly_Wide_Plus.way k x.1 x.2.1).ap hy

/-! tourney/poly.Dot -/
noncomputable def poly_Dot.code : Code := Func.cd Try.f151
noncomputable def poly_Dot (k : Nat) (a0 : V27) (a1 : V27) : Option V154 :=
  bnd (poly_Times k a0.1 a1.1) fun y1 =>
  bnd (poly_Times k a0.2.1 a1.2.1) fun y3 =>
  bnd (poly_Wide_Plus k y1 y3) fun y5 =>
  some y5
noncomputable def poly_Dot.sp (k : Nat) : Go.Sx.Spec := ⟨T41, (.one (.dp T154)), fun x => poly_Dot k x.1 x.2.1, false⟩
noncomputable def poly_Dot.cx (k : Nat) : Go.Sx.Ctx := ⟨tys, [(208, poly_Times.sp k), (209, poly_Wide_Plus.sp k)], eqs, 16, 0, [], false⟩
theorem poly_Dot.cok (k : Nat) : CtxOk PR (poly_Dot.cx k) := ctx_ok tysOk eqsOk (FnsOk.cons (poly_Times.ok k) (FnsOk.cons (poly_Wide_Plus.ok k) FnsOk.nil)) HsOk.nil
theorem poly_Dot.way (k : Nat) (a0 : V27) (a1 : V27) : Owp (poly_Dot k a0 a1) fun y => ∃ answers cmds, exec PR (poly_Dot.cx k) poly_Dot.code 0 (entry T41 (a0, a1, ())).st answers (Ret (poly_Dot.cx k) Try.f151 cmds (.one (.dp T154)) y) := by
  unfold poly_Dot; exact
   Owp.bnd fun y1 e2 =>
   Owp.bnd fun y3 e4 =>
   Owp.bnd fun y5 e6 =>
   Owp.some (⟨[.res (.one (.dp T154)) y1, .res (.one (.dp T154)) y3, .res (.one (.dp T154)) y5], [], via (retP (And.intro (And.intro (And.intro trivial e2) e4) e6) (.one (.dp T154)) (y5 : V154)) (by kernel_rfl)⟩)
theorem poly_Dot.ok (k : Nat) : FnOk PR 151 (poly_Dot.sp k) :=
  fn_ok (poly_Dot.cok k) hmix Try.func151 (code := poly_Dot.code) (by kernel_rfl) (by kernel_rfl) (by kernel_rfl) rfl rfl (by kernel_rfl) (by kernel_rfl) (by kernel_rfl) (fun x => Nat.le_of_ble_eq_true (by kernel_rfl)) fun x y hy => (poly_Dot.way k x.1 x.2.1).ap hy

/-! (tourney/poly.Wide).Cmp -/
noncomputable def poly_Wide_Cmp.code : Code := Func.cd Try.f152
noncomputable def poly_Wide_Cmp.c1 (k : Nat) (a0 : V154) (a1 : V154) : Option (Bool) :=
  bif' (ilt a0.1 a1.1)
  (some true)
  (bif' (ieq a0.1 a1.1)
   (some (ilt a0.2.1 a1.2.1))
   (some false))
noncomputable def poly_Wide_Cmp (k : Nat) (a0 : V154) (a1 : V154) : Option Int :=
  bif' (Ty.eqb T154 a0 a1)
  (some 0)
  (bnd (poly_Wide_Cmp.c1 k a0 a1) fun o4 =>
   bif' o4
   (some (-1))
   (some 1))
noncomputable def poly_Wide_Cmp.sp (k : Nat) : Go.Sx.Spec := ⟨(.pair T154 (.pair T154 .unit)), (.one (.dp T2)), fun x => poly_Wide_Cmp k x.1 x.2.1, false⟩
noncomputable def poly_Wide_Cmp.cx (k : Nat) : Go.Sx.Ctx := ⟨tys, [], eqs, 29, 0, [], false⟩
theorem poly_Wide_Cmp.cok (k : Nat) : CtxOk PR (poly_Wide_Cmp.cx k) := ctx_ok tysOk eqsOk FnsOk.nil HsOk.nil
noncomputable def poly_Wide_Cmp.c1p (a0 : V154) (a1 : V154) : SL := ⟨[(2, (.val .ptr ⟨0, 0, (0 : Int), 0, 0⟩)), (3, (.val .ptr ⟨1, 0, (0 : Int), 0, 0⟩))], [(0, .cells T154 a0), (1, .cells T154 a1)]⟩
noncomputable def poly_Wide_Cmp.c1q (o : Bool) : SL := (fun v => ⟨[(9, (.val T4 v))], []⟩) o
noncomputable def poly_Wide_Cmp.c1x (o : Bool) : Ex := (fun _ => .normal) o
noncomputable def poly_Wide_Cmp.c1n (o : Bool) : Nat := (fun _ => 0) o
theorem poly_Wide_Cmp.c1_ok (k : Nat) (a0 : V154) (a1 : V154) : Owp (poly_Wide_Cmp.c1 k a0 a1) fun o => Triple PR (poly_Wide_Cmp.cx k) (sub poly_Wide_Cmp.code [1, 0, 0, 1, 1, 0]) 2 (poly_Wide_Cmp.c1p a0 a1) (poly_Wide_Cmp.c1x o) (poly_Wide_Cmp.c1n o) (poly_Wide_Cmp.c1q o) := by
  unfold poly_Wide_Cmp.c1; exact
   Owp.bif (fun e2 =>
   Owp.some (triple_way (poly_Wide_Cmp.cok k) hmix [.dec true, .dec true, .dec true, .dec true, .dec true, .dec true, .dec true, .dec true, .dec true, .dec true, .dec true, .dec true, .dec true, .dec true] [] [] (via (finP (And.intro (And.intro (And.intro (And.intro (And.intro (And.intro (And.intro (And.intro trivial e2) e2) e2) e2) e2) e2) e2) e2) .normal [] (poly_Wide_Cmp.c1q true)) (by kernel_rfl)))) (fun e2 =>
   Owp.bif (fun e3 =>
    Owp.some (triple_way (poly_Wide_Cmp.cok k) hmix [.dec false, .dec false, .dec false, .dec false, .dec false, .dec false, .dec true, .dec true, .dec true, .dec true, .dec true, .dec false, .dec true, .dec false] [] [] (via (finP (And.intro (And.intro (And.intro (And.intro (And.intro (And.intro (And.intro (And.intro (And.intro (And.intro (And.intro (And.intro (And.intro trivial e2) e2) e2) e2) e2) e2) e3) e3) e3) e3) e3) (And.intro e2 e3)) e2) .normal [] (poly_Wide_Cmp.c1q (ilt a0.2.1 a1.2.1))) (by kernel_rfl)))) (fun e3 =>
    Owp.some (triple_way (poly_Wide_Cmp.cok k) hmix [.dec false, .dec false, .dec false, .dec false, .dec false, .dec false, .dec false, .dec false, .dec false, .dec false, .dec false, .dec false, .dec false, .dec false] [] [] (via (finP (And.intro (And.intro (And.intro (And.intro (And.intro (And.intro (And.intro (And.intro (And.intro (And.intro (And.intro (And.intro (And.intro trivial e2) e2) e2) e2) e2) e2) e3) e3) e3) e3) e3) (And.intro e2 e3)) e2) .normal [] (poly_Wide_Cmp.c1q false)) (by kernel_rfl)))))
theorem poly_Wide_Cmp.way (k : Nat) (a0 : V154) (a1 : V154) : Owp (poly_Wide_Cmp k a0 a1) fun y => ∃ answers cmds, exec PR (poly_Wide_Cmp.cx k) poly_Wide_Cmp.code 0 (entry (.pair T154 (.pair T154 .unit)) (a0, a1, ())).st answers (Ret (poly_Wide_Cmp.cx k) Try.f152 cmds (.one (.dp T2)) y) := by
  unfold poly_Wide_Cmp; exact
   Owp.bif (fun e1 =>
   Owp.some (⟨[.dec true], [], via (retP (And.intro trivial e1) (.one (.dp T2)) ((0 : Int) : Int)) (by kernel_rfl)⟩)) (fun e1 =>
   Owp.bnd fun o4 e5 =>
    Owp.bif (fun e6 =>
    Owp.some (⟨[.dec false, .cutR 3 ⟨[], [(0, 0), (1, 1)], (poly_Wide_Cmp.c1p a0 a1), 2, .normal, (poly_Wide_Cmp.c1q o4), 0⟩, .dec true], [], via (cutP (And.intro trivial e1) [(0, 0), (1, 1)] (poly_Wide_Cmp.c1p a0 a1) (((poly_Wide_Cmp.c1_ok k a0 a1).ap e5)) (retP (And.intro trivial e6) (.one (.dp T2)) ((-1 : Int) : Int))) (by kernel_rfl)⟩)) (fun e6 =>
    Owp.some (⟨[.dec false, .cutR 3 ⟨[], [(0, 0), (1, 1)], (poly_Wide_Cmp.c1p a0 a1), 2, .normal, (poly_Wide_Cmp.c1q o4), 0⟩, .dec false], [], via (cutP (And.intro trivial e1) [(0, 0), (1, 1)] (poly_Wide_Cmp.c1p a0 a1) (((poly_Wide_Cmp.c1_ok k a0 a1).ap e5)) (retP (And.intro trivial e6) (.one (.dp T2)) ((1 : Int) : Int))) (by kernel_rfl)⟩)))
theorem poly_Wide_Cmp.ok (k : Nat) : FnOk PR 152 (poly_Wide_Cmp.sp k) :=
  fn_ok (poly_Wide_Cmp.cok k) hmix Try.func152 (code := poly_Wide_Cmp.code) (by kernel_rfl) (by kernel_rfl) (by kernel_rfl) rfl rfl (by kernel_rfl) (by kernel_rfl) (by kernel_rfl) (fun x => Nat.le_of_ble_eq_true (by kernel_rfl)) fun x y hy => (poly_Wide_Cmp.way k x.1 x.2.1).ap hy

end Go.Proofs.T1
