import Derived.Test.YtolkdkhdkfndfaaG0
import Derived.Test.YtolkdkhdkfndfaaLay
namespace Go.Proofs.T1
open Go Go.Sx Go.Proofs
set_option maxRecDepth 100000
set_option linter.unusedVariables false
/-! slices.IndexFunc[[]tourney/api.Vec,tourney/api.Vec] -/
noncomputable def slices_IndexFunc.code : Code := Func.cd Try.f99
noncomputable def slices_IndexFunc.c1 (k : Nat) (a0 : (List V27)) (a1 : ((V27 × Unit) → Option Bool)) : Nat → Int → Option (Int ⊕ Unit)
  | 0, _ => none
  | n + 1, v1 =>
   bif' (ilt v1 (len a0))
   (req (inL v1 a0) <|
    bnd (a1 ((el Z27 a0 v1), ())) fun y4 =>
    bif' y4
    (some (.inl v1))
    (slices_IndexFunc.c1 k a0 a1 n (iadd .i64 v1 1)))
   (some (.inr ()))
noncomputable def slices_IndexFunc (k : Nat) (a0 : (List V27)) (a1 : ((V27 × Unit) → Option Bool)) : Option Int :=
  bnd (slices_IndexFunc.c1 k a0 a1 k 0) fun o7 =>
  two o7 (fun y9 =>
  some y9) (fun y11 =>
  some (-1))
noncomputable def slices_IndexFunc.sp (k : Nat) : Go.Sx.Spec := ⟨(.pair T22 (.pair (.fn (.pair T27 .unit) T4) .unit)), (.one (.dp T2)), fun x => slices_IndexFunc k x.1 x.2.1, false⟩
noncomputable def slices_IndexFunc.cx (k : Nat) : Go.Sx.Ctx := ⟨tys, [], eqs, 19, 0, [], false⟩
theorem slices_IndexFunc.cok (k : Nat) : CtxOk PR (slices_IndexFunc.cx k) := ctx_ok tysOk eqsOk FnsOk.nil HsOk.nil
noncomputable def slices_IndexFunc.c1p (a0 : (List V27)) (a1 : ((V27 × Unit) → Option Bool)) (v1 : Int) : SL := ⟨[(0, (.val T22 a0)), (1, (.val (.fn (.pair T27 .unit) T4) a1)), (7, (.val T2 (len a0))), (8, (.val T2 v1))], []⟩
noncomputable def slices_IndexFunc.c1q (o : Int ⊕ Unit) : SL := (fun o => two o (fun v => ⟨[(4, (.val T2 v))], []⟩) (fun v => ⟨[], []⟩)) o
noncomputable def slices_IndexFunc.c1x (o : Int ⊕ Unit) : Ex := (fun o => two o (fun _ => .ret) (fun _ => (.exit 0))) o
noncomputable def slices_IndexFunc.c1n (o : Int ⊕ Unit) : Nat := (fun o => two o (fun _ => 0) (fun _ => 0)) o
theorem slices_IndexFunc.c1_ok (k : Nat) (a0 : (List V27)) (a1 : ((V27 × Unit) → Option Bool)) : ∀ (n : Nat) (v1 : Int), Owp (slices_IndexFunc.c1 k a0 a1 n v1) fun o => LTriple PR (slices_IndexFunc.cx k) (sub slices_IndexFunc.code [1, 0, 1, 0, 0]) 0 (slices_IndexFunc.c1p a0 a1 v1) (slices_IndexFunc.c1x o) (slices_IndexFunc.c1n o) (slices_IndexFunc.c1q o)
  | 0, _ => fun _ h => nomatch h
  | n + 1, v1 => Owp.of (slices_IndexFunc.c1.eq_2 ..) (
   Owp.bif (fun e2 =>
   Owp.req fun h3 =>
    Owp.bnd fun y4 e5 =>
    Owp.bif (fun e6 =>
    Owp.some (loop_exit (slices_IndexFunc.cok k) hmix [.dec true, .res (.one (.dp T4)) y4, .dec true] [] [] exne_ret (via (finP (And.intro (And.intro (And.intro (And.intro trivial e2) h3) e5) e6) .ret [] (slices_IndexFunc.c1q (.inl v1))) (by kernel_rfl)))) (fun e6 =>
    fun y hy => loop_back (slices_IndexFunc.cok k) hmix 0 (slices_IndexFunc.c1p a0 a1 (iadd .i64 v1 (1 : Int))) [.dec true, .res (.one (.dp T4)) y4, .dec false] [] [] (via (finP (And.intro (And.intro (And.intro (And.intro trivial e2) h3) e5) e6) .normal [] (slices_IndexFunc.c1p a0 a1 (iadd .i64 v1 (1 : Int)))) (by kernel_rfl)) ((slices_IndexFunc.c1_ok k a0 a1 n (iadd .i64 v1 (1 : Int))).ap hy))) (fun e2 =>
   Owp.some (loop_exit (slices_IndexFunc.cok k) hmix [.dec false] [] [] (exne 0) (via (finP (And.intro trivial e2) (.exit 0) [] (slices_IndexFunc.c1q (.inr ()))) (by kernel_rfl)))))
theorem slices_IndexFunc.way (k : Nat) (a0 : (List V27)) (a1 : ((V27 × Unit) → Option Bool)) : Owp (slices_IndexFunc k a0 a1) fun y => ∃ answers cmds, exec PR (slices_IndexFunc.cx k) slices_IndexFunc.code 0 (entry (.pair T22 (.pair (.fn (.pair T27 .unit) T4) .unit)) (a0, a1, ())).st answers (Ret (slices_IndexFunc.cx k) Try.f99 cmds (.one (.dp T2)) y) := by
  unfold slices_IndexFunc; exact
   Owp.bnd fun o7 e8 =>
   Owp.two (fun y9 e10 =>
   Owp.some (⟨[.cut ⟨[], [], (slices_IndexFunc.c1p a0 a1 (0 : Int)), 0, .ret, (slices_IndexFunc.c1q (.inl y9)), 0⟩], [], via (cutP trivial [] (slices_IndexFunc.c1p a0 a1 (0 : Int)) (((slices_IndexFunc.c1_ok k a0 a1 k (0 : Int)).ap (e8.trans (congrArg some e10))).triple) (retP trivial (.one (.dp T2)) (y9 : Int))) (by kernel_rfl)⟩)) (fun y11 e12 =>
   Owp.some (⟨[.cut ⟨[], [], (slices_IndexFunc.c1p a0 a1 (0 : Int)), 0, (.exit 0), (slices_IndexFunc.c1q (.inr ())), 0⟩], [], via (cutP trivial [] (slices_IndexFunc.c1p a0 a1 (0 : Int)) (((slices_IndexFunc.c1_ok k a0 a1 k (0 : Int)).ap (e8.trans (congrArg some e12))).triple) (retP trivial (.one (.dp T2)) ((-1 : Int) : Int))) (by kernel_rfl)⟩))
theorem slices_IndexFunc.ok (k : Nat) : FnOk PR 99 (slices_IndexFunc.sp k) :=
  fn_ok (slices_IndexFunc.cok k) hmix Try.func99 (code := slices_IndexFunc.code) (by kernel_rfl) (by kernel_rfl) (by kernel_rfl) rfl rfl (by kernel_rfl) (by kernel_rfl) (by kernel_rfl) (fun x => Nat.le_of_ble_eq_true (by kernel_rfl)) fun x y hy => (slices_IndexFunc.way k x.1 x.2.1).ap hy

/-! slices.ContainsFunc[[]tourney/api.Vec,tourney/api.Vec] -/
noncomputable def slices_ContainsFunc.code : Code := Func.cd Try.f23
noncomputable def slices_ContainsFunc (k : Nat) (a0 : (List V27)) (a1 : ((V27 × Unit) → Option Bool)) : Option Bool :=
  bnd (slices_IndexFunc k a0 a1) fun y1 =>
  some (ige y1 0)
noncomputable def slices_ContainsFunc.sp (k : Nat) : Go.Sx.Spec := ⟨(.pair T22 (.pair (.fn (.pair T27 .unit) T4) .unit)), (.one (.dp T4)), fun x => slices_ContainsFunc k x.1 x.2.1, false⟩
noncomputable def slices_ContainsFunc.cx (k : Nat) : Go.Sx.Ctx := ⟨tys, [(99, slices_IndexFunc.sp k)], eqs, 9, 0, [], false⟩
theorem slices_ContainsFunc.cok (k : Nat) : CtxOk PR (slices_ContainsFunc.cx k) := ctx_ok tysOk eqsOk (FnsOk.cons (slices_IndexFunc.ok k) FnsOk.nil) HsOk.nil
theorem slices_ContainsFunc.way (k : Nat) (a0 : (List V27)) (a1 : ((V27 × Unit) → Option Bool)) : Owp (slices_ContainsFunc k a0 a1) fun y => ∃ answers cmds, exec PR (slices_ContainsFunc.cx k) slices_ContainsFunc.code 0 (entry (.pair T22 (.pair (.fn (.pair T27 .unit) T4) .unit)) (a0, a1, ())).st answers (Ret (slices_ContainsFunc.cx k) Try.f23 cmds (.one (.dp T4)) y) := by
  unfold slices_ContainsFunc; exact
   Owp.bnd fun y1 e2 =>
   Owp.some (⟨[.res (.one (.dp T2)) y1], [], via (retP (And.intro trivial e2) (.one (.dp T4)) ((ige y1 (0 : Int)) : Bool)) (by kernel_rfl)⟩)
theorem slices_ContainsFunc.ok (k : Nat) : FnOk PR 23 (slices_ContainsFunc.sp k) :=
  fn_ok (slices_ContainsFunc.cok k) hmix Try.func23 (code := slices_ContainsFunc.code) (by kernel_rfl) (by kernel_rfl) (by kernel_rfl) rfl rfl (by kernel_rfl) (by kernel_rfl) (by kernel_rfl) (fun x => Nat.le_of_ble_eq_true (by kernel_rfl)) fun x y hy => (slices_ContainsFunc.way k x.1 x.2.1).ap hy

/-! tourney/poly.within -/
noncomputable def poly_within.code : Code := Func.cd Try.f86
noncomputable def poly_within (k : Nat) (a0 : V27) : Option Bool :=
  bif' (ige a0.1 (-65536000))
  (bif' (ile a0.1 65536000)
   (bif' (ige a0.2.1 (-65536000))
    (some (ile a0.2.1 65536000))
    (some false))
   (some false))
  (some false)
noncomputable def poly_within.sp (k : Nat) : Go.Sx.Spec := ⟨(.pair T27 .unit), (.one (.dp T4)), fun x => poly_within k x.1, false⟩
noncomputable def poly_within.cx (k : Nat) : Go.Sx.Ctx := ⟨tys, [], eqs, 21, 0, [], false⟩
theorem poly_within.cok (k : Nat) : CtxOk PR (poly_within.cx k) := ctx_ok tysOk eqsOk FnsOk.nil HsOk.nil
theorem poly_within.way (k : Nat) (a0 : V27) : Owp (poly_within k a0) fun y => ∃ answers cmds, exec PR (poly_within.cx k) poly_within.code 0 (entry (.pair T27 .unit) (a0, ())).st answers (Ret (poly_within.cx k) Try.f86 cmds (.one (.dp T4)) y) := by
  unfold poly_within; exact
   Owp.bif (fun e1 =>
   Owp.bif (fun e2 =>
    Owp.bif (fun e3 =>
     Owp.some (⟨[.dec true, .dec true, .dec true, .dec true, .dec true, .dec true, .dec true, .dec true, .dec true, .dec true, .dec true, .dec true], [], via (retP (And.intro (And.intro (And.intro (And.intro (And.intro (And.intro (And.intro (And.intro (And.intro (And.intro (And.intro (And.intro trivial e1) e1) e1) e1) e2) e2) e2) e2) e3) e3) e3) e3) (.one (.dp T4)) ((ile a0.2.1 (65536000 : Int)) : Bool)) (by kernel_rfl)⟩)) (fun e3 =>
     Owp.some (⟨[.dec true, .dec true, .dec true, .dec true, .dec true, .dec true, .dec true, .dec true, .dec false, .dec false, .dec false, .dec false], [], via (retP (And.intro (And.intro (And.intro (And.intro (And.intro (And.intro (And.intro (And.intro (And.intro (And.intro (And.intro (And.intro trivial e1) e1) e1) e1) e2) e2) e2) e2) e3) e3) e3) e3) (.one (.dp T4)) (false : Bool)) (by kernel_rfl)⟩))) (fun e2 =>
    Owp.some (⟨[.dec true, .dec true, .dec true, .dec true, .dec false, .dec false, .dec false, .dec false, .dec false, .dec false, .dec false, .dec false], [], via (retP (And.intro (And.intro (And.intro (And.intro (And.intro (And.intro (And.intro (And.intro (And.intro (And.intro (And.intro (And.intro trivial e1) e1) e1) e1) e2) e2) e2) e2) ff) ff) ff) ff) (.one (.dp T4)) (false : Bool)) (by kernel_rfl)⟩))) (fun e1 =>
   Owp.some (⟨[.dec false, .dec false, .dec false, .dec false, .dec false, .dec false, .dec false, .dec false, .dec false, .dec false, .dec false, .dec false], [], via (retP (And.intro (And.intro (And.intro (And.intro (And.intro (And.intro (And.intro (And.intro (And.intro (And.intro (And.intro (And.intro trivial e1) e1) e1) e1) ff) ff) ff) ff) ff) ff) ff) ff) (.one (.dp T4)) (false : Bool)) (by kernel_rfl)⟩))
theorem poly_within.ok (k : Nat) : FnOk PR 86 (poly_within.sp k) :=
  fn_ok (poly_within.cok k) hmix Try.func86 (code := poly_within.code) (by kernel_rfl) (by kernel_rfl) (by kernel_rfl) rfl rfl (by kernel_rfl) (by kernel_rfl) (by kernel_rfl) (fun x => Nat.le_of_ble_eq_true (by kernel_rfl)) fun x y hy => (poly_within.way k x.1).ap hy

/-! tourney/poly.Hull$1 -/
noncomputable def poly_Hull_1.code : Code := Func.cd Try.f85
noncomputable def poly_Hull_1 (k : Nat) (a0 : V27) : Option Bool :=
  bnd (poly_within k a0) fun y1 =>
  some (!y1)
noncomputable def poly_Hull_1.sp (k : Nat) : Go.Sx.Spec := ⟨(.pair T27 .unit), (.one (.dp T4)), fun x => poly_Hull_1 k x.1, false⟩
noncomputable def poly_Hull_1.cx (k : Nat) : Go.Sx.Ctx := ⟨tys, [(86, poly_within.sp k)], eqs, 6, 0, [], false⟩
theorem poly_Hull_1.cok (k : Nat) : CtxOk PR (poly_Hull_1.cx k) := ctx_ok tysOk eqsOk (FnsOk.cons (poly_within.ok k) FnsOk.nil) HsOk.nil
theorem poly_Hull_1.way (k : Nat) (a0 : V27) : Owp (poly_Hull_1 k a0) fun y => ∃ answers cmds, exec PR (poly_Hull_1.cx k) poly_Hull_1.code 0 (entry (.pair T27 .unit) (a0, ())).st answers (Ret (poly_Hull_1.cx k) Try.f85 cmds (.one (.dp T4)) y) := by
  unfold poly_Hull_1; exact
   Owp.bnd fun y1 e2 =>
   Owp.some (⟨[.res (.one (.dp T4)) y1], [], via (retP (And.intro trivial e2) (.one (.dp T4)) ((!y1) : Bool)) (by kernel_rfl)⟩)
theorem poly_Hull_1.ok (k : Nat) : FnOk PR 85 (poly_Hull_1.sp k) :=
  fn_ok (poly_Hull_1.cok k) hmix Try.func85 (code := poly_Hull_1.code) (by kernel_rfl) (by kernel_rfl) (by kernel_rfl) rfl rfl (by kernel_rfl) (by kernel_rfl) (by kernel_rfl) (fun x => Nat.le_of_ble_eq_true (by kernel_rfl)) fun x y hy => (poly_Hull_1.way k x.1).ap hy

/-! slices.Clone[[]tourney/api.Vec,tourney/api.Vec] -/
noncomputable def slices_Clone.code : Code := Func.cd Try.f87
noncomputable def slices_Clone (k : Nat) (a0 : (List V27)) : Option (List V27) :=
  req (room0 16 a0) <|
  some a0
noncomputable def slices_Clone.sp (k : Nat) : Go.Sx.Spec := ⟨(.pair T22 .unit), (.one (.ow T27 28)), fun x => slices_Clone k x.1, false⟩
noncomputable def slices_Clone.cx (k : Nat) : Go.Sx.Ctx := ⟨tys, [], eqs, 8, 0, [], false⟩
theorem slices_Clone.cok (k : Nat) : CtxOk PR (slices_Clone.cx k) := ctx_ok tysOk eqsOk FnsOk.nil HsOk.nil
theorem slices_Clone.way (k : Nat) (a0 : (List V27)) : Owp (slices_Clone k a0) fun y => ∃ answers cmds, exec PR (slices_Clone.cx k) slices_Clone.code 0 (entry (.pair T22 .unit) (a0, ())).st answers (Ret (slices_Clone.cx k) Try.f87 cmds (.one (.ow T27 28)) y) := by
  unfold slices_Clone; exact
   Owp.req fun h1 => match a0, h1 with
   | [], h1 => Owp.some (⟨[.fork [] [.dec true]], [.own 2 T27 28], via (show (True → (True ∧ (True ∧ some (Blk.row T27 ([] : (List V27)) 28) = some (Blk.row T27 ([] : (List V27)) 28)))) ∧ ((True ∧ room0 16 ([] : (List V27))) ∧ (True ∧ some (Blk.row T27 ([] : (List V27)) 28) = some (Blk.row T27 ([] : (List V27)) 28))) from ⟨fun _ => ⟨trivial, trivial, rfl⟩, ⟨trivial, h1⟩, trivial, rfl⟩) (by kernel_rfl)⟩)
   | a :: l, h1 => Owp.some (⟨[.dec false, .dec true], [.own 2 T27 28], via (show ((True ∧ false = false) ∧ room0 16 (a :: l)) ∧ (True ∧ some (Blk.row T27 (a :: l : (List V27)) 28) = some (Blk.row T27 (a :: l : (List V27)) 28)) from ⟨⟨⟨trivial, rfl⟩, h1⟩, trivial, rfl⟩) (by kernel_rfl)⟩)
theorem slices_Clone.ok (k : Nat) : FnOk PR 87 (slices_Clone.sp k) :=
  fn_ok (slices_Clone.cok k) hmix Try.func87 (code := slices_Clone.code) (by kernel_rfl) (by kernel_rfl) (by kernel_rfl) rfl rfl (by kernel_rfl) (by kernel_rfl) (by kernel_rfl) (fun x => Nat.le_of_ble_eq_true (by kernel_rfl)) fun x y hy => (slices_Clone.way k x.1).ap hy

/-! tourney/poly.before -/
noncomputable def poly_before.code : Code := Func.cd Try.f89
noncomputable def poly_before (k : Nat) (a0 : V27) (a1 : V27) : Option Int :=
  bif' (ine a0.2.1 a1.2.1)
  (some (isub .i64 a0.2.1 a1.2.1))
  (some (isub .i64 a0.1 a1.1))
noncomputable def poly_before.sp (k : Nat) : Go.Sx.Spec := ⟨T41, (.one (.dp T2)), fun x => poly_before k x.1 x.2.1, false⟩
noncomputable def poly_before.cx (k : Nat) : Go.Sx.Ctx := ⟨tys, [], eqs, 20, 0, [], false⟩
theorem poly_before.cok (k : Nat) : CtxOk PR (poly_before.cx k) := ctx_ok tysOk eqsOk FnsOk.nil HsOk.nil
theorem poly_before.way (k : Nat) (a0 : V27) (a1 : V27) : Owp (poly_before k a0 a1) fun y => ∃ answers cmds, exec PR (poly_before.cx k) poly_before.code 0 (entry T41 (a0, a1, ())).st answers (Ret (poly_before.cx k) Try.f89 cmds (.one (.dp T2)) y) := by
  unfold poly_before; exact
   Owp.bif (fun e1 =>
   Owp.some (⟨[.dec true], [], via (retP (And.intro trivial e1) (.one (.dp T2)) ((isub .i64 a0.2.1 a1.2.1) : Int)) (by kernel_rfl)⟩)) (fun e1 =>
   Owp.some (⟨[.dec false], [], via (retP (And.intro trivial e1) (.one (.dp T2)) ((isub .i64 a0.1 a1.1) : Int)) (by kernel_rfl)⟩))
theorem poly_before.ok (k : Nat) : FnOk PR 89 (poly_before.sp k) :=
  fn_ok (poly_before.cok k) hmix Try.func89 (code := poly_before.code) (by kernel_rfl) (by kernel_rfl) (by kernel_rfl) rfl rfl (by kernel_rfl) (by kernel_rfl) (by kernel_rfl) (fun x => Nat.le_of_ble_eq_true (by kernel_rfl)) fun x y hy => (poly_before.way k x.1 x.2.1).ap hy

/-! slices.SortFunc[[]tourney/api.Vec,tourney/api.Vec] -/
noncomputable def slices_SortFunc (k : Nat) (r0 : (List V27)) : Option (List V27) := sortG T27 r0 (fun z => poly_before k z.1 z.2.1)
noncomputable def slices_SortFunc.h (k : Nat) : Go.Sx.HSp := sortH0 T27 28 89 (fun x => poly_before k x.1 x.2.1)
theorem slices_SortFunc.ok (k : Nat) : HOk PR 88 (slices_SortFunc.h k) := sortH0_ok sortsAt_88 (by kernel_rfl) 28 (enters_of Try.func89 (by kernel_rfl) rfl) (poly_before.ok k)

/-! slices.Compact[[]tourney/api.Vec,tourney/api.Vec] -/
noncomputable def slices_Compact.code : Code := Func.cd Try.f90
noncomputable def slices_Compact.c3 (k : Nat) (v2 : Int) (v8 : Int) (v9 : Int) (v10 : (List V27)) : Option ((Int × (List V27))) :=
  bif' (Ty.eqb T27 (el Z27 v10 (ofs (Int.toNat v2) v9)) (el Z27 v10 (ofs (Int.toNat v2) (isub .i64 v9 (1 : Int)))))
  (some (v8, v10))
  (req (inR v9 ((List.length v10 - Int.toNat v2 : Nat) : Int)) <|
   req (inL (ofs (Int.toNat v2) v9) v10) <|
   req (inL v8 v10) <|
   some ((iadd .i64 v8 1), (st v10 v8 (el Z27 v10 (ofs (Int.toNat v2) v9)))))
noncomputable def slices_Compact.c2 (k : Nat) (v2 : Int) : Nat → Int → Int → (List V27) → Option ((Int × (List V27)))
  | 0, _, _, _ => none
  | n + 1, v8, v9, v10 =>
   bif' (ilt v9 ((List.length v10 - Int.toNat v2 : Nat) : Int))
   (req (inR v9 ((List.length v10 - Int.toNat v2 : Nat) : Int)) <|
    req (inL (ofs (Int.toNat v2) v9) v10) <|
    req (inR (isub .i64 v9 1) ((List.length v10 - Int.toNat v2 : Nat) : Int)) <|
    req (inL (ofs (Int.toNat v2) (isub .i64 v9 1)) v10) <|
    bnd (slices_Compact.c3 k v2 v8 v9 v10) fun o20 =>
    slices_Compact.c2 k v2 n o20.1 (iadd .i64 v9 1) o20.2)
   (some (v8, v10))
noncomputable def slices_Compact.c1 (k : Nat) (r0 : (List V27)) : Nat → Int → Option ((List V27) ⊕ Unit)
  | 0, _ => none
  | n + 1, v2 =>
   bif' (ilt v2 (len r0))
   (req (inL v2 r0) <|
    req (inL (isub .i64 v2 1) r0) <|
    bif' (Ty.eqb T27 (el Z27 r0 v2) (el Z27 r0 (isub .i64 v2 (1 : Int))))
    (req (sufIn v2 (List.length r0)) <|
     bnd (slices_Compact.c2 k v2 k v2 1 r0) fun o22 =>
     req (sufIn o22.1 (List.length o22.2)) <|
     req (Int.toNat o22.1 ≤ List.length o22.2) <|
     req (tkOk (clr Z27 o22.2 (Int.toNat o22.1)) o22.1) <|
     some (.inl (tk (clr Z27 o22.2 (Int.toNat o22.1)) o22.1)))
    (slices_Compact.c1 k r0 n (iadd .i64 v2 1)))
   (some (.inr ()))
noncomputable def slices_Compact (k : Nat) (r0 : (List V27)) : Option (List V27) :=
  bif' (ilt (len r0) 2)
  (some r0)
  (bnd (slices_Compact.c1 k r0 k 1) fun o27 =>
   two o27 (fun y29 =>
   some y29) (fun y31 =>
   some r0))
noncomputable def slices_Compact.h (k : Nat) : Go.Sx.HSp := ⟨(.pair T22 .unit), (.slice T27), 1, fun x => [.lent (.val .own (0 : Nat))], fun x => [(0, .row T27 x.1 28)], fun x => slices_Compact k x.1, fun x y => [(0, .row T27 y 28)], .none, fun y => (), false, true⟩
noncomputable def slices_Compact.cx (k : Nat) : Go.Sx.Ctx := ⟨tys, [], eqs, 61, 0, [], false⟩
theorem slices_Compact.cok (k : Nat) : CtxOk PR (slices_Compact.cx k) := ctx_ok tysOk eqsOk FnsOk.nil HsOk.nil
noncomputable def slices_Compact.c3p (v2 : Int) (v8 : Int) (v9 : Int) (v10 : (List V27)) : SL := ⟨[(0, (.val .own (0 : Nat))), (3, (.val T2 v8)), (4, (.suf 0 (Int.toNat v2) 2)), (5, (.val T2 v9)), (44, (.val T4 (!(Ty.eqb T27 (el Z27 v10 (ofs (Int.toNat v2) v9)) (el Z27 v10 (ofs (Int.toNat v2) (isub .i64 v9 (1 : Int))))))))], [(0, .row T27 v10 28)]⟩
noncomputable def slices_Compact.c3q (v2 : Int) (v9 : Int) (o : (Int × (List V27))) : SL := (fun v => ⟨[(0, (.val .own (0 : Nat))), (3, (.val T2 v.1)), (4, (.suf 0 (Int.toNat v2) 2)), (5, (.val T2 v9))], [(0, .row T27 v.2 28)]⟩) o
noncomputable def slices_Compact.c3x (o : (Int × (List V27))) : Ex := (fun _ => .normal) o
noncomputable def slices_Compact.c3n (o : (Int × (List V27))) : Nat := (fun _ => 1) o
theorem slices_Compact.c3_ok (k : Nat) (v2 : Int) (v8 : Int) (v9 : Int) (v10 : (List V27)) : Owp (slices_Compact.c3 k v2 v8 v9 v10) fun o => Triple PR (slices_Compact.cx k) (sub slices_Compact.code [1, 1, 0, 1, 0, 0, 1, 0, 0, 1, 0, 1, 0, 1, 0, 0, 1, 0, 0, 1]) 1 (slices_Compact.c3p v2 v8 v9 v10) (slices_Compact.c3x o) (slices_Compact.c3n o) (slices_Compact.c3q v2 v9 o) := by
  unfold slices_Compact.c3; exact
   Owp.bif (fun e16 =>
   Owp.some (triple_way (slices_Compact.cok k) hmix [.dec false] [] [(0, 0)] (via (finP (And.intro trivial (congrArg not e16)) .normal [(0, 0)] (slices_Compact.c3q v2 v9 (v8, v10))) (by kernel_rfl)))) (fun e16 =>
   Owp.req fun h17 =>
    Owp.req fun h18 =>
    Owp.req fun h19 =>
    Owp.some (triple_way (slices_Compact.cok k) hmix [.dec true] [] [(0, 0)] (via (finP (And.intro (And.intro (And.intro (And.intro (And.intro trivial (congrArg not e16)) h17) h18) h19) h19) .normal [(0, 0)] (slices_Compact.c3q v2 v9 ((iadd .i64 v8 (1 : Int)), (st v10 v8 (el Z27 v10 (ofs (Int.toNat v2) v9)))))) (by kernel_rfl))))
noncomputable def slices_Compact.c2p (v2 : Int) (v8 : Int) (v9 : Int) (v10 : (List V27)) : SL := ⟨[(0, (.val .own (0 : Nat))), (3, (.val T2 v8)), (4, (.suf 0 (Int.toNat v2) 2)), (5, (.val T2 v9))], [(0, .row T27 v10 28)]⟩
noncomputable def slices_Compact.c2q (o : (Int × (List V27))) : SL := (fun v => ⟨[(0, (.val .own (0 : Nat))), (3, (.val T2 v.1))], [(0, .row T27 v.2 28)]⟩) o
noncomputable def slices_Compact.c2x (o : (Int × (List V27))) : Ex := (fun _ => (.exit 2)) o
noncomputable def slices_Compact.c2n (o : (Int × (List V27))) : Nat := (fun _ => 1) o
theorem slices_Compact.c2_ok (k : Nat) (v2 : Int) : ∀ (n : Nat) (v8 : Int) (v9 : Int) (v10 : (List V27)), Owp (slices_Compact.c2 k v2 n v8 v9 v10) fun o => LTriple PR (slices_Compact.cx k) (sub slices_Compact.code [1, 1, 0, 1, 0, 0, 1, 0, 0, 1, 0, 1, 0, 1, 0, 0]) 1 (slices_Compact.c2p v2 v8 v9 v10) (slices_Compact.c2x o) (slices_Compact.c2n o) (slices_Compact.c2q o)
  | 0, _, _, _ => fun _ h => nomatch h
  | n + 1, v8, v9, v10 => Owp.of (slices_Compact.c2.eq_2 ..) (
   Owp.bif (fun e11 =>
   Owp.req fun h12 =>
    Owp.req fun h13 =>
    Owp.req fun h14 =>
    Owp.req fun h15 =>
    Owp.bnd fun o20 e21 =>
    fun y hy => loop_back (slices_Compact.cok k) hmix 1 (slices_Compact.c2p v2 o20.1 (iadd .i64 v9 (1 : Int)) o20.2) [.dec true, .cut ⟨[], [(0, 0)], (slices_Compact.c3p v2 v8 v9 v10), 1, .normal, (slices_Compact.c3q v2 v9 o20), 1⟩] [] [(0, 0)] (via (cutP (And.intro (And.intro (And.intro (And.intro (And.intro trivial e11) h12) h13) h14) h15) [(0, 0)] (slices_Compact.c3p v2 v8 v9 v10) (((slices_Compact.c3_ok k v2 v8 v9 v10).ap e21)) (finP trivial .normal [(0, 0)] (slices_Compact.c2p v2 o20.1 (iadd .i64 v9 (1 : Int)) o20.2))) (by kernel_rfl)) ((slices_Compact.c2_ok k v2 n o20.1 (iadd .i64 v9 (1 : Int)) o20.2).ap hy)) (fun e11 =>
   Owp.some (loop_exit (slices_Compact.cok k) hmix [.dec false] [] [(0, 0)] (exne 2) (via (finP (And.intro trivial e11) (.exit 2) [(0, 0)] (slices_Compact.c2q (v8, v10))) (by kernel_rfl)))))
noncomputable def slices_Compact.c1p (r0 : (List V27)) (v2 : Int) : SL := ⟨[(0, (.val .own (0 : Nat))), (3, (.val T2 v2))], [(0, .row T27 r0 28)]⟩
noncomputable def slices_Compact.c1q (r0 : (List V27)) (o : (List V27) ⊕ Unit) : SL := (fun o => two o (fun v => ⟨[(2, (.val .own (0 : Nat)))], [(0, .row T27 v 28)]⟩) (fun v => ⟨[(0, (.val .own (0 : Nat)))], [(0, .row T27 r0 28)]⟩)) o
noncomputable def slices_Compact.c1x (o : (List V27) ⊕ Unit) : Ex := (fun o => two o (fun _ => .ret) (fun _ => (.exit 0))) o
noncomputable def slices_Compact.c1n (o : (List V27) ⊕ Unit) : Nat := (fun o => two o (fun _ => 1) (fun _ => 1)) o
theorem slices_Compact.c1_ok (k : Nat) (r0 : (List V27)) : ∀ (n : Nat) (v2 : Int), Owp (slices_Compact.c1 k r0 n v2) fun o => LTriple PR (slices_Compact.cx k) (sub slices_Compact.code [1, 1, 0, 1, 0, 0]) 1 (slices_Compact.c1p r0 v2) (slices_Compact.c1x o) (slices_Compact.c1n o) (slices_Compact.c1q r0 o)
  | 0, _ => fun _ h => nomatch h
  | n + 1, v2 => Owp.of (slices_Compact.c1.eq_2 ..) (
   Owp.bif (fun e3 =>
   Owp.req fun h4 =>
    Owp.req fun h5 =>
    Owp.bif (fun e6 =>
    Owp.req fun h7 =>
     Owp.bnd fun o22 e23 =>
     Owp.req fun h24 =>
     Owp.req fun h25 =>
     Owp.req fun h26 =>
     Owp.some (loop_exit (slices_Compact.cok k) hmix [.dec true, .dec true, .cut ⟨[], [(0, 0)], (slices_Compact.c2p v2 v2 (1 : Int) r0), 1, (.exit 2), (slices_Compact.c2q o22), 1⟩] [] [(0, 7)] exne_ret (via (cutP (And.intro (And.intro (And.intro (And.intro (And.intro (And.intro (And.intro trivial e3) h4) h4) h5) h5) e6) h7) [(0, 0)] (slices_Compact.c2p v2 v2 (1 : Int) r0) (((slices_Compact.c2_ok k v2 k v2 (1 : Int) r0).ap e23).triple) (finP (And.intro (And.intro (And.intro trivial h24) h25) h26) .ret [(0, 7)] (slices_Compact.c1q r0 (.inl (tk (clr Z27 o22.2 (Int.toNat o22.1)) o22.1))))) (by kernel_rfl)))) (fun e6 =>
    fun y hy => loop_back (slices_Compact.cok k) hmix 1 (slices_Compact.c1p r0 (iadd .i64 v2 (1 : Int))) [.dec true, .dec false] [] [(0, 0)] (via (finP (And.intro (And.intro (And.intro (And.intro (And.intro (And.intro trivial e3) h4) h4) h5) h5) e6) .normal [(0, 0)] (slices_Compact.c1p r0 (iadd .i64 v2 (1 : Int)))) (by kernel_rfl)) ((slices_Compact.c1_ok k r0 n (iadd .i64 v2 (1 : Int))).ap hy))) (fun e3 =>
   Owp.some (loop_exit (slices_Compact.cok k) hmix [.dec false] [] [(0, 0)] (exne 0) (via (finP (And.intro trivial e3) (.exit 0) [(0, 0)] (slices_Compact.c1q r0 (.inr ()))) (by kernel_rfl)))))
@[irreducible] noncomputable def slices_Compact.P (k : Nat) (r0 : (List V27)) (y : (List V27)) (answers : List Ans) (cmds : List Cmd) : Prop := exec PR (slices_Compact.cx k) slices_Compact.code 1 (entryH (slices_Compact.h k) (r0, ())).st answers (RetG (slices_Compact.cx k) Try.f90 cmds (slices_Compact.h k) (r0, ()) y)
theorem slices_Compact.way (k : Nat) (r0 : (List V27)) : Owp (slices_Compact k r0) fun y => ∃ answers cmds, slices_Compact.P k r0 y answers cmds := by
  unfold slices_Compact; exact
   Owp.bif (fun e1 =>
   Owp.some (⟨[.dec true], [], via (retgP (And.intro trivial e1) (some (.row T27 r0 28))) (by kernel_rfl)⟩)) (fun e1 =>
   Owp.bnd fun o27 e28 =>
    Owp.two (fun y29 e30 =>
    Owp.some (⟨[.dec false, .cut ⟨[], [(0, 0)], (slices_Compact.c1p r0 (1 : Int)), 1, .ret, (slices_Compact.c1q r0 (.inl y29)), 1⟩], [], via (cutP (And.intro trivial e1) [(0, 0)] (slices_Compact.c1p r0 (1 : Int)) (((slices_Compact.c1_ok k r0 k (1 : Int)).ap (e28.trans (congrArg some e30))).triple) (retgP trivial (some (.row T27 y29 28)))) (by kernel_rfl)⟩)) (fun y31 e32 =>
    Owp.some (⟨[.dec false, .cut ⟨[], [(0, 0)], (slices_Compact.c1p r0 (1 : Int)), 1, (.exit 0), (slices_Compact.c1q r0 (.inr ())), 1⟩], [], via (cutP (And.intro trivial e1) [(0, 0)] (slices_Compact.c1p r0 (1 : Int)) (((slices_Compact.c1_ok k r0 k (1 : Int)).ap (e28.trans (congrArg some e32))).triple) (retgP trivial (some (.row T27 r0 28)))) (by kernel_rfl)⟩)))
theorem slices_Compact.ok (k : Nat) : HOk PR 90 (slices_Compact.h k) :=
  fnG_ok (slices_Compact.cok k) hmix Try.func90 (code := slices_Compact.code) (by kernel_rfl) (by kernel_rfl) (by kernel_rfl) (by kernel_rfl) (by kernel_rfl) (by kernel_rfl) (fun x => Nat.le_of_ble_eq_true (by kernel_rfl)) (fun x => ⟨_, _, _, rfl⟩) fun x y hy => match (slices_Compact.way k x.1).ap hy with | ⟨ans, cmds, h⟩ => ⟨ans, cmds, via h (by kernel_rfl)⟩

/-! tourney/poly.side -/
noncomputable def poly_side.code : Code := Func.cd Try.f91
noncomputable def poly_side (k : Nat) (a0 : V27) (a1 : V27) (a2 : V27) : Option Int :=
  some (isub .i64 (imul .i64 (isub .i64 a1.1 a0.1) (isub .i64 a2.2.1 a0.2.1)) (imul .i64 (isub .i64 a1.2.1 a0.2.1) (isub .i64 a2.1 a0.1)))
noncomputable def poly_side.sp (k : Nat) : Go.Sx.Spec := ⟨(.pair T27 T41), (.one (.dp T2)), fun x => poly_side k x.1 x.2.1 x.2.2.1, false⟩
noncomputable def poly_side.cx (k : Nat) : Go.Sx.Ctx := ⟨tys, [], eqs, 30, 0, [], false⟩
theorem poly_side.cok (k : Nat) : CtxOk PR (poly_side.cx k) := ctx_ok tysOk eqsOk FnsOk.nil HsOk.nil
theorem poly_side.way (k : Nat) (a0 : V27) (a1 : V27) (a2 : V27) : Owp (poly_side k a0 a1 a2) fun y => ∃ answers cmds, exec PR (poly_side.cx k) poly_side.code 0 (entry (.pair T27 T41) (a0, a1, a2, ())).st answers (Ret (poly_side.cx k) Try.f91 cmds (.one (.dp T2)) y) := by
  unfold poly_side; exact
   Owp.some (⟨[], [], via (retP trivial (.one (.dp T2)) ((isub .i64 (imul .i64 (isub .i64 a1.1 a0.1) (isub .i64 a2.2.1 a0.2.1)) (imul .i64 (isub .i64 a1.2.1 a0.2.1) (isub .i64 a2.1 a0.1))) : Int)) (by kernel_rfl)⟩)
theorem poly_side.ok (k : Nat) : FnOk PR 91 (poly_side.sp k) :=
  fn_ok (poly_side.cok k) hmix Try.func91 (code := poly_side.code) (by kernel_rfl) (by kernel_rfl) (by kernel_rfl) rfl rfl (by kernel_rfl) (by kernel_rfl) (by kernel_rfl) (fun x => Nat.le_of_ble_eq_true (by kernel_rfl)) fun x y hy => (poly_side.way k x.1 x.2.1 x.2.2.1).ap hy

/-! slices.Reverse[[]tourney/api.Vec,tourney/api.Vec] -/
noncomputable def slices_Reverse.code : Code := Func.cd Try.f92
noncomputable def slices_Reverse.c1 (k : Nat) : Nat → Int → Int → (List V27) → Option ((List V27))
  | 0, _, _, _ => none
  | n + 1, v1, v2, v3 =>
   bif' (ilt v1 v2)
   (req (inL v2 v3) <|
    req (inL v1 v3) <|
    req (inL v2 (st v3 v1 (el Z27 v3 v2))) <|
    slices_Reverse.c1 k n (iadd .i64 v1 1) (isub .i64 v2 1) (st (st v3 v1 (el Z27 v3 v2)) v2 (el Z27 v3 v1)))
   (some v3)
noncomputable def slices_Reverse (k : Nat) (r0 : (List V27)) : Option (List V27) :=
  bnd (slices_Reverse.c1 k k 0 (isub .i64 (len r0) 1) r0) fun o8 =>
  some o8
noncomputable def slices_Reverse.h (k : Nat) : Go.Sx.HSp := ⟨(.pair T22 .unit), T22, 1, fun x => [.lent (.val .own (0 : Nat))], fun x => [(0, .row T27 x.1 28)], fun x => slices_Reverse k x.1, fun x y => [(0, .row T27 y 28)], .none, fun y => (), false, false⟩
noncomputable def slices_Reverse.cx (k : Nat) : Go.Sx.Ctx := ⟨tys, [], eqs, 28, 1, [], false⟩
theorem slices_Reverse.cok (k : Nat) : CtxOk PR (slices_Reverse.cx k) := ctx_ok tysOk eqsOk FnsOk.nil HsOk.nil
noncomputable def slices_Reverse.c1p (v1 : Int) (v2 : Int) (v3 : (List V27)) : SL := ⟨[(0, (.val .own (0 : Nat))), (2, (.val T2 v1)), (3, (.val T2 v2))], [(0, .row T27 v3 28)]⟩
noncomputable def slices_Reverse.c1q (o : (List V27)) : SL := (fun v => ⟨[], [(0, .row T27 v 28)]⟩) o
noncomputable def slices_Reverse.c1x (o : (List V27)) : Ex := (fun _ => (.exit 0)) o
noncomputable def slices_Reverse.c1n (o : (List V27)) : Nat := (fun _ => 1) o
theorem slices_Reverse.c1_ok (k : Nat) : ∀ (n : Nat) (v1 : Int) (v2 : Int) (v3 : (List V27)), Owp (slices_Reverse.c1 k n v1 v2 v3) fun o => LTriple PR (slices_Reverse.cx k) (sub slices_Reverse.code [1, 0, 0]) 1 (slices_Reverse.c1p v1 v2 v3) (slices_Reverse.c1x o) (slices_Reverse.c1n o) (slices_Reverse.c1q o)
  | 0, _, _, _ => fun _ h => nomatch h
  | n + 1, v1, v2, v3 => Owp.of (slices_Reverse.c1.eq_2 ..) (
   Owp.bif (fun e4 =>
   Owp.req fun h5 =>
    Owp.req fun h6 =>
    Owp.req fun h7 =>
    fun y hy => loop_back (slices_Reverse.cok k) hmix 1 (slices_Reverse.c1p (iadd .i64 v1 (1 : Int)) (isub .i64 v2 (1 : Int)) (st (st v3 v1 (el Z27 v3 v2)) v2 (el Z27 v3 v1))) [.dec true] [] [(0, 0)] (via (finP (And.intro (And.intro (And.intro (And.intro (And.intro (And.intro (And.intro (And.intro (And.intro trivial e4) h5) h5) h6) h6) h6) h6) h7) h7) .normal [(0, 0)] (slices_Reverse.c1p (iadd .i64 v1 (1 : Int)) (isub .i64 v2 (1 : Int)) (st (st v3 v1 (el Z27 v3 v2)) v2 (el Z27 v3 v1)))) (by kernel_rfl)) ((slices_Reverse.c1_ok k n (iadd .i64 v1 (1 : Int)) (isub .i64 v2 (1 : Int)) (st (st v3 v1 (el Z27 v3 v2)) v2 (el Z27 v3 v1))).ap hy)) (fun e4 =>
   Owp.some (loop_exit (slices_Reverse.cok k) hmix [.dec false] [] [(0, 0)] (exne 0) (via (finP (And.intro trivial e4) (.exit 0) [(0, 0)] (slices_Reverse.c1q v3)) (by kernel_rfl)))))
@[irreducible] noncomputable def slices_Reverse.P (k : Nat) (r0 : (List V27)) (y : (List V27)) (answers : List Ans) (cmds : List Cmd) : Prop := exec PR (slices_Reverse.cx k) slices_Reverse.code 1 (entryH (slices_Reverse.h k) (r0, ())).st answers (RetH (slices_Reverse.cx k) Try.f92 cmds (slices_Reverse.h k) (r0, ()) y)
theorem slices_Reverse.way (k : Nat) (r0 : (List V27)) : Owp (slices_Reverse k r0) fun y => ∃ answers cmds, slices_Reverse.P k r0 y answers cmds := by
  unfold slices_Reverse; exact
   Owp.bnd fun o8 e9 =>
   Owp.some (⟨[.cut ⟨[], [(0, 0)], (slices_Reverse.c1p (0 : Int) (isub .i64 (len r0) (1 : Int)) r0), 1, (.exit 0), (slices_Reverse.c1q o8), 1⟩], [], via (cutP trivial [(0, 0)] (slices_Reverse.c1p (0 : Int) (isub .i64 (len r0) (1 : Int)) r0) (((slices_Reverse.c1_ok k k (0 : Int) (isub .i64 (len r0) (1 : Int)) r0).ap e9).triple) (rethP trivial [(0, .row T27 o8 28)] .none (() : Unit))) (by kernel_rfl)⟩)
theorem slices_Reverse.ok (k : Nat) : HOk PR 92 (slices_Reverse.h k) :=
  fnH_ok (slices_Reverse.cok k) hmix Try.func92 (code := slices_Reverse.code) (by kernel_rfl) (by kernel_rfl) (by kernel_rfl) (by kernel_rfl) (by kernel_rfl) (by kernel_rfl) (fun x => Nat.le_of_ble_eq_true (by kernel_rfl)) fun x y hy => match (slices_Reverse.way k x.1).ap hy with | ⟨ans, cmds, h⟩ => ⟨ans, cmds, via h (by kernel_rfl)⟩

/-! tourney/poly.Hull -/
noncomputable def poly_Hull.code : Code := Func.cd Try.f14
noncomputable def poly_Hull.c4 (k : Nat) (v12 : (List V27)) (v13 : (List V27)) (v15 : Int) (v19 : (List V27)) : Option (Bool) :=
  bif' (ige (len v19) (iadd .i64 (len v13) 2))
  (req (inL (isub .i64 (len v19) 2) v19) <|
   req (inL (isub .i64 (len v19) 1) v19) <|
   bnd (poly_side k (el Z27 v19 (isub .i64 (len v19) 2)) (el Z27 v19 (isub .i64 (len v19) 1)) (el Z27 v12 v15)) fun y23 =>
   some (ile y23 0))
  (some false)
noncomputable def poly_Hull.c3 (k : Nat) (v12 : (List V27)) (v13 : (List V27)) (v15 : Int) : Nat → (List V27) → Option ((List V27))
  | 0, _ => none
  | n + 1, v19 =>
   bnd (poly_Hull.c4 k v12 v13 v15 v19) fun o25 =>
   bif' o25
   (req (tkOk v19 (isub .i64 (len v19) 1)) <|
    poly_Hull.c3 k v12 v13 v15 n (tk v19 (isub .i64 (len v19) 1)))
   (some v19)
noncomputable def poly_Hull.c2 (k : Nat) (v12 : (List V27)) (v13 : (List V27)) : Nat → Int → (List V27) → Option ((List V27))
  | 0, _, _ => none
  | n + 1, v15, v16 =>
   bif' (ilt v15 (len v12))
   (req (inL v15 v12) <|
    bnd (poly_Hull.c3 k v12 v13 v15 k v16) fun o29 =>
    req (room 16 o29 [(el Z27 v12 v15)]) <|
    poly_Hull.c2 k v12 v13 n (iadd .i64 v15 1) (o29 ++ [(el Z27 v12 v15)]))
   (some v16)
noncomputable def poly_Hull.c1 (k : Nat) : Nat → Int → (List V27) → (List V27) → Option ((List V27))
  | 0, _, _, _ => none
  | n + 1, v11, v12, v13 =>
   bif' (ilt v11 2)
   (bnd (poly_Hull.c2 k v12 v13 k 0 v13) fun o32 =>
    req (tkOk o32 (imax (isub .i64 (len o32) 1) 0)) <|
    bnd (slices_Reverse k v12) fun y35 =>
    poly_Hull.c1 k n (iadd .i64 v11 1) y35 (tk o32 (imax (isub .i64 (len o32) 1) 0)))
   (some v13)
noncomputable def poly_Hull (k : Nat) (a0 : (List V27)) : Option ((List V27) × Int) :=
  bif' (igt (len a0) 64)
  (some ([], 2))
  (bnd (slices_ContainsFunc k a0 (fun x : (V27 × Unit) => poly_Hull_1 k (x.1))) fun y2 =>
   bif' y2
   (some ([], 1))
   (bnd (slices_Clone k a0) fun y5 =>
    bnd (slices_SortFunc k y5) fun y7 =>
    bnd (slices_Compact k y7) fun y9 =>
    bnd (poly_Hull.c1 k k 0 y9 []) fun o37 =>
    bif' (ilt (len o37) 3)
    (some ([], 3))
    (bif' (igt (len o37) 8)
     (some ([], 6))
     (some (o37, 0)))))
noncomputable def poly_Hull.sp (k : Nat) : Go.Sx.Spec := ⟨(.pair T22 .unit), (.more (.ow T27 28) (.one (.dp T2))), fun x => poly_Hull k x.1, false⟩
noncomputable def poly_Hull.cx (k : Nat) : Go.Sx.Ctx := ⟨tys, [(23, slices_ContainsFunc.sp k), (85, poly_Hull_1.sp k), (87, slices_Clone.sp k), (91, poly_side.sp k)], eqs, 80, 0, [(88, slices_SortFunc.h k), (90, slices_Compact.h k), (92, slices_Reverse.h k)], false⟩
theorem poly_Hull.cok (k : Nat) : CtxOk PR (poly_Hull.cx k) := ctx_ok tysOk eqsOk (FnsOk.cons (slices_ContainsFunc.ok k) (FnsOk.cons (poly_Hull_1.ok k) (FnsOk.cons (slices_Clone.ok k) (FnsOk.cons (poly_side.ok k) FnsOk.nil)))) (HsOk.cons (slices_SortFunc.ok k) (HsOk.cons (slices_Compact.ok k) (HsOk.cons (slices_Reverse.ok k) HsOk.nil)))
noncomputable def poly_Hull.c4p (v11 : Int) (v12 : (List V27)) (v13 : (List V27)) (v15 : Int) (v19 : (List V27)) : SL := ⟨[(4, (.val .own (0 : Nat))), (5, (.val .own (1 : Nat))), (6, (.val T2 (len v13))), (8, (.val .ptr ⟨2, 0, (0 : Int), 0, 0⟩)), (20, (.val T2 v11)), (24, (.val .own (0 : Nat))), (25, (.val T2 (len v12))), (26, (.val T2 v15))], [(0, .row T27 v12 28), (1, .row T27 v19 28), (2, .cells T27 (el Z27 v12 v15))]⟩
noncomputable def poly_Hull.c4q (v11 : Int) (v12 : (List V27)) (v13 : (List V27)) (v15 : Int) (v19 : (List V27)) (o : Bool) : SL := (fun v => ⟨[(4, (.val .own (0 : Nat))), (5, (.val .own (1 : Nat))), (6, (.val T2 (len v13))), (8, (.val .ptr ⟨2, 0, (0 : Int), 0, 0⟩)), (20, (.val T2 v11)), (24, (.val .own (0 : Nat))), (25, (.val T2 (len v12))), (26, (.val T2 v15)), (51, (.val T4 v))], [(0, .row T27 v12 28), (1, .row T27 v19 28), (2, .cells T27 (el Z27 v12 v15))]⟩) o
noncomputable def poly_Hull.c4x (o : Bool) : Ex := (fun _ => .normal) o
noncomputable def poly_Hull.c4n (o : Bool) : Nat := (fun _ => 3) o
theorem poly_Hull.c4_ok (k : Nat) (v11 : Int) (v12 : (List V27)) (v13 : (List V27)) (v15 : Int) (v19 : (List V27)) : Owp (poly_Hull.c4 k v12 v13 v15 v19) fun o => Triple PR (poly_Hull.cx k) (sub poly_Hull.code [1, 1, 1, 1, 1, 1, 1, 0, 1, 0, 0, 1, 1, 0, 0, 1, 0, 1, 0, 0, 1, 1, 0, 0, 1, 0, 0, 0, 0, 0]) 3 (poly_Hull.c4p v11 v12 v13 v15 v19) (poly_Hull.c4x o) (poly_Hull.c4n o) (poly_Hull.c4q v11 v12 v13 v15 v19 o) := by
  unfold poly_Hull.c4; exact
   Owp.bif (fun e20 =>
   Owp.req fun h21 =>
    Owp.req fun h22 =>
    Owp.bnd fun y23 e24 =>
    Owp.some (triple_way (poly_Hull.cok k) hmix [.dec true, .dec true, .dec true, .dec true, .dec true, .dec true, .dec true, .dec true, .dec true, .dec true, .dec true, .dec true, .dec true, .dec true, .res (.one (.dp T2)) y23, .dec true, .dec true] [] [(0, 0), (1, 1), (2, 2)] (via (finP (And.intro (And.intro (And.intro (And.intro (And.intro (And.intro (And.intro (And.intro (And.intro (And.intro (And.intro (And.intro (And.intro (And.intro (And.intro (And.intro trivial e20) e20) e20) e20) (And.intro e20 h21)) (And.intro e20 h21)) e20) e20) e20) e20) (And.intro e20 h22)) (And.intro e20 h22)) e20) (And.intro e20 e24)) e20) e20) .normal [(0, 0), (1, 1), (2, 2)] (poly_Hull.c4q v11 v12 v13 v15 v19 (ile y23 (0 : Int)))) (by kernel_rfl)))) (fun e20 =>
   Owp.some (triple_way (poly_Hull.cok k) hmix [.dec false, .dec false, .dec false, .dec false, .dec false, .dec false, .dec false, .dec false, .dec false, .dec false, .dec false, .dec false, .dec false, .dec false, .dec true, .dec false, .dec false] [] [(0, 0), (1, 1), (2, 2)] (via (finP (And.intro (And.intro (And.intro (And.intro (And.intro (And.intro (And.intro (And.intro (And.intro (And.intro (And.intro (And.intro (And.intro (And.intro (And.intro (And.intro trivial e20) e20) e20) e20) e20) e20) e20) e20) e20) e20) e20) e20) e20) e20) e20) e20) .normal [(0, 0), (1, 1), (2, 2)] (poly_Hull.c4q v11 v12 v13 v15 v19 false)) (by kernel_rfl))))
noncomputable def poly_Hull.c3p (v11 : Int) (v12 : (List V27)) (v13 : (List V27)) (v15 : Int) (v19 : (List V27)) : SL := ⟨[(4, (.val .own (0 : Nat))), (5, (.val .own (1 : Nat))), (6, (.val T2 (len v13))), (8, (.val .ptr ⟨2, 0, (0 : Int), 0, 0⟩)), (20, (.val T2 v11)), (24, (.val .own (0 : Nat))), (25, (.val T2 (len v12))), (26, (.val T2 v15))], [(0, .row T27 v12 28), (1, .row T27 v19 28), (2, .cells T27 (el Z27 v12 v15))]⟩
noncomputable def poly_Hull.c3q (v11 : Int) (v12 : (List V27)) (v13 : (List V27)) (v15 : Int) (o : (List V27)) : SL := (fun v => ⟨[(4, (.val .own (0 : Nat))), (5, (.val .own (1 : Nat))), (6, (.val T2 (len v13))), (8, (.val .ptr ⟨2, 0, (0 : Int), 0, 0⟩)), (20, (.val T2 v11)), (24, (.val .own (0 : Nat))), (25, (.val T2 (len v12))), (26, (.val T2 v15))], [(0, .row T27 v12 28), (1, .row T27 v 28), (2, .cells T27 (el Z27 v12 v15))]⟩) o
noncomputable def poly_Hull.c3x (o : (List V27)) : Ex := (fun _ => (.exit 4)) o
noncomputable def poly_Hull.c3n (o : (List V27)) : Nat := (fun _ => 3) o
theorem poly_Hull.c3_ok (k : Nat) (v11 : Int) (v12 : (List V27)) (v13 : (List V27)) (v15 : Int) : ∀ (n : Nat) (v19 : (List V27)), Owp (poly_Hull.c3 k v12 v13 v15 n v19) fun o => LTriple PR (poly_Hull.cx k) (sub poly_Hull.code [1, 1, 1, 1, 1, 1, 1, 0, 1, 0, 0, 1, 1, 0, 0, 1, 0, 1, 0, 0, 1, 1, 0, 0, 1, 0, 0, 0]) 3 (poly_Hull.c3p v11 v12 v13 v15 v19) (poly_Hull.c3x o) (poly_Hull.c3n o) (poly_Hull.c3q v11 v12 v13 v15 o)
  | 0, _ => fun _ h => nomatch h
  | n + 1, v19 => Owp.of (poly_Hull.c3.eq_2 ..) (
   Owp.bnd fun o25 e26 =>
   Owp.bif (fun e27 =>
   Owp.req fun h28 =>
    fun y hy => loop_back (poly_Hull.cok k) hmix 3 (poly_Hull.c3p v11 v12 v13 v15 (tk v19 (isub .i64 (len v19) (1 : Int)))) [.cutR 15 ⟨[], [(0, 0), (1, 1), (2, 2)], (poly_Hull.c4p v11 v12 v13 v15 v19), 3, .normal, (poly_Hull.c4q v11 v12 v13 v15 v19 o25), 3⟩, .dec true] [] [(0, 0), (1, 7), (2, 2)] (via (cutP trivial [(0, 0), (1, 1), (2, 2)] (poly_Hull.c4p v11 v12 v13 v15 v19) (((poly_Hull.c4_ok k v11 v12 v13 v15 v19).ap e26)) (finP (And.intro (And.intro trivial e27) h28) .normal [(0, 0), (1, 7), (2, 2)] (poly_Hull.c3p v11 v12 v13 v15 (tk v19 (isub .i64 (len v19) (1 : Int)))))) (by kernel_rfl)) ((poly_Hull.c3_ok k v11 v12 v13 v15 n (tk v19 (isub .i64 (len v19) (1 : Int)))).ap hy)) (fun e27 =>
   Owp.some (loop_exit (poly_Hull.cok k) hmix [.cutR 15 ⟨[], [(0, 0), (1, 1), (2, 2)], (poly_Hull.c4p v11 v12 v13 v15 v19), 3, .normal, (poly_Hull.c4q v11 v12 v13 v15 v19 o25), 3⟩, .dec false] [] [(0, 0), (1, 1), (2, 2)] (exne 4) (via (cutP trivial [(0, 0), (1, 1), (2, 2)] (poly_Hull.c4p v11 v12 v13 v15 v19) (((poly_Hull.c4_ok k v11 v12 v13 v15 v19).ap e26)) (finP (And.intro trivial e27) (.exit 4) [(0, 0), (1, 1), (2, 2)] (poly_Hull.c3q v11 v12 v13 v15 v19))) (by kernel_rfl)))))
noncomputable def poly_Hull.c2p (v11 : Int) (v12 : (List V27)) (v13 : (List V27)) (v15 : Int) (v16 : (List V27)) : SL := ⟨[(4, (.val .own (0 : Nat))), (5, (.val .own (1 : Nat))), (6, (.val T2 (len v13))), (20, (.val T2 v11)), (24, (.val .own (0 : Nat))), (25, (.val T2 (len v12))), (26, (.val T2 v15))], [(0, .row T27 v12 28), (1, .row T27 v16 28)]⟩
noncomputable def poly_Hull.c2q (v11 : Int) (v12 : (List V27)) (o : (List V27)) : SL := (fun v => ⟨[(4, (.val .own (0 : Nat))), (5, (.val .own (1 : Nat))), (20, (.val T2 v11))], [(0, .row T27 v12 28), (1, .row T27 v 28)]⟩) o
noncomputable def poly_Hull.c2x (o : (List V27)) : Ex := (fun _ => (.exit 2)) o
noncomputable def poly_Hull.c2n (o : (List V27)) : Nat := (fun _ => 2) o
theorem poly_Hull.c2_ok (k : Nat) (v11 : Int) (v12 : (List V27)) (v13 : (List V27)) : ∀ (n : Nat) (v15 : Int) (v16 : (List V27)), Owp (poly_Hull.c2 k v12 v13 n v15 v16) fun o => LTriple PR (poly_Hull.cx k) (sub poly_Hull.code [1, 1, 1, 1, 1, 1, 1, 0, 1, 0, 0, 1, 1, 0, 0, 1, 0, 1, 0, 0]) 2 (poly_Hull.c2p v11 v12 v13 v15 v16) (poly_Hull.c2x o) (poly_Hull.c2n o) (poly_Hull.c2q v11 v12 o)
  | 0, _, _ => fun _ h => nomatch h
  | n + 1, v15, v16 => Owp.of (poly_Hull.c2.eq_2 ..) (
   Owp.bif (fun e17 =>
   Owp.req fun h18 =>
    Owp.bnd fun o29 e30 =>
    Owp.req fun h31 =>
    fun y hy => loop_back (poly_Hull.cok k) hmix 2 (poly_Hull.c2p v11 v12 v13 (iadd .i64 v15 (1 : Int)) (o29 ++ [(el Z27 v12 v15)])) [.dec true, .cut ⟨[], [(0, 0), (1, 1), (2, 5)], (poly_Hull.c3p v11 v12 v13 v15 v16), 3, (.exit 4), (poly_Hull.c3q v11 v12 v13 v15 o29), 3⟩, .dec true] [] [(0, 0), (1, 6)] (via (cutP (And.intro (And.intro (And.intro trivial e17) h18) h18) [(0, 0), (1, 1), (2, 5)] (poly_Hull.c3p v11 v12 v13 v15 v16) (((poly_Hull.c3_ok k v11 v12 v13 v15 k v16).ap e30).triple) (finP (And.intro trivial h31) .normal [(0, 0), (1, 6)] (poly_Hull.c2p v11 v12 v13 (iadd .i64 v15 (1 : Int)) (o29 ++ [(el Z27 v12 v15)])))) (by kernel_rfl)) ((poly_Hull.c2_ok k v11 v12 v13 n (iadd .i64 v15 (1 : Int)) (o29 ++ [(el Z27 v12 v15)])).ap hy)) (fun e17 =>
   Owp.some (loop_exit (poly_Hull.cok k) hmix [.dec false] [] [(0, 0), (1, 1)] (exne 2) (via (finP (And.intro trivial e17) (.exit 2) [(0, 0), (1, 1)] (poly_Hull.c2q v11 v12 v16)) (by kernel_rfl)))))
noncomputable def poly_Hull.c1p (v11 : Int) (v12 : (List V27)) (v13 : (List V27)) : SL := ⟨[(4, (.val .own (0 : Nat))), (5, (.val .own (1 : Nat))), (20, (.val T2 v11))], [(0, .row T27 v12 28), (1, .row T27 v13 28)]⟩
noncomputable def poly_Hull.c1q (o : (List V27)) : SL := (fun v => ⟨[(5, (.val .own (0 : Nat)))], [(0, .row T27 v 28)]⟩) o
noncomputable def poly_Hull.c1x (o : (List V27)) : Ex := (fun _ => (.exit 0)) o
noncomputable def poly_Hull.c1n (o : (List V27)) : Nat := (fun _ => 1) o
theorem poly_Hull.c1_ok (k : Nat) : ∀ (n : Nat) (v11 : Int) (v12 : (List V27)) (v13 : (List V27)), Owp (poly_Hull.c1 k n v11 v12 v13) fun o => LTriple PR (poly_Hull.cx k) (sub poly_Hull.code [1, 1, 1, 1, 1, 1, 1, 0, 1, 0, 0]) 2 (poly_Hull.c1p v11 v12 v13) (poly_Hull.c1x o) (poly_Hull.c1n o) (poly_Hull.c1q o)
  | 0, _, _, _ => fun _ h => nomatch h
  | n + 1, v11, v12, v13 => Owp.of (poly_Hull.c1.eq_2 ..) (
   Owp.bif (fun e14 =>
   Owp.bnd fun o32 e33 =>
    Owp.req fun h34 =>
    Owp.bnd fun y35 e36 =>
    fun y hy => loop_back (poly_Hull.cok k) hmix 2 (poly_Hull.c1p (iadd .i64 v11 (1 : Int)) y35 (tk o32 (imax (isub .i64 (len o32) (1 : Int)) (0 : Int)))) [.dec true, .cut ⟨[], [(0, 0), (1, 1)], (poly_Hull.c2p v11 v12 v13 (0 : Int) v13), 2, (.exit 2), (poly_Hull.c2q v11 v12 o32), 2⟩, .hres [(0, 0)] (.pair T22 .unit) (v12, ()) T22 y35] [] [(0, 0), (1, 7)] (via (cutP (And.intro trivial e14) [(0, 0), (1, 1)] (poly_Hull.c2p v11 v12 v13 (0 : Int) v13) (((poly_Hull.c2_ok k v11 v12 v13 k (0 : Int) v13).ap e33).triple) (finP (And.intro (And.intro trivial h34) (callHP (slices_Reverse.h k) [(0, 0)] (v12, ()) e36)) .normal [(0, 0), (1, 7)] (poly_Hull.c1p (iadd .i64 v11 (1 : Int)) y35 (tk o32 (imax (isub .i64 (len o32) (1 : Int)) (0 : Int)))))) (by kernel_rfl)) ((poly_Hull.c1_ok k n (iadd .i64 v11 (1 : Int)) y35 (tk o32 (imax (isub .i64 (len o32) (1 : Int)) (0 : Int)))).ap hy)) (fun e14 =>
   Owp.some (loop_exit (poly_Hull.cok k) hmix [.dec false] [] [(0, 1)] (exne 0) (via (finP (And.intro trivial e14) (.exit 0) [(0, 1)] (poly_Hull.c1q v13)) (by kernel_rfl)))))
theorem poly_Hull.way (k : Nat) (a0 : (List V27)) : Owp (poly_Hull k a0) fun y => ∃ answers cmds, exec PR (poly_Hull.cx k) poly_Hull.code 0 (entry (.pair T22 .unit) (a0, ())).st answers (Ret (poly_Hull.cx k) Try.f14 cmds (.more (.ow T27 28) (.one (.dp T2))) y) := by
  unfold poly_Hull; exact
   Owp.bif (fun e1 =>
   Owp.some (⟨[.dec true], [.own 2 T27 28], via (retP (And.intro trivial e1) (.more (.ow T27 28) (.one (.dp T2))) (([], (2 : Int)) : ((List V27) × Int))) (by kernel_rfl)⟩)) (fun e1 =>
   Owp.bnd fun y2 e3 =>
    Owp.bif (fun e4 =>
    Owp.some (⟨[.dec false, .res (.one (.dp T4)) y2, .dec true], [.own 2 T27 28], via (retP (And.intro (And.intro (And.intro trivial e1) e3) e4) (.more (.ow T27 28) (.one (.dp T2))) (([], (1 : Int)) : ((List V27) × Int))) (by kernel_rfl)⟩)) (fun e4 =>
    Owp.bnd fun y5 e6 =>
     Owp.bnd fun y7 e8 =>
     Owp.bnd fun y9 e10 =>
     Owp.bnd fun o37 e38 =>
     Owp.bif (fun e39 =>
     Owp.some (⟨[.dec false, .res (.one (.dp T4)) y2, .dec false, .res (.one (.ow T27 28)) y5, .hres [(0, 8)] (.pair T22 .unit) (y5, ()) T22 y7, .hres [(0, 8)] (.pair T22 .unit) (y7, ()) T22 y9, .cut ⟨[.own 5 T27 28], [(0, 13), (1, 17)], (poly_Hull.c1p (0 : Int) y9 []), 2, (.exit 0), (poly_Hull.c1q o37), 1⟩, .dec true], [.own 2 T27 28], via (cutP (And.intro (And.intro (And.intro (And.intro (And.intro (And.intro trivial e1) e3) e4) e6) (callHP (slices_SortFunc.h k) [(0, 8)] (y5, ()) e8)) (callHP (slices_Compact.h k) [(0, 8)] (y7, ()) e10)) [(0, 13), (1, 17)] (poly_Hull.c1p (0 : Int) y9 []) (((poly_Hull.c1_ok k k (0 : Int) y9 []).ap e38).triple) (retP (And.intro trivial e39) (.more (.ow T27 28) (.one (.dp T2))) (([], (3 : Int)) : ((List V27) × Int)))) (by kernel_rfl)⟩)) (fun e39 =>
     Owp.bif (fun e40 =>
      Owp.some (⟨[.dec false, .res (.one (.dp T4)) y2, .dec false, .res (.one (.ow T27 28)) y5, .hres [(0, 8)] (.pair T22 .unit) (y5, ()) T22 y7, .hres [(0, 8)] (.pair T22 .unit) (y7, ()) T22 y9, .cut ⟨[.own 5 T27 28], [(0, 13), (1, 17)], (poly_Hull.c1p (0 : Int) y9 []), 2, (.exit 0), (poly_Hull.c1q o37), 1⟩, .dec false, .dec true], [.own 2 T27 28], via (cutP (And.intro (And.intro (And.intro (And.intro (And.intro (And.intro trivial e1) e3) e4) e6) (callHP (slices_SortFunc.h k) [(0, 8)] (y5, ()) e8)) (callHP (slices_Compact.h k) [(0, 8)] (y7, ()) e10)) [(0, 13), (1, 17)] (poly_Hull.c1p (0 : Int) y9 []) (((poly_Hull.c1_ok k k (0 : Int) y9 []).ap e38).triple) (retP (And.intro (And.intro trivial e39) e40) (.more (.ow T27 28) (.one (.dp T2))) (([], (6 : Int)) : ((List V27) × Int)))) (by kernel_rfl)⟩)) (fun e40 =>
      Owp.some (⟨[.dec false, .res (.one (.dp T4)) y2, .dec false, .res (.one (.ow T27 28)) y5, .hres [(0, 8)] (.pair T22 .unit) (y5, ()) T22 y7, .hres [(0, 8)] (.pair T22 .unit) (y7, ()) T22 y9, .cut ⟨[.own 5 T27 28], [(0, 13), (1, 17)], (poly_Hull.c1p (0 : Int) y9 []), 2, (.exit 0), (poly_Hull.c1q o37), 1⟩, .dec false, .dec false], [], via (cutP (And.intro (And.intro (And.intro (And.intro (And.intro (And.intro trivial e1) e3) e4) e6) (callHP (slices_SortFunc.h k) [(0, 8)] (y5, ()) e8)) (callHP (slices_Compact.h k) [(0, 8)] (y7, ()) e10)) [(0, 13), (1, 17)] (poly_Hull.c1p (0 : Int) y9 []) (((poly_Hull.c1_ok k k (0 : Int) y9 []).ap e38).triple) (retP (And.intro (And.intro trivial e39) e40) (.more (.ow T27 28) (.one (.dp T2))) ((o37, (0 : Int)) : ((List V27) × Int)))) (by kernel_rfl)⟩)))))
theorem poly_Hull.ok (k : Nat) : FnOk PR 14 (poly_Hull.sp k) :=
  fn_ok (poly_Hull.cok k) hmix Try.func14 (code := poly_Hull.code) (by kernel_rfl) (by kernel_rfl) (by kernel_rfl) rfl rfl (by kernel_rfl) (by kernel_rfl) (by kernel_rfl) (fun x => Nat.le_of_ble_eq_true (by kernel_rfl)) fun x y hy => (poly_Hull.way k x.1).ap hy

/-! slices.Equal[[]tourney/api.Vec,tourney/api.Vec] -/
noncomputable def slices_Equal.code : Code := Func.cd Try.f16
noncomputable def slices_Equal.c1 (k : Nat) (a0 : (List V27)) (a1 : (List V27)) : Nat → Int → Option (Unit ⊕ Unit)
  | 0, _ => none
  | n + 1, v2 =>
   bif' (ilt v2 (len a0))
   (req (inL v2 a0) <|
    req (inL v2 a1) <|
    bif' (Ty.eqb T27 (el Z27 a0 v2) (el Z27 a1 v2))
    (slices_Equal.c1 k a0 a1 n (iadd .i64 v2 1))
    (some (.inl ())))
   (some (.inr ()))
noncomputable def slices_Equal (k : Nat) (a0 : (List V27)) (a1 : (List V27)) : Option Bool :=
  bif' (ine (len a0) (len a1))
  (some false)
  (bnd (slices_Equal.c1 k a0 a1 k 0) fun o7 =>
   two o7 (fun y9 =>
   some false) (fun y11 =>
   some true))
noncomputable def slices_Equal.sp (k : Nat) : Go.Sx.Spec := ⟨(.pair T22 (.pair T22 .unit)), (.one (.dp T4)), fun x => slices_Equal k x.1 x.2.1, false⟩
noncomputable def slices_Equal.cx (k : Nat) : Go.Sx.Ctx := ⟨tys, [], eqs, 26, 0, [], false⟩
theorem slices_Equal.cok (k : Nat) : CtxOk PR (slices_Equal.cx k) := ctx_ok tysOk eqsOk FnsOk.nil HsOk.nil
noncomputable def slices_Equal.c1p (a0 : (List V27)) (a1 : (List V27)) (v2 : Int) : SL := ⟨[(0, (.val T22 a0)), (1, (.val T22 a1)), (12, (.val T2 (len a0))), (13, (.val T2 v2))], []⟩
noncomputable def slices_Equal.c1q (o : Unit ⊕ Unit) : SL := (fun o => two o (fun v => ⟨[(4, (.val T4 false))], []⟩) (fun v => ⟨[], []⟩)) o
noncomputable def slices_Equal.c1x (o : Unit ⊕ Unit) : Ex := (fun o => two o (fun _ => .ret) (fun _ => (.exit 0))) o
noncomputable def slices_Equal.c1n (o : Unit ⊕ Unit) : Nat := (fun o => two o (fun _ => 0) (fun _ => 0)) o
theorem slices_Equal.c1_ok (k : Nat) (a0 : (List V27)) (a1 : (List V27)) : ∀ (n : Nat) (v2 : Int), Owp (slices_Equal.c1 k a0 a1 n v2) fun o => LTriple PR (slices_Equal.cx k) (sub slices_Equal.code [1, 1, 0, 1, 0, 0]) 0 (slices_Equal.c1p a0 a1 v2) (slices_Equal.c1x o) (slices_Equal.c1n o) (slices_Equal.c1q o)
  | 0, _ => fun _ h => nomatch h
  | n + 1, v2 => Owp.of (slices_Equal.c1.eq_2 ..) (
   Owp.bif (fun e3 =>
   Owp.req fun h4 =>
    Owp.req fun h5 =>
    Owp.bif (fun e6 =>
    fun y hy => loop_back (slices_Equal.cok k) hmix 0 (slices_Equal.c1p a0 a1 (iadd .i64 v2 (1 : Int))) [.dec true, .dec false] [] [] (via (finP (And.intro (And.intro (And.intro (And.intro trivial e3) h4) h5) (congrArg not e6)) .normal [] (slices_Equal.c1p a0 a1 (iadd .i64 v2 (1 : Int)))) (by kernel_rfl)) ((slices_Equal.c1_ok k a0 a1 n (iadd .i64 v2 (1 : Int))).ap hy)) (fun e6 =>
    Owp.some (loop_exit (slices_Equal.cok k) hmix [.dec true, .dec true] [] [] exne_ret (via (finP (And.intro (And.intro (And.intro (And.intro trivial e3) h4) h5) (congrArg not e6)) .ret [] (slices_Equal.c1q (.inl ()))) (by kernel_rfl))))) (fun e3 =>
   Owp.some (loop_exit (slices_Equal.cok k) hmix [.dec false] [] [] (exne 0) (via (finP (And.intro trivial e3) (.exit 0) [] (slices_Equal.c1q (.inr ()))) (by kernel_rfl)))))
theorem slices_Equal.way (k : Nat) (a0 : (List V27)) (a1 : (List V27)) : Owp (slices_Equal k a0 a1) fun y => ∃ answers cmds, exec PR (slices_Equal.cx k) slices_Equal.code 0 (entry (.pair T22 (.pair T22 .unit)) (a0, a1, ())).st answers (Ret (slices_Equal.cx k) Try.f16 cmds (.one (.dp T4)) y) := by
  unfold slices_Equal; exact
   Owp.bif (fun e1 =>
   Owp.some (⟨[.dec true], [], via (retP (And.intro trivial e1) (.one (.dp T4)) (false : Bool)) (by kernel_rfl)⟩)) (fun e1 =>
   Owp.bnd fun o7 e8 =>
    Owp.two (fun y9 e10 =>
    Owp.some (⟨[.dec false, .cut ⟨[], [], (slices_Equal.c1p a0 a1 (0 : Int)), 0, .ret, (slices_Equal.c1q (.inl ())), 0⟩], [], via (cutP (And.intro trivial e1) [] (slices_Equal.c1p a0 a1 (0 : Int)) (((slices_Equal.c1_ok k a0 a1 k (0 : Int)).ap (e8.trans (congrArg some e10))).triple) (retP trivial (.one (.dp T4)) (false : Bool))) (by kernel_rfl)⟩)) (fun y11 e12 =>
    Owp.some (⟨[.dec false, .cut ⟨[], [], (slices_Equal.c1p a0 a1 (0 : Int)), 0, (.exit 0), (slices_Equal.c1q (.inr ())), 0⟩], [], via (cutP (And.intro trivial e1) [] (slices_Equal.c1p a0 a1 (0 : Int)) (((slices_Equal.c1_ok k a0 a1 k (0 : Int)).ap (e8.trans (congrArg some e12))).triple) (retP trivial (.one (.dp T4)) (true : Bool))) (by kernel_rfl)⟩)))
theorem slices_Equal.ok (k : Nat) : FnOk PR 16 (slices_Equal.sp k) :=
  fn_ok (slices_Equal.cok k) hmix Try.func16 (code := slices_Equal.code) (by kernel_rfl) (by kernel_rfl) (by kernel_rfl) rfl rfl (by kernel_rfl) (by kernel_rfl) (by kernel_rfl) (fun x => Nat.le_of_ble_eq_true (by kernel_rfl)) fun x y hy => (slices_Equal.way k x.1 x.2.1).ap hy

end Go.Proofs.T1
