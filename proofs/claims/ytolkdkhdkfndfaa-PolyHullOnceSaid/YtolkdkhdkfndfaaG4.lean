import Derived.Test.YtolkdkhdkfndfaaG0
import Derived.Test.YtolkdkhdkfndfaaG1
import Derived.Test.YtolkdkhdkfndfaaG2
namespace Go.Proofs.T1
open Go Go.Sx Go.Proofs
set_option maxRecDepth 100000
set_option linter.unusedVariables false
/-! tourney/tourkeep2.place -/
noncomputable def tourkeep2_place.code : Code := Func.cd Try.f18
noncomputable def tourkeep2_place (k : Nat) (a0 : Int) (a1 : Int) : Option V27 :=
  bnd (tourmake_Below k a0 1572864) fun y1 =>
  bnd (tourmake_Below k a1 1572864) fun y3 =>
  some ((isub .i64 y1 786432), (isub .i64 y3 786432), ())
noncomputable def tourkeep2_place.sp (k : Nat) : Go.Sx.Spec := ⟨T27, (.one (.dp T27)), fun x => tourkeep2_place k x.1 x.2.1, false⟩
noncomputable def tourkeep2_place.cx (k : Nat) : Go.Sx.Ctx := ⟨tys, [(82, tourmake_Below.sp k)], eqs, 12, 0, [], false⟩
theorem tourkeep2_place.cok (k : Nat) : CtxOk PR (tourkeep2_place.cx k) := ctx_ok tysOk eqsOk (FnsOk.cons (tourmake_Below.ok k) FnsOk.nil) HsOk.nil
theorem tourkeep2_place.way (k : Nat) (a0 : Int) (a1 : Int) : Owp (tourkeep2_place k a0 a1) fun y => ∃ answers cmds, exec PR (tourkeep2_place.cx k) tourkeep2_place.code 0 (entry T27 (a0, a1, ())).st answers (Ret (tourkeep2_place.cx k) Try.f18 cmds (.one (.dp T27)) y) := by
  unfold tourkeep2_place; exact
   Owp.bnd fun y1 e2 =>
   Owp.bnd fun y3 e4 =>
   Owp.some (⟨[.res (.one (.dp T2)) y1, .res (.one (.dp T2)) y3], [], via (retP (And.intro (And.intro trivial e2) e4) (.one (.dp T27)) (((isub .i64 y1 (786432 : Int)), (isub .i64 y3 (786432 : Int)), ()) : V27)) (by kernel_rfl)⟩)
theorem tourkeep2_place.ok (k : Nat) : FnOk PR 18 (tourkeep2_place.sp k) :=
  fn_ok (tourkeep2_place.cok k) hmix Try.func18 (code := tourkeep2_place.code) (by kernel_rfl) (by kernel_rfl) (by kernel_rfl) rfl rfl (by kernel_rfl) (by kernel_rfl) (by kernel_rfl) (fun x => Nat.le_of_ble_eq_true (by kernel_rfl)) fun x y hy => (tourkeep2_place.way k x.1 x.2.1).ap hy

/-! tourney/tourkeep2.square -/
noncomputable def tourkeep2_square.code : Code := Func.cd Try.f19
noncomputable def tourkeep2_square (k : Nat) (a0 : Int) (a1 : Int) (a2 : Int) : Option (List V27) :=
  some [((isub .i64 (imul .i64 a0 65536) (imul .i64 a2 65536)), (isub .i64 (imul .i64 a1 65536) (imul .i64 a2 65536)), ()), ((iadd .i64 (imul .i64 a0 65536) (imul .i64 a2 65536)), (isub .i64 (imul .i64 a1 65536) (imul .i64 a2 65536)), ()), ((iadd .i64 (imul .i64 a0 65536) (imul .i64 a2 65536)), (iadd .i64 (imul .i64 a1 65536) (imul .i64 a2 65536)), ()), ((isub .i64 (imul .i64 a0 65536) (imul .i64 a2 65536)), (iadd .i64 (imul .i64 a1 65536) (imul .i64 a2 65536)), ())]
noncomputable def tourkeep2_square.sp (k : Nat) : Go.Sx.Spec := ⟨(.pair T2 T27), (.one (.ow T27 28)), fun x => tourkeep2_square k x.1 x.2.1 x.2.2.1, false⟩
noncomputable def tourkeep2_square.cx (k : Nat) : Go.Sx.Ctx := ⟨tys, [], eqs, 42, 0, [], false⟩
theorem tourkeep2_square.cok (k : Nat) : CtxOk PR (tourkeep2_square.cx k) := ctx_ok tysOk eqsOk FnsOk.nil HsOk.nil
theorem tourkeep2_square.way (k : Nat) (a0 : Int) (a1 : Int) (a2 : Int) : Owp (tourkeep2_square k a0 a1 a2) fun y => ∃ answers cmds, exec PR (tourkeep2_square.cx k) tourkeep2_square.code 0 (entry (.pair T2 T27) (a0, a1, a2, ())).st answers (Ret (tourkeep2_square.cx k) Try.f19 cmds (.one (.ow T27 28)) y) := by
  unfold tourkeep2_square; exact
   Owp.some (⟨[.dec true], [], via (retP trivial (.one (.ow T27 28)) ([((isub .i64 (imul .i64 a0 (65536 : Int)) (imul .i64 a2 (65536 : Int))), (isub .i64 (imul .i64 a1 (65536 : Int)) (imul .i64 a2 (65536 : Int))), ()), ((iadd .i64 (imul .i64 a0 (65536 : Int)) (imul .i64 a2 (65536 : Int))), (isub .i64 (imul .i64 a1 (65536 : Int)) (imul .i64 a2 (65536 : Int))), ()), ((iadd .i64 (imul .i64 a0 (65536 : Int)) (imul .i64 a2 (65536 : Int))), (iadd .i64 (imul .i64 a1 (65536 : Int)) (imul .i64 a2 (65536 : Int))), ()), ((isub .i64 (imul .i64 a0 (65536 : Int)) (imul .i64 a2 (65536 : Int))), (iadd .i64 (imul .i64 a1 (65536 : Int)) (imul .i64 a2 (65536 : Int))), ())] : (List V27))) (by kernel_rfl)⟩)
theorem tourkeep2_square.ok (k : Nat) : FnOk PR 19 (tourkeep2_square.sp k) :=
  fn_ok (tourkeep2_square.cok k) hmix Try.func19 (code := tourkeep2_square.code) (by kernel_rfl) (by kernel_rfl) (by kernel_rfl) rfl rfl (by kernel_rfl) (by kernel_rfl) (by kernel_rfl) (fun x => Nat.le_of_ble_eq_true (by kernel_rfl)) fun x y hy => (tourkeep2_square.way k x.1 x.2.1 x.2.2.1).ap hy

/-! tourney/tourkeep2.works -/
noncomputable def tourkeep2_works.code : Code := Func.cd Try.f20
noncomputable def tourkeep2_works (k : Nat) : Option Bool :=
  bnd (tourkeep2_square k 0 0 1) fun y1 =>
  bnd (poly_Area k y1) fun y3 =>
  bif' (ieq y3.2 0)
  (bif' (ieq y3.1 34359738368)
   (bnd (tourkeep2_square k 0 0 1) fun y7 =>
    bnd (poly_Support k y7 (1, (-1), ())) fun y9 =>
    bif' (ieq y9 1)
    (bnd (tourkeep2_square k 0 0 1) fun y12 =>
     bnd (poly_Has k y12 (0, 0, ())) fun y14 =>
     some y14)
    (some false))
   (some false))
  (some false)
noncomputable def tourkeep2_works.sp (k : Nat) : Go.Sx.Spec := ⟨.unit, (.one (.dp T4)), fun x => tourkeep2_works k, false⟩
noncomputable def tourkeep2_works.cx (k : Nat) : Go.Sx.Ctx := ⟨tys, [(19, tourkeep2_square.sp k), (96, poly_Area.sp k), (97, poly_Support.sp k), (21, poly_Has.sp k)], eqs, 25, 0, [], false⟩
theorem tourkeep2_works.cok (k : Nat) : CtxOk PR (tourkeep2_works.cx k) := ctx_ok tysOk eqsOk (FnsOk.cons (tourkeep2_square.ok k) (FnsOk.cons (poly_Area.ok k) (FnsOk.cons (poly_Support.ok k) (FnsOk.cons (poly_Has.ok k) FnsOk.nil)))) HsOk.nil
theorem tourkeep2_works.way (k : Nat) : Owp (tourkeep2_works k) fun y => ∃ answers cmds, exec PR (tourkeep2_works.cx k) tourkeep2_works.code 0 (entry .unit ()).st answers (Ret (tourkeep2_works.cx k) Try.f20 cmds (.one (.dp T4)) y) := by
  unfold tourkeep2_works; exact
   Owp.bnd fun y1 e2 =>
   Owp.bnd fun y3 e4 =>
   Owp.bif (fun e5 =>
   Owp.bif (fun e6 =>
    Owp.bnd fun y7 e8 =>
     Owp.bnd fun y9 e10 =>
     Owp.bif (fun e11 =>
     Owp.bnd fun y12 e13 =>
      Owp.bnd fun y14 e15 =>
      Owp.some (⟨[.res (.one (.ow T27 28)) y1, .res (.more (.dp T2) (.one (.dp T2))) y3, .dec true, .dec true, .dec true, .dec true, .res (.one (.ow T27 28)) y7, .dec true, .dec true, .res (.one (.dp T2)) y9, .dec true, .dec true, .dec true, .res (.one (.ow T27 28)) y12, .dec true, .dec true, .res (.one (.dp T4)) y14, .dec true], [], via (retP (And.intro (And.intro (And.intro (And.intro (And.intro (And.intro (And.intro (And.intro (And.intro (And.intro (And.intro (And.intro (And.intro (And.intro trivial e2) e4) e5) e5) e5) (And.intro e6 e8)) e6) (And.intro e6 e10)) e6) e6) (And.intro e11 e13)) e11) (And.intro e11 e15)) e11) (.one (.dp T4)) (y14 : Bool)) (by kernel_rfl)⟩)) (fun e11 =>
     Owp.some (⟨[.res (.one (.ow T27 28)) y1, .res (.more (.dp T2) (.one (.dp T2))) y3, .dec true, .dec true, .dec true, .dec true, .res (.one (.ow T27 28)) y7, .dec true, .dec true, .res (.one (.dp T2)) y9, .dec true, .dec true, .dec false, .dec true, .dec false, .dec false, .dec true, .dec false], [], via (retP (And.intro (And.intro (And.intro (And.intro (And.intro (And.intro (And.intro (And.intro (And.intro (And.intro (And.intro (And.intro (And.intro (And.intro trivial e2) e4) e5) e5) e5) (And.intro e6 e8)) e6) (And.intro e6 e10)) e6) e6) e11) e11) e11) e11) (.one (.dp T4)) (false : Bool)) (by kernel_rfl)⟩))) (fun e6 =>
    Owp.some (⟨[.res (.one (.ow T27 28)) y1, .res (.more (.dp T2) (.one (.dp T2))) y3, .dec true, .dec true, .dec true, .dec false, .dec true, .dec false, .dec false, .dec true, .dec false, .dec false, .dec false, .dec true, .dec false, .dec false, .dec true, .dec false], [], via (retP (And.intro (And.intro (And.intro (And.intro (And.intro (And.intro (And.intro (And.intro (And.intro (And.intro (And.intro (And.intro (And.intro (And.intro trivial e2) e4) e5) e5) e5) e6) e6) e6) e6) e6) ff) ff) ff) ff) (.one (.dp T4)) (false : Bool)) (by kernel_rfl)⟩))) (fun e5 =>
   Owp.some (⟨[.res (.one (.ow T27 28)) y1, .res (.more (.dp T2) (.one (.dp T2))) y3, .dec false, .dec false, .dec false, .dec false, .dec true, .dec false, .dec false, .dec true, .dec false, .dec false, .dec false, .dec true, .dec false, .dec false, .dec true, .dec false], [], via (retP (And.intro (And.intro (And.intro (And.intro (And.intro (And.intro (And.intro (And.intro (And.intro (And.intro (And.intro (And.intro (And.intro (And.intro trivial e2) e4) e5) e5) e5) ff) ff) ff) ff) ff) ff) ff) ff) ff) (.one (.dp T4)) (false : Bool)) (by kernel_rfl)⟩))
theorem tourkeep2_works.ok (k : Nat) : FnOk PR 20 (tourkeep2_works.sp k) :=
  fn_ok (tourkeep2_works.cok k) hmix Try.func20 (code := tourkeep2_works.code) (by kernel_rfl) (by kernel_rfl) (by kernel_rfl) rfl rfl (by kernel_rfl) (by kernel_rfl) (by kernel_rfl) (fun x => Nat.le_of_ble_eq_true (by kernel_rfl)) fun x y hy => (tourkeep2_works.way k).ap hy

/-! tourney/tourkeep2.PolyHullOnce$1 -/
noncomputable def tourkeep2_PolyHullOnce_1.code : Code := Func.cd Try.f24
noncomputable def tourkeep2_PolyHullOnce_1 (k : Nat) (a0 : V27) (a1 : (List V27)) : Option Bool :=
  bnd (slices_Contains k a1 a0) fun y1 =>
  some (!y1)
noncomputable def tourkeep2_PolyHullOnce_1.sp (k : Nat) : Go.Sx.Spec := ⟨(.pair T27 (.pair (.ref T22) .unit)), (.one (.dp T4)), fun x => tourkeep2_PolyHullOnce_1 k x.1 x.2.1, false⟩
noncomputable def tourkeep2_PolyHullOnce_1.cx (k : Nat) : Go.Sx.Ctx := ⟨tys, [(25, slices_Contains.sp k)], eqs, 8, 0, [], false⟩
theorem tourkeep2_PolyHullOnce_1.cok (k : Nat) : CtxOk PR (tourkeep2_PolyHullOnce_1.cx k) := ctx_ok tysOk eqsOk (FnsOk.cons (slices_Contains.ok k) FnsOk.nil) HsOk.nil
theorem tourkeep2_PolyHullOnce_1.way (k : Nat) (a0 : V27) (a1 : (List V27)) : Owp (tourkeep2_PolyHullOnce_1 k a0 a1) fun y => ∃ answers cmds, exec PR (tourkeep2_PolyHullOnce_1.cx k) tourkeep2_PolyHullOnce_1.code 0 (entry (.pair T27 (.pair (.ref T22) .unit)) (a0, a1, ())).st answers (Ret (tourkeep2_PolyHullOnce_1.cx k) Try.f24 cmds (.one (.dp T4)) y) := by
  unfold tourkeep2_PolyHullOnce_1; exact
   Owp.bnd fun y1 e2 =>
   Owp.some (⟨[.res (.one (.dp T4)) y1], [], via (retP (And.intro trivial e2) (.one (.dp T4)) ((!y1) : Bool)) (by kernel_rfl)⟩)
theorem tourkeep2_PolyHullOnce_1.ok (k : Nat) : FnOk PR 24 (tourkeep2_PolyHullOnce_1.sp k) :=
  fn_ok (tourkeep2_PolyHullOnce_1.cok k) hmix Try.func24 (code := tourkeep2_PolyHullOnce_1.code) (by kernel_rfl) (by kernel_rfl) (by kernel_rfl) rfl rfl (by kernel_rfl) (by kernel_rfl) (by kernel_rfl) (fun x => Nat.le_of_ble_eq_true (by kernel_rfl)) fun x y hy => (tourkeep2_PolyHullOnce_1.way k x.1 x.2.1).ap hy

/-! tourney/tourkeep2.PolyHullOnce -/
noncomputable def tourkeep2_PolyHullOnce.code : Code := Func.cd Try.f4
noncomputable def tourkeep2_PolyHullOnce.c2 (k : Nat) (a0 : (List Int)) (v1 : Int) (v2 : (List V27)) : Option (Bool) :=
  bif' (ilt (iadd .i64 v1 1) (len a0))
  (some (ilt (len v2) 20))
  (some false)
noncomputable def tourkeep2_PolyHullOnce.c1 (k : Nat) (a0 : (List Int)) : Nat → Int → (List V27) → Option ((List V27))
  | 0, _, _ => none
  | n + 1, v1, v2 =>
   bnd (tourkeep2_PolyHullOnce.c2 k a0 v1 v2) fun o4 =>
   bif' o4
   (req (inL v1 a0) <|
    req (inL (iadd .i64 v1 1) a0) <|
    bnd (tourkeep2_place k (el 0 a0 v1) (el 0 a0 (iadd .i64 v1 1))) fun y9 =>
    req (room 16 v2 [y9]) <|
    tourkeep2_PolyHullOnce.c1 k a0 n (iadd .i64 v1 2) (v2 ++ [y9]))
   (some v2)
noncomputable def tourkeep2_PolyHullOnce.c3 (k : Nat) (y17 : ((List V27) × Int)) : Option (Bool) :=
  bnd (tourkeep2_works k) fun y19 =>
  bif' y19
  (bif' (ine y17.2 0)
   (some true)
   (bnd (tourkeep2_square k 0 0 1) fun y23 =>
    bnd (slices_Equal k y17.1 y23) fun y25 =>
    some (!y25)))
  (some true)
noncomputable def tourkeep2_PolyHullOnce.c4 (k : Nat) (o12 : (List V27)) (y30 : ((List V27) × Int)) : Nat → Int → Option (Unit ⊕ Unit)
  | 0, _ => none
  | n + 1, v33 =>
   bif' (ilt v33 (len o12))
   (req (inL v33 o12) <|
    bnd (poly_Has k y30.1 (el Z27 o12 v33)) fun y36 =>
    bif' y36
    (tourkeep2_PolyHullOnce.c4 k o12 y30 n (iadd .i64 v33 1))
    (some (.inl ())))
   (some (.inr ()))
noncomputable def tourkeep2_PolyHullOnce (k : Nat) (a0 : (List Int)) : Option Bool :=
  bnd (tourkeep2_PolyHullOnce.c1 k a0 k 0 []) fun o12 =>
  bnd (tourkeep2_square k 0 0 1) fun y14 =>
  req (room 16 y14 [(0, 0, ())]) <|
  bnd (poly_Hull k (y14 ++ [(0, 0, ())])) fun y17 =>
  bnd (tourkeep2_PolyHullOnce.c3 k y17) fun o27 =>
  bif' o27
  (some false)
  (bnd (poly_Hull k o12) fun y30 =>
   bif' (ine y30.2 0)
   (some (ieq (len y30.1) 0))
   (bnd (tourkeep2_PolyHullOnce.c4 k o12 y30 k 0) fun o39 =>
    two o39 (fun y41 =>
    some false) (fun y43 =>
    bnd (poly_Hull k y30.1) fun y45 =>
     bnd (poly_Check k y30.1) fun y47 =>
     bif' (ieq y47 0)
     (bif' (ieq y45.2 0)
      (bnd (slices_Equal k y45.1 y30.1) fun y51 =>
       bif' y51
       (bnd (slices_ContainsFunc k y30.1 (fun x : (V27 × Unit) => tourkeep2_PolyHullOnce_1 k (x.1) o12)) fun y54 =>
        some (!y54))
       (some false))
      (some false))
     (some false))))
noncomputable def tourkeep2_PolyHullOnce.sp (k : Nat) : Go.Sx.Spec := ⟨(.pair T31 .unit), (.one (.dp T4)), fun x => tourkeep2_PolyHullOnce k x.1, false⟩
noncomputable def tourkeep2_PolyHullOnce.cx (k : Nat) : Go.Sx.Ctx := ⟨tys, [(18, tourkeep2_place.sp k), (19, tourkeep2_square.sp k), (14, poly_Hull.sp k), (20, tourkeep2_works.sp k), (16, slices_Equal.sp k), (21, poly_Has.sp k), (22, poly_Check.sp k), (23, slices_ContainsFunc.sp k), (24, tourkeep2_PolyHullOnce_1.sp k)], eqs, 100, 0, [], true⟩
theorem tourkeep2_PolyHullOnce.cok (k : Nat) : CtxOk PR (tourkeep2_PolyHullOnce.cx k) := ctx_ok tysOk eqsOk (FnsOk.cons (tourkeep2_place.ok k) (FnsOk.cons (tourkeep2_square.ok k) (FnsOk.cons (poly_Hull.ok k) (FnsOk.cons (tourkeep2_works.ok k) (FnsOk.cons (slices_Equal.ok k) (FnsOk.cons (poly_Has.ok k) (FnsOk.cons (poly_Check.ok k) (FnsOk.cons (slices_ContainsFunc.ok k) (FnsOk.cons (tourkeep2_PolyHullOnce_1.ok k) FnsOk.nil))))))))) HsOk.nil
noncomputable def tourkeep2_PolyHullOnce.c2p (a0 : (List Int)) (v1 : Int) (v2 : (List V27)) : SL := ⟨[(0, (.val T31 a0)), (3, (.val .ptr ⟨0, 0, (0 : Int), 0, 0⟩)), (4, (.val T2 v1))], [(0, .cells .own (1 : Nat)), (1, .row T27 v2 28)]⟩
noncomputable def tourkeep2_PolyHullOnce.c2q (a0 : (List Int)) (v1 : Int) (v2 : (List V27)) (o : Bool) : SL := (fun v => ⟨[(0, (.val T31 a0)), (3, (.val .ptr ⟨0, 0, (0 : Int), 0, 0⟩)), (4, (.val T2 v1)), (20, (.val T4 v))], [(0, .cells .own (1 : Nat)), (1, .row T27 v2 28)]⟩) o
noncomputable def tourkeep2_PolyHullOnce.c2x (o : Bool) : Ex := (fun _ => .normal) o
noncomputable def tourkeep2_PolyHullOnce.c2n (o : Bool) : Nat := (fun _ => 2) o
theorem tourkeep2_PolyHullOnce.c2_ok (k : Nat) (a0 : (List Int)) (v1 : Int) (v2 : (List V27)) : Owp (tourkeep2_PolyHullOnce.c2 k a0 v1 v2) fun o => Triple PR (tourkeep2_PolyHullOnce.cx k) (sub tourkeep2_PolyHullOnce.code [1, 1, 0, 1, 0, 0, 0, 0]) 2 (tourkeep2_PolyHullOnce.c2p a0 v1 v2) (tourkeep2_PolyHullOnce.c2x o) (tourkeep2_PolyHullOnce.c2n o) (tourkeep2_PolyHullOnce.c2q a0 v1 v2 o) := by
  unfold tourkeep2_PolyHullOnce.c2; exact
   Owp.bif (fun e3 =>
   Owp.some (triple_way (tourkeep2_PolyHullOnce.cok k) hmix [.dec true, .dec true, .dec true, .dec true] [] [(0, 0), (1, 1)] (via (finP (And.intro (And.intro (And.intro (And.intro trivial e3) e3) e3) e3) .normal [(0, 0), (1, 1)] (tourkeep2_PolyHullOnce.c2q a0 v1 v2 (ilt (len v2) (20 : Int)))) (by kernel_rfl)))) (fun e3 =>
   Owp.some (triple_way (tourkeep2_PolyHullOnce.cok k) hmix [.dec false, .dec false, .dec false, .dec false] [] [(0, 0), (1, 1)] (via (finP (And.intro (And.intro (And.intro (And.intro trivial e3) e3) e3) e3) .normal [(0, 0), (1, 1)] (tourkeep2_PolyHullOnce.c2q a0 v1 v2 false)) (by kernel_rfl))))
noncomputable def tourkeep2_PolyHullOnce.c1p (a0 : (List Int)) (v1 : Int) (v2 : (List V27)) : SL := ⟨[(0, (.val T31 a0)), (3, (.val .ptr ⟨0, 0, (0 : Int), 0, 0⟩)), (4, (.val T2 v1))], [(0, .cells .own (1 : Nat)), (1, .row T27 v2 28)]⟩
noncomputable def tourkeep2_PolyHullOnce.c1q (o : (List V27)) : SL := (fun v => ⟨[(3, (.val .ptr ⟨0, 0, (0 : Int), 0, 0⟩))], [(0, .cells T22 v)]⟩) o
noncomputable def tourkeep2_PolyHullOnce.c1x (o : (List V27)) : Ex := (fun _ => (.exit 0)) o
noncomputable def tourkeep2_PolyHullOnce.c1n (o : (List V27)) : Nat := (fun _ => 1) o
theorem tourkeep2_PolyHullOnce.c1_ok (k : Nat) (a0 : (List Int)) : ∀ (n : Nat) (v1 : Int) (v2 : (List V27)), Owp (tourkeep2_PolyHullOnce.c1 k a0 n v1 v2) fun o => LTriple PR (tourkeep2_PolyHullOnce.cx k) (sub tourkeep2_PolyHullOnce.code [1, 1, 0, 1, 0, 0]) 2 (tourkeep2_PolyHullOnce.c1p a0 v1 v2) (tourkeep2_PolyHullOnce.c1x o) (tourkeep2_PolyHullOnce.c1n o) (tourkeep2_PolyHullOnce.c1q o)
  | 0, _, _ => fun _ h => nomatch h
  | n + 1, v1, v2 => Owp.of (tourkeep2_PolyHullOnce.c1.eq_2 ..) (
   Owp.bnd fun o4 e5 =>
   Owp.bif (fun e6 =>
   Owp.req fun h7 =>
    Owp.req fun h8 =>
    Owp.bnd fun y9 e10 =>
    Owp.req fun h11 =>
    fun y hy => loop_back (tourkeep2_PolyHullOnce.cok k) hmix 2 (tourkeep2_PolyHullOnce.c1p a0 (iadd .i64 v1 (2 : Int)) (v2 ++ [y9])) [.cutR 3 ⟨[], [(0, 0), (1, 1)], (tourkeep2_PolyHullOnce.c2p a0 v1 v2), 2, .normal, (tourkeep2_PolyHullOnce.c2q a0 v1 v2 o4), 2⟩, .dec true, .res (.one (.dp T27)) y9, .dec true] [] [(0, 0), (1, 14)] (via (cutP trivial [(0, 0), (1, 1)] (tourkeep2_PolyHullOnce.c2p a0 v1 v2) (((tourkeep2_PolyHullOnce.c2_ok k a0 v1 v2).ap e5)) (finP (And.intro (And.intro (And.intro (And.intro (And.intro trivial e6) h7) h8) e10) h11) .normal [(0, 0), (1, 14)] (tourkeep2_PolyHullOnce.c1p a0 (iadd .i64 v1 (2 : Int)) (v2 ++ [y9])))) (by kernel_rfl)) ((tourkeep2_PolyHullOnce.c1_ok k a0 n (iadd .i64 v1 (2 : Int)) (v2 ++ [y9])).ap hy)) (fun e6 =>
   Owp.some (loop_exit (tourkeep2_PolyHullOnce.cok k) hmix [.cutR 3 ⟨[], [(0, 0), (1, 1)], (tourkeep2_PolyHullOnce.c2p a0 v1 v2), 2, .normal, (tourkeep2_PolyHullOnce.c2q a0 v1 v2 o4), 2⟩, .dec false] [.frzF 0 0] [(0, 0)] (exne 0) (via (cutP trivial [(0, 0), (1, 1)] (tourkeep2_PolyHullOnce.c2p a0 v1 v2) (((tourkeep2_PolyHullOnce.c2_ok k a0 v1 v2).ap e5)) (finP (And.intro trivial e6) (.exit 0) [(0, 0)] (tourkeep2_PolyHullOnce.c1q v2))) (by kernel_rfl)))))
noncomputable def tourkeep2_PolyHullOnce.c3p (o12 : (List V27)) (y17 : ((List V27) × Int)) : SL := ⟨[(3, (.val .ptr ⟨0, 0, (0 : Int), 0, 0⟩)), (5, (.val .own (1 : Nat))), (6, (.val T2 y17.2))], [(0, .cells T22 o12), (1, .row T27 y17.1 28)]⟩
noncomputable def tourkeep2_PolyHullOnce.c3q (o12 : (List V27)) (o : Bool) : SL := (fun v => ⟨[(3, (.val .ptr ⟨0, 0, (0 : Int), 0, 0⟩)), (55, (.val T4 v))], [(0, .cells T22 o12)]⟩) o
noncomputable def tourkeep2_PolyHullOnce.c3x (o : Bool) : Ex := (fun _ => .normal) o
noncomputable def tourkeep2_PolyHullOnce.c3n (o : Bool) : Nat := (fun _ => 1) o
theorem tourkeep2_PolyHullOnce.c3_ok (k : Nat) (o12 : (List V27)) (y17 : ((List V27) × Int)) : Owp (tourkeep2_PolyHullOnce.c3 k y17) fun o => Triple PR (tourkeep2_PolyHullOnce.cx k) (sub tourkeep2_PolyHullOnce.code [1, 1, 1, 1, 0, 0]) 2 (tourkeep2_PolyHullOnce.c3p o12 y17) (tourkeep2_PolyHullOnce.c3x o) (tourkeep2_PolyHullOnce.c3n o) (tourkeep2_PolyHullOnce.c3q o12 o) := by
  unfold tourkeep2_PolyHullOnce.c3; exact
   Owp.bnd fun y19 e20 =>
   Owp.bif (fun e21 =>
   Owp.bif (fun e22 =>
    Owp.some (triple_way (tourkeep2_PolyHullOnce.cok k) hmix [.res (.one (.dp T4)) y19, .dec false, .dec false, .dec false, .dec true, .dec true, .dec true, .dec true, .dec true, .dec true, .dec true] [] [(0, 0)] (via (finP (And.intro (And.intro (And.intro (And.intro (And.intro (And.intro (And.intro (And.intro (And.intro trivial e20) (congrArg not e21)) (congrArg not e21)) (congrArg not e21)) e22) e22) e22) e22) e22) .normal [(0, 0)] (tourkeep2_PolyHullOnce.c3q o12 true)) (by kernel_rfl)))) (fun e22 =>
    Owp.bnd fun y23 e24 =>
     Owp.bnd fun y25 e26 =>
     Owp.some (triple_way (tourkeep2_PolyHullOnce.cok k) hmix [.res (.one (.dp T4)) y19, .dec false, .dec false, .dec false, .dec false, .dec false, .res (.one (.ow T27 28)) y23, .dec false, .res (.one (.dp T4)) y25, .dec false, .dec false] [] [(0, 0)] (via (finP (And.intro (And.intro (And.intro (And.intro (And.intro (And.intro (And.intro (And.intro (And.intro trivial e20) (congrArg not e21)) (congrArg not e21)) (congrArg not e21)) e22) (And.intro e22 e24)) (And.intro e22 e26)) e22) e22) .normal [(0, 0)] (tourkeep2_PolyHullOnce.c3q o12 (!y25))) (by kernel_rfl))))) (fun e21 =>
   Owp.some (triple_way (tourkeep2_PolyHullOnce.cok k) hmix [.res (.one (.dp T4)) y19, .dec true, .dec true, .dec true, .dec true, .dec true, .dec true, .dec true, .dec true, .dec true, .dec true] [] [(0, 0)] (via (finP (And.intro (And.intro (And.intro (And.intro (And.intro (And.intro (And.intro (And.intro (And.intro trivial e20) (congrArg not e21)) (congrArg not e21)) (congrArg not e21)) tt) tt) tt) tt) tt) .normal [(0, 0)] (tourkeep2_PolyHullOnce.c3q o12 true)) (by kernel_rfl))))
noncomputable def tourkeep2_PolyHullOnce.c4p (o12 : (List V27)) (y30 : ((List V27) × Int)) (v33 : Int) : SL := ⟨[(3, (.val .ptr ⟨0, 0, (0 : Int), 0, 0⟩)), (5, (.val .own (1 : Nat))), (66, (.val T22 o12)), (67, (.val T2 (len o12))), (68, (.val T2 v33))], [(0, .cells T22 o12), (1, .row T27 y30.1 28)]⟩
noncomputable def tourkeep2_PolyHullOnce.c4q (o12 : (List V27)) (y30 : ((List V27) × Int)) (o : Unit ⊕ Unit) : SL := (fun o => two o (fun v => ⟨[(2, (.val T4 false))], []⟩) (fun v => ⟨[(3, (.val .ptr ⟨0, 0, (0 : Int), 0, 0⟩)), (5, (.val .own (1 : Nat)))], [(0, .cells T22 o12), (1, .row T27 y30.1 28)]⟩)) o
noncomputable def tourkeep2_PolyHullOnce.c4x (o : Unit ⊕ Unit) : Ex := (fun o => two o (fun _ => .ret) (fun _ => (.exit 2))) o
noncomputable def tourkeep2_PolyHullOnce.c4n (o : Unit ⊕ Unit) : Nat := (fun o => two o (fun _ => 0) (fun _ => 2)) o
theorem tourkeep2_PolyHullOnce.c4_ok (k : Nat) (o12 : (List V27)) (y30 : ((List V27) × Int)) : ∀ (n : Nat) (v33 : Int), Owp (tourkeep2_PolyHullOnce.c4 k o12 y30 n v33) fun o => LTriple PR (tourkeep2_PolyHullOnce.cx k) (sub tourkeep2_PolyHullOnce.code [1, 1, 1, 1, 1, 1, 1, 0, 1, 0, 0]) 2 (tourkeep2_PolyHullOnce.c4p o12 y30 v33) (tourkeep2_PolyHullOnce.c4x o) (tourkeep2_PolyHullOnce.c4n o) (tourkeep2_PolyHullOnce.c4q o12 y30 o)
  | 0, _ => fun _ h => nomatch h
  | n + 1, v33 => Owp.of (tourkeep2_PolyHullOnce.c4.eq_2 ..) (
   Owp.bif (fun e34 =>
   Owp.req fun h35 =>
    Owp.bnd fun y36 e37 =>
    Owp.bif (fun e38 =>
    fun y hy => loop_back (tourkeep2_PolyHullOnce.cok k) hmix 2 (tourkeep2_PolyHullOnce.c4p o12 y30 (iadd .i64 v33 (1 : Int))) [.dec true, .res (.one (.dp T4)) y36, .dec false] [] [(0, 0), (1, 1)] (via (finP (And.intro (And.intro (And.intro (And.intro trivial e34) h35) e37) (congrArg not e38)) .normal [(0, 0), (1, 1)] (tourkeep2_PolyHullOnce.c4p o12 y30 (iadd .i64 v33 (1 : Int)))) (by kernel_rfl)) ((tourkeep2_PolyHullOnce.c4_ok k o12 y30 n (iadd .i64 v33 (1 : Int))).ap hy)) (fun e38 =>
    Owp.some (loop_exit (tourkeep2_PolyHullOnce.cok k) hmix [.dec true, .res (.one (.dp T4)) y36, .dec true] [] [] exne_ret (via (finP (And.intro (And.intro (And.intro (And.intro trivial e34) h35) e37) (congrArg not e38)) .ret [] (tourkeep2_PolyHullOnce.c4q o12 y30 (.inl ()))) (by kernel_rfl))))) (fun e34 =>
   Owp.some (loop_exit (tourkeep2_PolyHullOnce.cok k) hmix [.dec false] [] [(0, 0), (1, 1)] (exne 2) (via (finP (And.intro trivial e34) (.exit 2) [(0, 0), (1, 1)] (tourkeep2_PolyHullOnce.c4q o12 y30 (.inr ()))) (by kernel_rfl)))))
theorem tourkeep2_PolyHullOnce.way (k : Nat) (a0 : (List Int)) : Owp (tourkeep2_PolyHullOnce k a0) fun y => ∃ answers cmds, exec PR (tourkeep2_PolyHullOnce.cx k) tourkeep2_PolyHullOnce.code 0 (entry (.pair T31 .unit) (a0, ())).st answers (Ret (tourkeep2_PolyHullOnce.cx k) Try.f4 cmds (.one (.dp T4)) y) := by
  unfold tourkeep2_PolyHullOnce; exact
   Owp.bnd fun o12 e13 =>
   Owp.bnd fun y14 e15 =>
   Owp.req fun h16 =>
   Owp.bnd fun y17 e18 =>
   Owp.bnd fun o27 e28 =>
   Owp.bif (fun e29 =>
   Owp.some (⟨[.cut ⟨[.ownF 1 0 T27 28], [(0, 1), (1, 3)], (tourkeep2_PolyHullOnce.c1p a0 (0 : Int) []), 2, (.exit 0), (tourkeep2_PolyHullOnce.c1q o12), 1⟩, .res (.one (.ow T27 28)) y14, .dec true, .res (.more (.ow T27 28) (.one (.dp T2))) y17, .cutR 7 ⟨[], [(0, 0), (1, 5)], (tourkeep2_PolyHullOnce.c3p o12 y17), 2, .normal, (tourkeep2_PolyHullOnce.c3q o12 o27), 1⟩, .dec true], [], via (cutP trivial [(0, 1), (1, 3)] (tourkeep2_PolyHullOnce.c1p a0 (0 : Int) []) (((tourkeep2_PolyHullOnce.c1_ok k a0 k (0 : Int) []).ap e13).triple) (cutP (And.intro (And.intro (And.intro trivial e15) h16) e18) [(0, 0), (1, 5)] (tourkeep2_PolyHullOnce.c3p o12 y17) (((tourkeep2_PolyHullOnce.c3_ok k o12 y17).ap e28)) (retP (And.intro trivial e29) (.one (.dp T4)) (false : Bool)))) (by kernel_rfl)⟩)) (fun e29 =>
   Owp.bnd fun y30 e31 =>
    Owp.bif (fun e32 =>
    Owp.some (⟨[.cut ⟨[.ownF 1 0 T27 28], [(0, 1), (1, 3)], (tourkeep2_PolyHullOnce.c1p a0 (0 : Int) []), 2, (.exit 0), (tourkeep2_PolyHullOnce.c1q o12), 1⟩, .res (.one (.ow T27 28)) y14, .dec true, .res (.more (.ow T27 28) (.one (.dp T2))) y17, .cutR 7 ⟨[], [(0, 0), (1, 5)], (tourkeep2_PolyHullOnce.c3p o12 y17), 2, .normal, (tourkeep2_PolyHullOnce.c3q o12 o27), 1⟩, .dec false, .res (.more (.ow T27 28) (.one (.dp T2))) y30, .dec true], [], via (cutP trivial [(0, 1), (1, 3)] (tourkeep2_PolyHullOnce.c1p a0 (0 : Int) []) (((tourkeep2_PolyHullOnce.c1_ok k a0 k (0 : Int) []).ap e13).triple) (cutP (And.intro (And.intro (And.intro trivial e15) h16) e18) [(0, 0), (1, 5)] (tourkeep2_PolyHullOnce.c3p o12 y17) (((tourkeep2_PolyHullOnce.c3_ok k o12 y17).ap e28)) (retP (And.intro (And.intro (And.intro trivial e29) e31) e32) (.one (.dp T4)) ((ieq (len y30.1) (0 : Int)) : Bool)))) (by kernel_rfl)⟩)) (fun e32 =>
    Owp.bnd fun o39 e40 =>
     Owp.two (fun y41 e42 =>
     Owp.some (⟨[.cut ⟨[.ownF 1 0 T27 28], [(0, 1), (1, 3)], (tourkeep2_PolyHullOnce.c1p a0 (0 : Int) []), 2, (.exit 0), (tourkeep2_PolyHullOnce.c1q o12), 1⟩, .res (.one (.ow T27 28)) y14, .dec true, .res (.more (.ow T27 28) (.one (.dp T2))) y17, .cutR 7 ⟨[], [(0, 0), (1, 5)], (tourkeep2_PolyHullOnce.c3p o12 y17), 2, .normal, (tourkeep2_PolyHullOnce.c3q o12 o27), 1⟩, .dec false, .res (.more (.ow T27 28) (.one (.dp T2))) y30, .dec false, .cut ⟨[], [(0, 0), (1, 2)], (tourkeep2_PolyHullOnce.c4p o12 y30 (0 : Int)), 2, .ret, (tourkeep2_PolyHullOnce.c4q o12 y30 (.inl ())), 0⟩], [], via (cutP trivial [(0, 1), (1, 3)] (tourkeep2_PolyHullOnce.c1p a0 (0 : Int) []) (((tourkeep2_PolyHullOnce.c1_ok k a0 k (0 : Int) []).ap e13).triple) (cutP (And.intro (And.intro (And.intro trivial e15) h16) e18) [(0, 0), (1, 5)] (tourkeep2_PolyHullOnce.c3p o12 y17) (((tourkeep2_PolyHullOnce.c3_ok k o12 y17).ap e28)) (cutP (And.intro (And.intro (And.intro trivial e29) e31) e32) [(0, 0), (1, 2)] (tourkeep2_PolyHullOnce.c4p o12 y30 (0 : Int)) (((tourkeep2_PolyHullOnce.c4_ok k o12 y30 k (0 : Int)).ap (e40.trans (congrArg some e42))).triple) (retP trivial (.one (.dp T4)) (false : Bool))))) (by kernel_rfl)⟩)) (fun y43 e44 =>
     Owp.bnd fun y45 e46 =>
      Owp.bnd fun y47 e48 =>
      Owp.bif (fun e49 =>
      Owp.bif (fun e50 =>
       Owp.bnd fun y51 e52 =>
        Owp.bif (fun e53 =>
        Owp.bnd fun y54 e55 =>
         Owp.some (⟨[.cut ⟨[.ownF 1 0 T27 28], [(0, 1), (1, 3)], (tourkeep2_PolyHullOnce.c1p a0 (0 : Int) []), 2, (.exit 0), (tourkeep2_PolyHullOnce.c1q o12), 1⟩, .res (.one (.ow T27 28)) y14, .dec true, .res (.more (.ow T27 28) (.one (.dp T2))) y17, .cutR 7 ⟨[], [(0, 0), (1, 5)], (tourkeep2_PolyHullOnce.c3p o12 y17), 2, .normal, (tourkeep2_PolyHullOnce.c3q o12 o27), 1⟩, .dec false, .res (.more (.ow T27 28) (.one (.dp T2))) y30, .dec false, .cut ⟨[], [(0, 0), (1, 2)], (tourkeep2_PolyHullOnce.c4p o12 y30 (0 : Int)), 2, (.exit 2), (tourkeep2_PolyHullOnce.c4q o12 y30 (.inr ())), 2⟩, .res (.more (.ow T27 28) (.one (.dp T2))) y45, .res (.one (.dp T2)) y47, .dec true, .dec true, .dec true, .dec true, .dec true, .dec true, .res (.one (.dp T4)) y51, .dec true, .dec true, .dec true, .dec true, .res (.one (.dp T4)) y54, .dec true, .dec true], [], via (cutP trivial [(0, 1), (1, 3)] (tourkeep2_PolyHullOnce.c1p a0 (0 : Int) []) (((tourkeep2_PolyHullOnce.c1_ok k a0 k (0 : Int) []).ap e13).triple) (cutP (And.intro (And.intro (And.intro trivial e15) h16) e18) [(0, 0), (1, 5)] (tourkeep2_PolyHullOnce.c3p o12 y17) (((tourkeep2_PolyHullOnce.c3_ok k o12 y17).ap e28)) (cutP (And.intro (And.intro (And.intro trivial e29) e31) e32) [(0, 0), (1, 2)] (tourkeep2_PolyHullOnce.c4p o12 y30 (0 : Int)) (((tourkeep2_PolyHullOnce.c4_ok k o12 y30 k (0 : Int)).ap (e40.trans (congrArg some e44))).triple) (retP (And.intro (And.intro (And.intro (And.intro (And.intro (And.intro (And.intro (And.intro (And.intro (And.intro (And.intro (And.intro (And.intro (And.intro trivial e46) e48) e49) e49) e49) e50) e50) (And.intro e50 e52)) e50) e53) e53) (And.intro e53 e55)) e53) e53) (.one (.dp T4)) ((!y54) : Bool))))) (by kernel_rfl)⟩)) (fun e53 =>
        Owp.some (⟨[.cut ⟨[.ownF 1 0 T27 28], [(0, 1), (1, 3)], (tourkeep2_PolyHullOnce.c1p a0 (0 : Int) []), 2, (.exit 0), (tourkeep2_PolyHullOnce.c1q o12), 1⟩, .res (.one (.ow T27 28)) y14, .dec true, .res (.more (.ow T27 28) (.one (.dp T2))) y17, .cutR 7 ⟨[], [(0, 0), (1, 5)], (tourkeep2_PolyHullOnce.c3p o12 y17), 2, .normal, (tourkeep2_PolyHullOnce.c3q o12 o27), 1⟩, .dec false, .res (.more (.ow T27 28) (.one (.dp T2))) y30, .dec false, .cut ⟨[], [(0, 0), (1, 2)], (tourkeep2_PolyHullOnce.c4p o12 y30 (0 : Int)), 2, (.exit 2), (tourkeep2_PolyHullOnce.c4q o12 y30 (.inr ())), 2⟩, .res (.more (.ow T27 28) (.one (.dp T2))) y45, .res (.one (.dp T2)) y47, .dec true, .dec true, .dec true, .dec true, .dec true, .dec true, .res (.one (.dp T4)) y51, .dec true, .dec false, .dec false, .dec false, .dec true, .dec false, .dec false], [], via (cutP trivial [(0, 1), (1, 3)] (tourkeep2_PolyHullOnce.c1p a0 (0 : Int) []) (((tourkeep2_PolyHullOnce.c1_ok k a0 k (0 : Int) []).ap e13).triple) (cutP (And.intro (And.intro (And.intro trivial e15) h16) e18) [(0, 0), (1, 5)] (tourkeep2_PolyHullOnce.c3p o12 y17) (((tourkeep2_PolyHullOnce.c3_ok k o12 y17).ap e28)) (cutP (And.intro (And.intro (And.intro trivial e29) e31) e32) [(0, 0), (1, 2)] (tourkeep2_PolyHullOnce.c4p o12 y30 (0 : Int)) (((tourkeep2_PolyHullOnce.c4_ok k o12 y30 k (0 : Int)).ap (e40.trans (congrArg some e44))).triple) (retP (And.intro (And.intro (And.intro (And.intro (And.intro (And.intro (And.intro (And.intro (And.intro (And.intro (And.intro (And.intro (And.intro (And.intro trivial e46) e48) e49) e49) e49) e50) e50) (And.intro e50 e52)) e50) e53) e53) e53) e53) e53) (.one (.dp T4)) (false : Bool))))) (by kernel_rfl)⟩))) (fun e50 =>
       Owp.some (⟨[.cut ⟨[.ownF 1 0 T27 28], [(0, 1), (1, 3)], (tourkeep2_PolyHullOnce.c1p a0 (0 : Int) []), 2, (.exit 0), (tourkeep2_PolyHullOnce.c1q o12), 1⟩, .res (.one (.ow T27 28)) y14, .dec true, .res (.more (.ow T27 28) (.one (.dp T2))) y17, .cutR 7 ⟨[], [(0, 0), (1, 5)], (tourkeep2_PolyHullOnce.c3p o12 y17), 2, .normal, (tourkeep2_PolyHullOnce.c3q o12 o27), 1⟩, .dec false, .res (.more (.ow T27 28) (.one (.dp T2))) y30, .dec false, .cut ⟨[], [(0, 0), (1, 2)], (tourkeep2_PolyHullOnce.c4p o12 y30 (0 : Int)), 2, (.exit 2), (tourkeep2_PolyHullOnce.c4q o12 y30 (.inr ())), 2⟩, .res (.more (.ow T27 28) (.one (.dp T2))) y45, .res (.one (.dp T2)) y47, .dec true, .dec true, .dec true, .dec false, .dec false, .dec false, .dec true, .dec false, .dec false, .dec false, .dec false, .dec true, .dec false, .dec false], [], via (cutP trivial [(0, 1), (1, 3)] (tourkeep2_PolyHullOnce.c1p a0 (0 : Int) []) (((tourkeep2_PolyHullOnce.c1_ok k a0 k (0 : Int) []).ap e13).triple) (cutP (And.intro (And.intro (And.intro trivial e15) h16) e18) [(0, 0), (1, 5)] (tourkeep2_PolyHullOnce.c3p o12 y17) (((tourkeep2_PolyHullOnce.c3_ok k o12 y17).ap e28)) (cutP (And.intro (And.intro (And.intro trivial e29) e31) e32) [(0, 0), (1, 2)] (tourkeep2_PolyHullOnce.c4p o12 y30 (0 : Int)) (((tourkeep2_PolyHullOnce.c4_ok k o12 y30 k (0 : Int)).ap (e40.trans (congrArg some e44))).triple) (retP (And.intro (And.intro (And.intro (And.intro (And.intro (And.intro (And.intro (And.intro (And.intro (And.intro (And.intro (And.intro (And.intro (And.intro trivial e46) e48) e49) e49) e49) e50) e50) e50) e50) ff) ff) ff) ff) ff) (.one (.dp T4)) (false : Bool))))) (by kernel_rfl)⟩))) (fun e49 =>
      Owp.some (⟨[.cut ⟨[.ownF 1 0 T27 28], [(0, 1), (1, 3)], (tourkeep2_PolyHullOnce.c1p a0 (0 : Int) []), 2, (.exit 0), (tourkeep2_PolyHullOnce.c1q o12), 1⟩, .res (.one (.ow T27 28)) y14, .dec true, .res (.more (.ow T27 28) (.one (.dp T2))) y17, .cutR 7 ⟨[], [(0, 0), (1, 5)], (tourkeep2_PolyHullOnce.c3p o12 y17), 2, .normal, (tourkeep2_PolyHullOnce.c3q o12 o27), 1⟩, .dec false, .res (.more (.ow T27 28) (.one (.dp T2))) y30, .dec false, .cut ⟨[], [(0, 0), (1, 2)], (tourkeep2_PolyHullOnce.c4p o12 y30 (0 : Int)), 2, (.exit 2), (tourkeep2_PolyHullOnce.c4q o12 y30 (.inr ())), 2⟩, .res (.more (.ow T27 28) (.one (.dp T2))) y45, .res (.one (.dp T2)) y47, .dec false, .dec false, .dec false, .dec false, .dec false, .dec false, .dec true, .dec false, .dec false, .dec false, .dec false, .dec true, .dec false, .dec false], [], via (cutP trivial [(0, 1), (1, 3)] (tourkeep2_PolyHullOnce.c1p a0 (0 : Int) []) (((tourkeep2_PolyHullOnce.c1_ok k a0 k (0 : Int) []).ap e13).triple) (cutP (And.intro (And.intro (And.intro trivial e15) h16) e18) [(0, 0), (1, 5)] (tourkeep2_PolyHullOnce.c3p o12 y17) (((tourkeep2_PolyHullOnce.c3_ok k o12 y17).ap e28)) (cutP (And.intro (And.intro (And.intro trivial e29) e31) e32) [(0, 0), (1, 2)] (tourkeep2_PolyHullOnce.c4p o12 y30 (0 : Int)) (((tourkeep2_PolyHullOnce.c4_ok k o12 y30 k (0 : Int)).ap (e40.trans (congrArg some e44))).triple) (retP (And.intro (And.intro (And.intro (And.intro (And.intro (And.intro (And.intro (And.intro (And.intro (And.intro (And.intro (And.intro (And.intro (And.intro trivial e46) e48) e49) e49) e49) ff) ff) ff) ff) ff) ff) ff) ff) ff) (.one (.dp T4)) (false : Bool))))) (by kernel_rfl)⟩)))))
theorem tourkeep2_PolyHullOnce.ok (k : Nat) : FnOk PR 4 (tourkeep2_PolyHullOnce.sp k) :=
  fn_ok (tourkeep2_PolyHullOnce.cok k) hmix Try.func4 (code := tourkeep2_PolyHullOnce.code) (by kernel_rfl) (by kernel_rfl) (by kernel_rfl) rfl rfl (by kernel_rfl) (by kernel_rfl) (by kernel_rfl) (fun x => Nat.le_of_ble_eq_true (by kernel_rfl)) fun x y hy => (tourkeep2_PolyHullOnce.way k x.1).ap hy

end Go.Proofs.T1
