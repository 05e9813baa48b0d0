import Derived.Test.YtabllngnpponiaaG0
import Derived.Test.YtabllngnpponiaaG2
import Derived.Test.YtabllngnpponiaaG4
import Derived.Test.YtabllngnpponiaaG6
import Derived.Test.YtabllngnpponiaaG9
import Derived.Test.YtabllngnpponiaaG12
namespace Go.Proofs.T1
open Go Go.Sx Go.Proofs
set_option maxRecDepth 100000
set_option linter.unusedVariables false
/-! tourney/tourkeep2.spot -/
noncomputable def tourkeep2_spot.code : Code := Func.cd Try.f29
def tourkeep2_spot (k : Nat) (a0 : V27) (a1 : Int) : Option (List V27) :=
  some [((isub .i64 a0.1 a1), (isub .i64 a0.2.1 a1), ()), ((iadd .i64 a0.1 a1), (isub .i64 a0.2.1 a1), ()), ((iadd .i64 a0.1 a1), (iadd .i64 a0.2.1 a1), ()), ((isub .i64 a0.1 a1), (iadd .i64 a0.2.1 a1), ())]
noncomputable def tourkeep2_spot.sp (k : Nat) : Go.Sx.Spec := ⟨(.pair T27 (.pair T2 .unit)), (.one (.ow T27 28)), fun x => tourkeep2_spot k x.1 x.2.1, false⟩
noncomputable def tourkeep2_spot.cx (k : Nat) : Go.Sx.Ctx := ⟨tys, [], eqs, 42, 0, [], false⟩
theorem tourkeep2_spot.cok (k : Nat) : CtxOk PR (tourkeep2_spot.cx k) := ctx_ok tysOk eqsOk FnsOk.nil HsOk.nil
theorem tourkeep2_spot.way (k : Nat) (a0 : V27) (a1 : Int) : Owp (tourkeep2_spot k a0 a1) fun y => ∃ answers cmds, exec PR (tourkeep2_spot.cx k) tourkeep2_spot.code 0 (entry (.pair T27 (.pair T2 .unit)) (a0, a1, ())).st answers (Ret (tourkeep2_spot.cx k) Try.f29 cmds (.one (.ow T27 28)) y) := by
  unfold tourkeep2_spot; exact
   Owp.some (⟨[.dec true], [], via (retP trivial (.one (.ow T27 28)) ([((isub .i64 a0.1 a1), (isub .i64 a0.2.1 a1), ()), ((iadd .i64 a0.1 a1), (isub .i64 a0.2.1 a1), ()), ((iadd .i64 a0.1 a1), (iadd .i64 a0.2.1 a1), ()), ((isub .i64 a0.1 a1), (iadd .i64 a0.2.1 a1), ())] : (List V27))) (by kernel_rfl)⟩)
theorem tourkeep2_spot.ok (k : Nat) : FnOk PR 29 (tourkeep2_spot.sp k) :=
  fn_ok (tourkeep2_spot.cok k) hmix Try.func29 (code := tourkeep2_spot.code) (by kernel_rfl) (by kernel_rfl) (by kernel_rfl) rfl rfl (by kernel_rfl) (by kernel_rfl) (by kernel_rfl) (fun x => Nat.le_of_ble_eq_true (by kernel_rfl)) fun x y hy => (tourkeep2_spot.way k x.1 x.2.1).ap hy

/-! slices.IndexFunc[[]int,int] -/
noncomputable def slices_IndexFunc_108.code : Code := Func.cd Try.f108
def slices_IndexFunc_108.c1 (k : Nat) (a0 : (List Int)) (a1 : ((Int × Unit) → Option Bool)) : Nat → Int → Option (Int ⊕ Unit)
  | 0, _ => none
  | n + 1, v1 =>
   bif' (ilt v1 (len a0))
   (req (inL v1 a0) <|
    bnd (a1 ((el 0 a0 v1), ())) fun y4 =>
    bif' y4
    (some (.inl v1))
    (slices_IndexFunc_108.c1 k a0 a1 n (iadd .i64 v1 1)))
   (some (.inr ()))
def slices_IndexFunc_108 (k : Nat) (a0 : (List Int)) (a1 : ((Int × Unit) → Option Bool)) : Option Int :=
  bnd (slices_IndexFunc_108.c1 k a0 a1 k 0) fun o7 =>
  two o7 (fun y9 =>
  some y9) (fun y11 =>
  some (-1))
noncomputable def slices_IndexFunc_108.sp (k : Nat) : Go.Sx.Spec := ⟨(.pair T31 (.pair (.fn (.pair T2 .unit) T4) .unit)), (.one (.dp T2)), fun x => slices_IndexFunc_108 k x.1 x.2.1, false⟩
noncomputable def slices_IndexFunc_108.cx (k : Nat) : Go.Sx.Ctx := ⟨tys, [], eqs, 19, 0, [], false⟩
theorem slices_IndexFunc_108.cok (k : Nat) : CtxOk PR (slices_IndexFunc_108.cx k) := ctx_ok tysOk eqsOk FnsOk.nil HsOk.nil
noncomputable def slices_IndexFunc_108.c1p (a0 : (List Int)) (a1 : ((Int × Unit) → Option Bool)) (v1 : Int) : SL := ⟨[(0, (.val T31 a0)), (1, (.val (.fn (.pair T2 .unit) T4) a1)), (7, (.val T2 (len a0))), (8, (.val T2 v1))], []⟩
noncomputable def slices_IndexFunc_108.c1q (o : Int ⊕ Unit) : SL := (fun o => two o (fun v => ⟨[(4, (.val T2 v))], []⟩) (fun v => ⟨[], []⟩)) o
noncomputable def slices_IndexFunc_108.c1x (o : Int ⊕ Unit) : Ex := (fun o => two o (fun _ => .ret) (fun _ => (.exit 0))) o
noncomputable def slices_IndexFunc_108.c1n (o : Int ⊕ Unit) : Nat := (fun o => two o (fun _ => 0) (fun _ => 0)) o
theorem slices_IndexFunc_108.c1_ok (k : Nat) (a0 : (List Int)) (a1 : ((Int × Unit) → Option Bool)) : ∀ (n : Nat) (v1 : Int), Owp (slices_IndexFunc_108.c1 k a0 a1 n v1) fun o => LTriple PR (slices_IndexFunc_108.cx k) (sub slices_IndexFunc_108.code [1, 0, 1, 0, 0]) 0 (slices_IndexFunc_108.c1p a0 a1 v1) (slices_IndexFunc_108.c1x o) (slices_IndexFunc_108.c1n o) (slices_IndexFunc_108.c1q o)
  | 0, _ => fun _ h => nomatch h
  | n + 1, v1 => Owp.of (slices_IndexFunc_108.c1.eq_2 ..) (
   Owp.bif (fun e2 =>
   Owp.req fun h3 =>
    Owp.bnd fun y4 e5 =>
    Owp.bif (fun e6 =>
    Owp.some (loop_exit (slices_IndexFunc_108.cok k) hmix [.dec true, .res (.one (.dp T4)) y4, .dec true] [] [] exne_ret (via (finP (And.intro (And.intro (And.intro (And.intro trivial e2) h3) e5) e6) .ret [] (slices_IndexFunc_108.c1q (.inl v1))) (by kernel_rfl)))) (fun e6 =>
    fun y hy => loop_back (slices_IndexFunc_108.cok k) hmix 0 (slices_IndexFunc_108.c1p a0 a1 (iadd .i64 v1 (1 : Int))) [.dec true, .res (.one (.dp T4)) y4, .dec false] [] [] (via (finP (And.intro (And.intro (And.intro (And.intro trivial e2) h3) e5) e6) .normal [] (slices_IndexFunc_108.c1p a0 a1 (iadd .i64 v1 (1 : Int)))) (by kernel_rfl)) ((slices_IndexFunc_108.c1_ok k a0 a1 n (iadd .i64 v1 (1 : Int))).ap hy))) (fun e2 =>
   Owp.some (loop_exit (slices_IndexFunc_108.cok k) hmix [.dec false] [] [] (exne 0) (via (finP (And.intro trivial e2) (.exit 0) [] (slices_IndexFunc_108.c1q (.inr ()))) (by kernel_rfl)))))
theorem slices_IndexFunc_108.way (k : Nat) (a0 : (List Int)) (a1 : ((Int × Unit) → Option Bool)) : Owp (slices_IndexFunc_108 k a0 a1) fun y => ∃ answers cmds, exec PR (slices_IndexFunc_108.cx k) slices_IndexFunc_108.code 0 (entry (.pair T31 (.pair (.fn (.pair T2 .unit) T4) .unit)) (a0, a1, ())).st answers (Ret (slices_IndexFunc_108.cx k) Try.f108 cmds (.one (.dp T2)) y) := by
  unfold slices_IndexFunc_108; exact
   Owp.bnd fun o7 e8 =>
   Owp.two (fun y9 e10 =>
   Owp.some (⟨[.cut ⟨[], [], (slices_IndexFunc_108.c1p a0 a1 (0 : Int)), 0, .ret, (slices_IndexFunc_108.c1q (.inl y9)), 0⟩], [], via (cutP trivial [] (slices_IndexFunc_108.c1p a0 a1 (0 : Int)) (((slices_IndexFunc_108.c1_ok k a0 a1 k (0 : Int)).ap (e8.trans (congrArg some e10))).triple) (retP trivial (.one (.dp T2)) (y9 : Int))) (by kernel_rfl)⟩)) (fun y11 e12 =>
   Owp.some (⟨[.cut ⟨[], [], (slices_IndexFunc_108.c1p a0 a1 (0 : Int)), 0, (.exit 0), (slices_IndexFunc_108.c1q (.inr ())), 0⟩], [], via (cutP trivial [] (slices_IndexFunc_108.c1p a0 a1 (0 : Int)) (((slices_IndexFunc_108.c1_ok k a0 a1 k (0 : Int)).ap (e8.trans (congrArg some e12))).triple) (retP trivial (.one (.dp T2)) ((-1 : Int) : Int))) (by kernel_rfl)⟩))
theorem slices_IndexFunc_108.ok (k : Nat) : FnOk PR 108 (slices_IndexFunc_108.sp k) :=
  fn_ok (slices_IndexFunc_108.cok k) hmix Try.func108 (code := slices_IndexFunc_108.code) (by kernel_rfl) (by kernel_rfl) (by kernel_rfl) rfl rfl (by kernel_rfl) (by kernel_rfl) (by kernel_rfl) (fun x => Nat.le_of_ble_eq_true (by kernel_rfl)) fun x y hy => (slices_IndexFunc_108.way k x.1 x.2.1).ap hy

/-! slices.ContainsFunc[[]int,int] -/
noncomputable def slices_ContainsFunc_30.code : Code := Func.cd Try.f30
def slices_ContainsFunc_30 (k : Nat) (a0 : (List Int)) (a1 : ((Int × Unit) → Option Bool)) : Option Bool :=
  bnd (slices_IndexFunc_108 k a0 a1) fun y1 =>
  some (ige y1 0)
noncomputable def slices_ContainsFunc_30.sp (k : Nat) : Go.Sx.Spec := ⟨(.pair T31 (.pair (.fn (.pair T2 .unit) T4) .unit)), (.one (.dp T4)), fun x => slices_ContainsFunc_30 k x.1 x.2.1, false⟩
noncomputable def slices_ContainsFunc_30.cx (k : Nat) : Go.Sx.Ctx := ⟨tys, [(108, slices_IndexFunc_108.sp k)], eqs, 9, 0, [], false⟩
theorem slices_ContainsFunc_30.cok (k : Nat) : CtxOk PR (slices_ContainsFunc_30.cx k) := ctx_ok tysOk eqsOk (FnsOk.cons (slices_IndexFunc_108.ok k) FnsOk.nil) HsOk.nil
theorem slices_ContainsFunc_30.way (k : Nat) (a0 : (List Int)) (a1 : ((Int × Unit) → Option Bool)) : Owp (slices_ContainsFunc_30 k a0 a1) fun y => ∃ answers cmds, exec PR (slices_ContainsFunc_30.cx k) slices_ContainsFunc_30.code 0 (entry (.pair T31 (.pair (.fn (.pair T2 .unit) T4) .unit)) (a0, a1, ())).st answers (Ret (slices_ContainsFunc_30.cx k) Try.f30 cmds (.one (.dp T4)) y) := by
  unfold slices_ContainsFunc_30; exact
   Owp.bnd fun y1 e2 =>
   Owp.some (⟨[.res (.one (.dp T2)) y1], [], via (retP (And.intro trivial e2) (.one (.dp T4)) ((ige y1 (0 : Int)) : Bool)) (by kernel_rfl)⟩)
theorem slices_ContainsFunc_30.ok (k : Nat) : FnOk PR 30 (slices_ContainsFunc_30.sp k) :=
  fn_ok (slices_ContainsFunc_30.cok k) hmix Try.func30 (code := slices_ContainsFunc_30.code) (by kernel_rfl) (by kernel_rfl) (by kernel_rfl) rfl rfl (by kernel_rfl) (by kernel_rfl) (by kernel_rfl) (fun x => Nat.le_of_ble_eq_true (by kernel_rfl)) fun x y hy => (slices_ContainsFunc_30.way k x.1 x.2.1).ap hy

/-! tourney/tourkeep2.inside -/
noncomputable def tourkeep2_inside.code : Code := Func.cd Try.f32
def tourkeep2_inside.c1 (k : Nat) (a1 : V27) (y1 : (List V27)) : Nat → Int → Option (Unit ⊕ Unit)
  | 0, _ => none
  | n + 1, v3 =>
   bif' (ilt v3 (len y1))
   (req (inL v3 y1) <|
    req (nz (len y1)) <|
    req (inL (irem (iadd .i64 v3 1) (len y1)) y1) <|
    bif' (ilt (isub .i64 (imul .i64 (isub .i64 (el Z27 y1 (irem (iadd .i64 v3 1) (len y1))).1 (el Z27 y1 v3).1) (isub .i64 a1.2.1 (el Z27 y1 v3).2.1)) (imul .i64 (isub .i64 (el Z27 y1 (irem (iadd .i64 v3 1) (len y1))).2.1 (el Z27 y1 v3).2.1) (isub .i64 a1.1 (el Z27 y1 v3).1))) 0)
    (some (.inl ()))
    (tourkeep2_inside.c1 k a1 y1 n (iadd .i64 v3 1)))
   (some (.inr ()))
def tourkeep2_inside (k : Nat) (a0 : V49) (a1 : V27) : Option Bool :=
  bnd (body_Place k a0) fun y1 =>
  bnd (tourkeep2_inside.c1 k a1 y1 k 0) fun o9 =>
  two o9 (fun y11 =>
  some false) (fun y13 =>
  some (igt (len y1) 0))
noncomputable def tourkeep2_inside.sp (k : Nat) : Go.Sx.Spec := ⟨(.pair T49 (.pair T27 .unit)), (.one (.dp T4)), fun x => tourkeep2_inside k x.1 x.2.1, false⟩
noncomputable def tourkeep2_inside.cx (k : Nat) : Go.Sx.Ctx := ⟨tys, [(107, (body_Place.sp k).frz)], eqs, 54, 0, [], false⟩
theorem tourkeep2_inside.cok (k : Nat) : CtxOk PR (tourkeep2_inside.cx k) := ctx_ok tysOk eqsOk (FnsOk.cons (FnOk.frz rfl (body_Place.ok k)) FnsOk.nil) HsOk.nil
noncomputable def tourkeep2_inside.c1p (a1 : V27) (y1 : (List V27)) (v3 : Int) : SL := ⟨[(3, (.val .ptr ⟨0, 0, (0 : Int), 0, 0⟩)), (5, (.val T22 y1)), (11, (.val T22 y1)), (12, (.val T2 (len y1))), (13, (.val T2 v3))], [(0, .cells T27 a1)]⟩
noncomputable def tourkeep2_inside.c1q (y1 : (List V27)) (o : Unit ⊕ Unit) : SL := (fun o => two o (fun v => ⟨[(4, (.val T4 false))], []⟩) (fun v => ⟨[(5, (.val T22 y1))], []⟩)) o
noncomputable def tourkeep2_inside.c1x (o : Unit ⊕ Unit) : Ex := (fun o => two o (fun _ => .ret) (fun _ => (.exit 0))) o
noncomputable def tourkeep2_inside.c1n (o : Unit ⊕ Unit) : Nat := (fun o => two o (fun _ => 0) (fun _ => 0)) o
theorem tourkeep2_inside.c1_ok (k : Nat) (a1 : V27) (y1 : (List V27)) : ∀ (n : Nat) (v3 : Int), Owp (tourkeep2_inside.c1 k a1 y1 n v3) fun o => LTriple PR (tourkeep2_inside.cx k) (sub tourkeep2_inside.code [1, 1, 0, 1, 0, 0]) 1 (tourkeep2_inside.c1p a1 y1 v3) (tourkeep2_inside.c1x o) (tourkeep2_inside.c1n o) (tourkeep2_inside.c1q y1 o)
  | 0, _ => fun _ h => nomatch h
  | n + 1, v3 => Owp.of (tourkeep2_inside.c1.eq_2 ..) (
   Owp.bif (fun e4 =>
   Owp.req fun h5 =>
    Owp.req fun h6 =>
    Owp.req fun h7 =>
    Owp.bif (fun e8 =>
    Owp.some (loop_exit (tourkeep2_inside.cok k) hmix [.dec true, .dec true] [] [] exne_ret (via (finP (And.intro (And.intro (And.intro (And.intro (And.intro trivial e4) h5) h6) h7) e8) .ret [] (tourkeep2_inside.c1q y1 (.inl ()))) (by kernel_rfl)))) (fun e8 =>
    fun y hy => loop_back (tourkeep2_inside.cok k) hmix 1 (tourkeep2_inside.c1p a1 y1 (iadd .i64 v3 (1 : Int))) [.dec true, .dec false] [] [(0, 0)] (via (finP (And.intro (And.intro (And.intro (And.intro (And.intro trivial e4) h5) h6) h7) e8) .normal [(0, 0)] (tourkeep2_inside.c1p a1 y1 (iadd .i64 v3 (1 : Int)))) (by kernel_rfl)) ((tourkeep2_inside.c1_ok k a1 y1 n (iadd .i64 v3 (1 : Int))).ap hy))) (fun e4 =>
   Owp.some (loop_exit (tourkeep2_inside.cok k) hmix [.dec false] [] [] (exne 0) (via (finP (And.intro trivial e4) (.exit 0) [] (tourkeep2_inside.c1q y1 (.inr ()))) (by kernel_rfl)))))
theorem tourkeep2_inside.way (k : Nat) (a0 : V49) (a1 : V27) : Owp (tourkeep2_inside k a0 a1) fun y => ∃ answers cmds, exec PR (tourkeep2_inside.cx k) tourkeep2_inside.code 0 (entry (.pair T49 (.pair T27 .unit)) (a0, a1, ())).st answers (Ret (tourkeep2_inside.cx k) Try.f32 cmds (.one (.dp T4)) y) := by
  unfold tourkeep2_inside; exact
   Owp.bnd fun y1 e2 =>
   Owp.bnd fun o9 e10 =>
   Owp.two (fun y11 e12 =>
   Owp.some (⟨[.res (.one (.dp T22)) y1, .cut ⟨[], [(0, 1)], (tourkeep2_inside.c1p a1 y1 (0 : Int)), 1, .ret, (tourkeep2_inside.c1q y1 (.inl ())), 0⟩], [], via (cutP (And.intro trivial e2) [(0, 1)] (tourkeep2_inside.c1p a1 y1 (0 : Int)) (((tourkeep2_inside.c1_ok k a1 y1 k (0 : Int)).ap (e10.trans (congrArg some e12))).triple) (retP trivial (.one (.dp T4)) (false : Bool))) (by kernel_rfl)⟩)) (fun y13 e14 =>
   Owp.some (⟨[.res (.one (.dp T22)) y1, .cut ⟨[], [(0, 1)], (tourkeep2_inside.c1p a1 y1 (0 : Int)), 1, (.exit 0), (tourkeep2_inside.c1q y1 (.inr ())), 0⟩], [], via (cutP (And.intro trivial e2) [(0, 1)] (tourkeep2_inside.c1p a1 y1 (0 : Int)) (((tourkeep2_inside.c1_ok k a1 y1 k (0 : Int)).ap (e10.trans (congrArg some e14))).triple) (retP trivial (.one (.dp T4)) ((igt (len y1) (0 : Int)) : Bool))) (by kernel_rfl)⟩))
theorem tourkeep2_inside.ok (k : Nat) : FnOk PR 32 (tourkeep2_inside.sp k) :=
  fn_ok (tourkeep2_inside.cok k) hmix Try.func32 (code := tourkeep2_inside.code) (by kernel_rfl) (by kernel_rfl) (by kernel_rfl) rfl rfl (by kernel_rfl) (by kernel_rfl) (by kernel_rfl) (fun x => Nat.le_of_ble_eq_true (by kernel_rfl)) fun x y hy => (tourkeep2_inside.way k x.1 x.2.1).ap hy

/-! tourney/tourkeep2.RayHits$1 -/
noncomputable def tourkeep2_RayHits_1.code : Code := Func.cd Try.f31
def tourkeep2_RayHits_1 (k : Nat) (a0 : Int) (a1 : (List V49)) (a2 : V27) : Option Bool :=
  bif' (ige a0 0)
  (bif' (ilt a0 (len a1))
   (req (inL a0 a1) <|
    bnd (tourkeep2_inside k (el Z49 a1 a0) a2) fun y4 =>
    some y4)
   (some false))
  (some false)
noncomputable def tourkeep2_RayHits_1.sp (k : Nat) : Go.Sx.Spec := ⟨(.pair T2 (.pair (.ref (.slice T49)) (.pair (.ref T27) .unit))), (.one (.dp T4)), fun x => tourkeep2_RayHits_1 k x.1 x.2.1 x.2.2.1, false⟩
noncomputable def tourkeep2_RayHits_1.cx (k : Nat) : Go.Sx.Ctx := ⟨tys, [(32, tourkeep2_inside.sp k)], eqs, 21, 0, [], false⟩
theorem tourkeep2_RayHits_1.cok (k : Nat) : CtxOk PR (tourkeep2_RayHits_1.cx k) := ctx_ok tysOk eqsOk (FnsOk.cons (tourkeep2_inside.ok k) FnsOk.nil) HsOk.nil
theorem tourkeep2_RayHits_1.way (k : Nat) (a0 : Int) (a1 : (List V49)) (a2 : V27) : Owp (tourkeep2_RayHits_1 k a0 a1 a2) fun y => ∃ answers cmds, exec PR (tourkeep2_RayHits_1.cx k) tourkeep2_RayHits_1.code 0 (entry (.pair T2 (.pair (.ref (.slice T49)) (.pair (.ref T27) .unit))) (a0, a1, a2, ())).st answers (Ret (tourkeep2_RayHits_1.cx k) Try.f31 cmds (.one (.dp T4)) y) := by
  unfold tourkeep2_RayHits_1; exact
   Owp.bif (fun e1 =>
   Owp.bif (fun e2 =>
    Owp.req fun h3 =>
     Owp.bnd fun y4 e5 =>
     Owp.some (⟨[.dec true, .dec true, .dec true, .dec true, .dec true, .dec true, .dec true, .dec true, .dec true, .dec true, .dec true, .res (.one (.dp T4)) y4, .dec true], [], via (retP (And.intro (And.intro (And.intro (And.intro (And.intro (And.intro (And.intro (And.intro (And.intro (And.intro (And.intro (And.intro trivial e1) e1) e1) e1) e1) e2) e2) (And.intro e2 h3)) e2) e2) (And.intro e2 e5)) e2) (.one (.dp T4)) (y4 : Bool)) (by kernel_rfl)⟩)) (fun e2 =>
    Owp.some (⟨[.dec true, .dec true, .dec true, .dec true, .dec true, .dec false, .dec false, .dec false, .dec false, .dec false, .dec false, .dec true, .dec false], [], via (retP (And.intro (And.intro (And.intro (And.intro (And.intro (And.intro (And.intro (And.intro (And.intro (And.intro (And.intro (And.intro trivial e1) e1) e1) e1) e1) e2) e2) e2) e2) e2) e2) e2) (.one (.dp T4)) (false : Bool)) (by kernel_rfl)⟩))) (fun e1 =>
   Owp.some (⟨[.dec false, .dec false, .dec false, .dec false, .dec false, .dec false, .dec false, .dec false, .dec false, .dec false, .dec false, .dec true, .dec false], [], via (retP (And.intro (And.intro (And.intro (And.intro (And.intro (And.intro (And.intro (And.intro (And.intro (And.intro (And.intro (And.intro trivial e1) e1) e1) e1) e1) ff) ff) ff) ff) ff) ff) ff) (.one (.dp T4)) (false : Bool)) (by kernel_rfl)⟩))
theorem tourkeep2_RayHits_1.ok (k : Nat) : FnOk PR 31 (tourkeep2_RayHits_1.sp k) :=
  fn_ok (tourkeep2_RayHits_1.cok k) hmix Try.func31 (code := tourkeep2_RayHits_1.code) (by kernel_rfl) (by kernel_rfl) (by kernel_rfl) rfl rfl (by kernel_rfl) (by kernel_rfl) (by kernel_rfl) (fun x => Nat.le_of_ble_eq_true (by kernel_rfl)) fun x y hy => (tourkeep2_RayHits_1.way k x.1 x.2.1 x.2.2.1).ap hy

/-! tourney/tourkeep2.RayHits$2 -/
noncomputable def tourkeep2_RayHits_2.code : Code := Func.cd Try.f33
def tourkeep2_RayHits_2 (k : Nat) (a0 : Int) (a1 : (List V49)) (a2 : V27) : Option Bool :=
  bif' (ige a0 0)
  (bif' (ilt a0 (len a1))
   (req (inL a0 a1) <|
    bnd (tourkeep2_inside k (el Z49 a1 a0) a2) fun y4 =>
    some y4)
   (some false))
  (some false)
noncomputable def tourkeep2_RayHits_2.sp (k : Nat) : Go.Sx.Spec := ⟨(.pair T2 (.pair (.ref (.slice T49)) (.pair (.ref T27) .unit))), (.one (.dp T4)), fun x => tourkeep2_RayHits_2 k x.1 x.2.1 x.2.2.1, false⟩
noncomputable def tourkeep2_RayHits_2.cx (k : Nat) : Go.Sx.Ctx := ⟨tys, [(32, tourkeep2_inside.sp k)], eqs, 21, 0, [], false⟩
theorem tourkeep2_RayHits_2.cok (k : Nat) : CtxOk PR (tourkeep2_RayHits_2.cx k) := ctx_ok tysOk eqsOk (FnsOk.cons (tourkeep2_inside.ok k) FnsOk.nil) HsOk.nil
theorem tourkeep2_RayHits_2.way (k : Nat) (a0 : Int) (a1 : (List V49)) (a2 : V27) : Owp (tourkeep2_RayHits_2 k a0 a1 a2) fun y => ∃ answers cmds, exec PR (tourkeep2_RayHits_2.cx k) tourkeep2_RayHits_2.code 0 (entry (.pair T2 (.pair (.ref (.slice T49)) (.pair (.ref T27) .unit))) (a0, a1, a2, ())).st answers (Ret (tourkeep2_RayHits_2.cx k) Try.f33 cmds (.one (.dp T4)) y) := by
  unfold tourkeep2_RayHits_2; exact
   Owp.bif (fun e1 =>
   Owp.bif (fun e2 =>
    Owp.req fun h3 =>
     Owp.bnd fun y4 e5 =>
     Owp.some (⟨[.dec true, .dec true, .dec true, .dec true, .dec true, .dec true, .dec true, .dec true, .dec true, .dec true, .dec true, .res (.one (.dp T4)) y4, .dec true], [], via (retP (And.intro (And.intro (And.intro (And.intro (And.intro (And.intro (And.intro (And.intro (And.intro (And.intro (And.intro (And.intro trivial e1) e1) e1) e1) e1) e2) e2) (And.intro e2 h3)) e2) e2) (And.intro e2 e5)) e2) (.one (.dp T4)) (y4 : Bool)) (by kernel_rfl)⟩)) (fun e2 =>
    Owp.some (⟨[.dec true, .dec true, .dec true, .dec true, .dec true, .dec false, .dec false, .dec false, .dec false, .dec false, .dec false, .dec true, .dec false], [], via (retP (And.intro (And.intro (And.intro (And.intro (And.intro (And.intro (And.intro (And.intro (And.intro (And.intro (And.intro (And.intro trivial e1) e1) e1) e1) e1) e2) e2) e2) e2) e2) e2) e2) (.one (.dp T4)) (false : Bool)) (by kernel_rfl)⟩))) (fun e1 =>
   Owp.some (⟨[.dec false, .dec false, .dec false, .dec false, .dec false, .dec false, .dec false, .dec false, .dec false, .dec false, .dec false, .dec true, .dec false], [], via (retP (And.intro (And.intro (And.intro (And.intro (And.intro (And.intro (And.intro (And.intro (And.intro (And.intro (And.intro (And.intro trivial e1) e1) e1) e1) e1) ff) ff) ff) ff) ff) ff) ff) (.one (.dp T4)) (false : Bool)) (by kernel_rfl)⟩))
theorem tourkeep2_RayHits_2.ok (k : Nat) : FnOk PR 33 (tourkeep2_RayHits_2.sp k) :=
  fn_ok (tourkeep2_RayHits_2.cok k) hmix Try.func33 (code := tourkeep2_RayHits_2.code) (by kernel_rfl) (by kernel_rfl) (by kernel_rfl) rfl rfl (by kernel_rfl) (by kernel_rfl) (by kernel_rfl) (fun x => Nat.le_of_ble_eq_true (by kernel_rfl)) fun x y hy => (tourkeep2_RayHits_2.way k x.1 x.2.1 x.2.2.1).ap hy

/-! slices.Index[[]int,int] -/
noncomputable def slices_Index_109.code : Code := Func.cd Try.f109
def slices_Index_109.c1 (k : Nat) (a0 : (List Int)) (a1 : Int) : Nat → Int → Option (Int ⊕ Unit)
  | 0, _ => none
  | n + 1, v1 =>
   bif' (ilt v1 (len a0))
   (req (inL v1 a0) <|
    bif' (ieq a1 (el 0 a0 v1))
    (some (.inl v1))
    (slices_Index_109.c1 k a0 a1 n (iadd .i64 v1 1)))
   (some (.inr ()))
def slices_Index_109 (k : Nat) (a0 : (List Int)) (a1 : Int) : Option Int :=
  bnd (slices_Index_109.c1 k a0 a1 k 0) fun o5 =>
  two o5 (fun y7 =>
  some y7) (fun y9 =>
  some (-1))
noncomputable def slices_Index_109.sp (k : Nat) : Go.Sx.Spec := ⟨(.pair T31 (.pair T2 .unit)), (.one (.dp T2)), fun x => slices_Index_109 k x.1 x.2.1, false⟩
noncomputable def slices_Index_109.cx (k : Nat) : Go.Sx.Ctx := ⟨tys, [], eqs, 19, 0, [], false⟩
theorem slices_Index_109.cok (k : Nat) : CtxOk PR (slices_Index_109.cx k) := ctx_ok tysOk eqsOk FnsOk.nil HsOk.nil
noncomputable def slices_Index_109.c1p (a0 : (List Int)) (a1 : Int) (v1 : Int) : SL := ⟨[(0, (.val T31 a0)), (1, (.val T2 a1)), (7, (.val T2 (len a0))), (8, (.val T2 v1))], []⟩
noncomputable def slices_Index_109.c1q (o : Int ⊕ Unit) : SL := (fun o => two o (fun v => ⟨[(4, (.val T2 v))], []⟩) (fun v => ⟨[], []⟩)) o
noncomputable def slices_Index_109.c1x (o : Int ⊕ Unit) : Ex := (fun o => two o (fun _ => .ret) (fun _ => (.exit 0))) o
noncomputable def slices_Index_109.c1n (o : Int ⊕ Unit) : Nat := (fun o => two o (fun _ => 0) (fun _ => 0)) o
theorem slices_Index_109.c1_ok (k : Nat) (a0 : (List Int)) (a1 : Int) : ∀ (n : Nat) (v1 : Int), Owp (slices_Index_109.c1 k a0 a1 n v1) fun o => LTriple PR (slices_Index_109.cx k) (sub slices_Index_109.code [1, 0, 1, 0, 0]) 0 (slices_Index_109.c1p a0 a1 v1) (slices_Index_109.c1x o) (slices_Index_109.c1n o) (slices_Index_109.c1q o)
  | 0, _ => fun _ h => nomatch h
  | n + 1, v1 => Owp.of (slices_Index_109.c1.eq_2 ..) (
   Owp.bif (fun e2 =>
   Owp.req fun h3 =>
    Owp.bif (fun e4 =>
    Owp.some (loop_exit (slices_Index_109.cok k) hmix [.dec true, .dec true] [] [] exne_ret (via (finP (And.intro (And.intro (And.intro trivial e2) h3) e4) .ret [] (slices_Index_109.c1q (.inl v1))) (by kernel_rfl)))) (fun e4 =>
    fun y hy => loop_back (slices_Index_109.cok k) hmix 0 (slices_Index_109.c1p a0 a1 (iadd .i64 v1 (1 : Int))) [.dec true, .dec false] [] [] (via (finP (And.intro (And.intro (And.intro trivial e2) h3) e4) .normal [] (slices_Index_109.c1p a0 a1 (iadd .i64 v1 (1 : Int)))) (by kernel_rfl)) ((slices_Index_109.c1_ok k a0 a1 n (iadd .i64 v1 (1 : Int))).ap hy))) (fun e2 =>
   Owp.some (loop_exit (slices_Index_109.cok k) hmix [.dec false] [] [] (exne 0) (via (finP (And.intro trivial e2) (.exit 0) [] (slices_Index_109.c1q (.inr ()))) (by kernel_rfl)))))
theorem slices_Index_109.way (k : Nat) (a0 : (List Int)) (a1 : Int) : Owp (slices_Index_109 k a0 a1) fun y => ∃ answers cmds, exec PR (slices_Index_109.cx k) slices_Index_109.code 0 (entry (.pair T31 (.pair T2 .unit)) (a0, a1, ())).st answers (Ret (slices_Index_109.cx k) Try.f109 cmds (.one (.dp T2)) y) := by
  unfold slices_Index_109; exact
   Owp.bnd fun o5 e6 =>
   Owp.two (fun y7 e8 =>
   Owp.some (⟨[.cut ⟨[], [], (slices_Index_109.c1p a0 a1 (0 : Int)), 0, .ret, (slices_Index_109.c1q (.inl y7)), 0⟩], [], via (cutP trivial [] (slices_Index_109.c1p a0 a1 (0 : Int)) (((slices_Index_109.c1_ok k a0 a1 k (0 : Int)).ap (e6.trans (congrArg some e8))).triple) (retP trivial (.one (.dp T2)) (y7 : Int))) (by kernel_rfl)⟩)) (fun y9 e10 =>
   Owp.some (⟨[.cut ⟨[], [], (slices_Index_109.c1p a0 a1 (0 : Int)), 0, (.exit 0), (slices_Index_109.c1q (.inr ())), 0⟩], [], via (cutP trivial [] (slices_Index_109.c1p a0 a1 (0 : Int)) (((slices_Index_109.c1_ok k a0 a1 k (0 : Int)).ap (e6.trans (congrArg some e10))).triple) (retP trivial (.one (.dp T2)) ((-1 : Int) : Int))) (by kernel_rfl)⟩))
theorem slices_Index_109.ok (k : Nat) : FnOk PR 109 (slices_Index_109.sp k) :=
  fn_ok (slices_Index_109.cok k) hmix Try.func109 (code := slices_Index_109.code) (by kernel_rfl) (by kernel_rfl) (by kernel_rfl) rfl rfl (by kernel_rfl) (by kernel_rfl) (by kernel_rfl) (fun x => Nat.le_of_ble_eq_true (by kernel_rfl)) fun x y hy => (slices_Index_109.way k x.1 x.2.1).ap hy

/-! slices.Contains[[]int,int] -/
noncomputable def slices_Contains_34.code : Code := Func.cd Try.f34
def slices_Contains_34 (k : Nat) (a0 : (List Int)) (a1 : Int) : Option Bool :=
  bnd (slices_Index_109 k a0 a1) fun y1 =>
  some (ige y1 0)
noncomputable def slices_Contains_34.sp (k : Nat) : Go.Sx.Spec := ⟨(.pair T31 (.pair T2 .unit)), (.one (.dp T4)), fun x => slices_Contains_34 k x.1 x.2.1, false⟩
noncomputable def slices_Contains_34.cx (k : Nat) : Go.Sx.Ctx := ⟨tys, [(109, slices_Index_109.sp k)], eqs, 9, 0, [], false⟩
theorem slices_Contains_34.cok (k : Nat) : CtxOk PR (slices_Contains_34.cx k) := ctx_ok tysOk eqsOk (FnsOk.cons (slices_Index_109.ok k) FnsOk.nil) HsOk.nil
theorem slices_Contains_34.way (k : Nat) (a0 : (List Int)) (a1 : Int) : Owp (slices_Contains_34 k a0 a1) fun y => ∃ answers cmds, exec PR (slices_Contains_34.cx k) slices_Contains_34.code 0 (entry (.pair T31 (.pair T2 .unit)) (a0, a1, ())).st answers (Ret (slices_Contains_34.cx k) Try.f34 cmds (.one (.dp T4)) y) := by
  unfold slices_Contains_34; exact
   Owp.bnd fun y1 e2 =>
   Owp.some (⟨[.res (.one (.dp T2)) y1], [], via (retP (And.intro trivial e2) (.one (.dp T4)) ((ige y1 (0 : Int)) : Bool)) (by kernel_rfl)⟩)
theorem slices_Contains_34.ok (k : Nat) : FnOk PR 34 (slices_Contains_34.sp k) :=
  fn_ok (slices_Contains_34.cok k) hmix Try.func34 (code := slices_Contains_34.code) (by kernel_rfl) (by kernel_rfl) (by kernel_rfl) rfl rfl (by kernel_rfl) (by kernel_rfl) (by kernel_rfl) (fun x => Nat.le_of_ble_eq_true (by kernel_rfl)) fun x y hy => (slices_Contains_34.way k x.1 x.2.1).ap hy

/-! tourney/tourkeep2.RayHits -/
noncomputable def tourkeep2_RayHits.code : Code := Func.cd Try.f6
def tourkeep2_RayHits.c1 (k : Nat) (y3 : V27) (y5 : V27) (y7 : (Int × (Int × Int))) (y12 : V27) : Option (V27) :=
  bif' (ieq y7.2.2 0)
  (bnd (vec_Scale k y5 y7.2.1) fun y15 =>
   bnd (vec_Add k y3 y15) fun y17 =>
   some y17)
  (some y12)
def tourkeep2_RayHits.c2 (k : Nat) (y23 : ((List Int) × Int)) (y27 : ((List Int) × Int)) : Option (Bool) :=
  bif' (ine y23.2 0)
  (some true)
  (some (ine y27.2 0))
def tourkeep2_RayHits.c3 (k : Nat) (o19 : V27) (y1 : V43) (y3 : V27) (y7 : (Int × (Int × Int))) (y23 : ((List Int) × Int)) (y27 : ((List Int) × Int)) : Option (Bool) :=
  bif' (ieq y7.2.2 4)
  (bif' (ieq y7.1 0)
   (bif' (ieq y7.2.1 0)
    (bnd (slices_ContainsFunc_30 k y23.1 (fun x : (Int × Unit) => tourkeep2_RayHits_1 k (x.1) y1.1 o19)) fun y37 =>
     bif' y37
     (some false)
     (bnd (slices_ContainsFunc_30 k y27.1 (fun x : (Int × Unit) => tourkeep2_RayHits_2 k (x.1) y1.1 y3)) fun y40 =>
      some (!y40)))
    (some false))
   (some false))
  (some false)
def tourkeep2_RayHits (k : Nat) (a0 : (List Int)) (a1 : Int) (a2 : Int) (a3 : Int) (a4 : Int) : Option Bool :=
  bnd (tourmake_Scene k a0) fun y1 =>
  bnd (tourkeep2_place k a1 a2) fun y3 =>
  bnd (tourkeep2_place k a3 a4) fun y5 =>
  bnd (ray_Cast k y1.1 y3 y5) fun y7 =>
  bnd (tourkeep2_casts k) fun y9 =>
  bif' y9
  (bnd (vec_Add k y3 y5) fun y12 =>
   bnd (tourkeep2_RayHits.c1 k y3 y5 y7 y12) fun o19 =>
   bnd (tourkeep2_spot k o19 64) fun y21 =>
   bnd (ray_Meet k y1.1 y21) fun y23 =>
   bnd (tourkeep2_spot k y3 1) fun y25 =>
   bnd (ray_Meet k y1.1 y25) fun y27 =>
   bnd (tourkeep2_RayHits.c2 k y23 y27) fun o30 =>
   bif' o30
   (some false)
   (bif' (ine y7.2.2 0)
    (bnd (tourkeep2_RayHits.c3 k o19 y1 y3 y7 y23 y27) fun o42 =>
     some o42)
    (bnd (slices_Contains_34 k y23.1 y7.1) fun y44 =>
     some y44)))
  (some false)
noncomputable def tourkeep2_RayHits.sp (k : Nat) : Go.Sx.Spec := ⟨(.pair T31 (.pair T2 (.pair T2 T27))), (.one (.dp T4)), fun x => tourkeep2_RayHits k x.1 x.2.1 x.2.2.1 x.2.2.2.1 x.2.2.2.2.1, false⟩
noncomputable def tourkeep2_RayHits.cx (k : Nat) : Go.Sx.Ctx := ⟨tys, [(22, tourmake_Scene.sp k), (23, tourkeep2_place.sp k), (24, ray_Cast.sp k), (25, tourkeep2_casts.sp k), (26, vec_Add.sp k), (27, vec_Scale.sp k), (29, tourkeep2_spot.sp k), (28, ray_Meet.sp k), (30, slices_ContainsFunc_30.sp k), (31, tourkeep2_RayHits_1.sp k), (33, tourkeep2_RayHits_2.sp k), (34, slices_Contains_34.sp k)], eqs, 98, 0, [], false⟩
theorem tourkeep2_RayHits.cok (k : Nat) : CtxOk PR (tourkeep2_RayHits.cx k) := ctx_ok tysOk eqsOk (FnsOk.cons (tourmake_Scene.ok k) (FnsOk.cons (tourkeep2_place.ok k) (FnsOk.cons (ray_Cast.ok k) (FnsOk.cons (tourkeep2_casts.ok k) (FnsOk.cons (vec_Add.ok k) (FnsOk.cons (vec_Scale.ok k) (FnsOk.cons (tourkeep2_spot.ok k) (FnsOk.cons (ray_Meet.ok k) (FnsOk.cons (slices_ContainsFunc_30.ok k) (FnsOk.cons (tourkeep2_RayHits_1.ok k) (FnsOk.cons (tourkeep2_RayHits_2.ok k) (FnsOk.cons (slices_Contains_34.ok k) FnsOk.nil)))))))))))) HsOk.nil
noncomputable def tourkeep2_RayHits.c1p (y1 : V43) (y3 : V27) (y5 : V27) (y7 : (Int × (Int × Int))) (y12 : V27) : SL := ⟨[(11, (.val .ptr ⟨0, 0, (0 : Int), 0, 0⟩)), (12, (.val .ptr ⟨1, 0, (0 : Int), 0, 0⟩)), (13, (.val .ptr ⟨2, 0, (0 : Int), 0, 0⟩)), (14, (.val T2 y7.1)), (15, (.val T2 y7.2.1)), (16, (.val T2 y7.2.2)), (17, (.val .ptr ⟨3, 0, (0 : Int), 0, 0⟩)), (45, (.val T4 (ieq y7.2.2 (0 : Int))))], [(0, .cells (.slice T49) y1.1), (1, .cells T27 y3), (2, .cells T27 y5), (3, .cells T27 y12)]⟩
noncomputable def tourkeep2_RayHits.c1q (y1 : V43) (y3 : V27) (y7 : (Int × (Int × Int))) (o : V27) : SL := (fun v => ⟨[(11, (.val .ptr ⟨0, 0, (0 : Int), 0, 0⟩)), (12, (.val .ptr ⟨1, 0, (0 : Int), 0, 0⟩)), (14, (.val T2 y7.1)), (15, (.val T2 y7.2.1)), (16, (.val T2 y7.2.2)), (17, (.val .ptr ⟨2, 0, (0 : Int), 0, 0⟩))], [(0, .cells (.slice T49) y1.1), (1, .cells T27 y3), (2, .cells T27 v)]⟩) o
noncomputable def tourkeep2_RayHits.c1x (o : V27) : Ex := (fun _ => .normal) o
noncomputable def tourkeep2_RayHits.c1n (o : V27) : Nat := (fun _ => 3) o
theorem tourkeep2_RayHits.c1_ok (k : Nat) (y1 : V43) (y3 : V27) (y5 : V27) (y7 : (Int × (Int × Int))) (y12 : V27) : Owp (tourkeep2_RayHits.c1 k y3 y5 y7 y12) fun o => Triple PR (tourkeep2_RayHits.cx k) (sub tourkeep2_RayHits.code [1, 1, 1, 1, 1, 1, 0, 1]) 4 (tourkeep2_RayHits.c1p y1 y3 y5 y7 y12) (tourkeep2_RayHits.c1x o) (tourkeep2_RayHits.c1n o) (tourkeep2_RayHits.c1q y1 y3 y7 o) := by
  unfold tourkeep2_RayHits.c1; exact
   Owp.bif (fun e14 =>
   Owp.bnd fun y15 e16 =>
    Owp.bnd fun y17 e18 =>
    Owp.some (triple_way (tourkeep2_RayHits.cok k) hmix [.dec true, .res (.one (.dp T27)) y15, .res (.one (.dp T27)) y17] [] [(0, 0), (1, 1), (2, 3)] (via (finP (And.intro (And.intro (And.intro trivial e14) e16) e18) .normal [(0, 0), (1, 1), (2, 3)] (tourkeep2_RayHits.c1q y1 y3 y7 y17)) (by kernel_rfl)))) (fun e14 =>
   Owp.some (triple_way (tourkeep2_RayHits.cok k) hmix [.dec false] [] [(0, 0), (1, 1), (2, 3)] (via (finP (And.intro trivial e14) .normal [(0, 0), (1, 1), (2, 3)] (tourkeep2_RayHits.c1q y1 y3 y7 y12)) (by kernel_rfl))))
noncomputable def tourkeep2_RayHits.c2p (o19 : V27) (y1 : V43) (y3 : V27) (y7 : (Int × (Int × Int))) (y23 : ((List Int) × Int)) (y27 : ((List Int) × Int)) : SL := ⟨[(11, (.val .ptr ⟨0, 0, (0 : Int), 0, 0⟩)), (12, (.val .ptr ⟨1, 0, (0 : Int), 0, 0⟩)), (14, (.val T2 y7.1)), (15, (.val T2 y7.2.1)), (16, (.val T2 y7.2.2)), (17, (.val .ptr ⟨2, 0, (0 : Int), 0, 0⟩)), (18, (.val .own (3 : Nat))), (19, (.val T2 y23.2)), (20, (.val .own (4 : Nat))), (21, (.val T2 y27.2))], [(0, .cells (.slice T49) y1.1), (1, .cells T27 y3), (2, .cells T27 o19), (3, .row T2 y23.1 3), (4, .row T2 y27.1 3)]⟩
noncomputable def tourkeep2_RayHits.c2q (o19 : V27) (y1 : V43) (y3 : V27) (y7 : (Int × (Int × Int))) (y23 : ((List Int) × Int)) (y27 : ((List Int) × Int)) (o : Bool) : SL := (fun v => ⟨[(11, (.val .ptr ⟨0, 0, (0 : Int), 0, 0⟩)), (12, (.val .ptr ⟨1, 0, (0 : Int), 0, 0⟩)), (14, (.val T2 y7.1)), (15, (.val T2 y7.2.1)), (16, (.val T2 y7.2.2)), (17, (.val .ptr ⟨2, 0, (0 : Int), 0, 0⟩)), (18, (.val .own (3 : Nat))), (20, (.val .own (4 : Nat))), (70, (.val T4 v))], [(0, .cells (.slice T49) y1.1), (1, .cells T27 y3), (2, .cells T27 o19), (3, .row T2 y23.1 3), (4, .row T2 y27.1 3)]⟩) o
noncomputable def tourkeep2_RayHits.c2x (o : Bool) : Ex := (fun _ => .normal) o
noncomputable def tourkeep2_RayHits.c2n (o : Bool) : Nat := (fun _ => 5) o
theorem tourkeep2_RayHits.c2_ok (k : Nat) (o19 : V27) (y1 : V43) (y3 : V27) (y7 : (Int × (Int × Int))) (y23 : ((List Int) × Int)) (y27 : ((List Int) × Int)) : Owp (tourkeep2_RayHits.c2 k y23 y27) fun o => Triple PR (tourkeep2_RayHits.cx k) (sub tourkeep2_RayHits.code [1, 1, 1, 1, 1, 1, 1, 1, 1, 0, 0]) 5 (tourkeep2_RayHits.c2p o19 y1 y3 y7 y23 y27) (tourkeep2_RayHits.c2x o) (tourkeep2_RayHits.c2n o) (tourkeep2_RayHits.c2q o19 y1 y3 y7 y23 y27 o) := by
  unfold tourkeep2_RayHits.c2; exact
   Owp.bif (fun e29 =>
   Owp.some (triple_way (tourkeep2_RayHits.cok k) hmix [.dec true, .dec true, .dec true] [] [(0, 0), (1, 1), (2, 2), (3, 3), (4, 4)] (via (finP (And.intro (And.intro (And.intro trivial e29) e29) e29) .normal [(0, 0), (1, 1), (2, 2), (3, 3), (4, 4)] (tourkeep2_RayHits.c2q o19 y1 y3 y7 y23 y27 true)) (by kernel_rfl)))) (fun e29 =>
   Owp.some (triple_way (tourkeep2_RayHits.cok k) hmix [.dec false, .dec false, .dec false] [] [(0, 0), (1, 1), (2, 2), (3, 3), (4, 4)] (via (finP (And.intro (And.intro (And.intro trivial e29) e29) e29) .normal [(0, 0), (1, 1), (2, 2), (3, 3), (4, 4)] (tourkeep2_RayHits.c2q o19 y1 y3 y7 y23 y27 (ine y27.2 (0 : Int)))) (by kernel_rfl))))
noncomputable def tourkeep2_RayHits.c3p (o19 : V27) (y1 : V43) (y3 : V27) (y7 : (Int × (Int × Int))) (y23 : ((List Int) × Int)) (y27 : ((List Int) × Int)) : SL := ⟨[(11, (.val .ptr ⟨0, 0, (0 : Int), 0, 0⟩)), (12, (.val .ptr ⟨1, 0, (0 : Int), 0, 0⟩)), (14, (.val T2 y7.1)), (15, (.val T2 y7.2.1)), (16, (.val T2 y7.2.2)), (17, (.val .ptr ⟨2, 0, (0 : Int), 0, 0⟩)), (18, (.val .own (3 : Nat))), (20, (.val .own (4 : Nat)))], [(0, .cells (.slice T49) y1.1), (1, .cells T27 y3), (2, .cells T27 o19), (3, .row T2 y23.1 3), (4, .row T2 y27.1 3)]⟩
noncomputable def tourkeep2_RayHits.c3q (o : Bool) : SL := (fun v => ⟨[(10, (.val T4 v))], []⟩) o
noncomputable def tourkeep2_RayHits.c3x (o : Bool) : Ex := (fun _ => .normal) o
noncomputable def tourkeep2_RayHits.c3n (o : Bool) : Nat := (fun _ => 0) o
theorem tourkeep2_RayHits.c3_ok (k : Nat) (o19 : V27) (y1 : V43) (y3 : V27) (y7 : (Int × (Int × Int))) (y23 : ((List Int) × Int)) (y27 : ((List Int) × Int)) : Owp (tourkeep2_RayHits.c3 k o19 y1 y3 y7 y23 y27) fun o => Triple PR (tourkeep2_RayHits.cx k) (sub tourkeep2_RayHits.code [1, 1, 1, 1, 1, 1, 1, 1, 1, 1, 0, 1, 0, 0]) 5 (tourkeep2_RayHits.c3p o19 y1 y3 y7 y23 y27) (tourkeep2_RayHits.c3x o) (tourkeep2_RayHits.c3n o) (tourkeep2_RayHits.c3q o) := by
  unfold tourkeep2_RayHits.c3; exact
   Owp.bif (fun e34 =>
   Owp.bif (fun e35 =>
    Owp.bif (fun e36 =>
     Owp.bnd fun y37 e38 =>
      Owp.bif (fun e39 =>
      Owp.some (triple_way (tourkeep2_RayHits.cok k) hmix [.dec true, .dec true, .dec true, .dec true, .dec true, .dec true, .dec true, .dec true, .dec true, .res (.one (.dp T4)) y37, .dec true, .dec true, .dec false, .dec false, .dec false, .dec true, .dec false, .dec false] [] [] (via (finP (And.intro (And.intro (And.intro (And.intro (And.intro (And.intro (And.intro (And.intro (And.intro (And.intro (And.intro (And.intro (And.intro (And.intro (And.intro (And.intro trivial e34) e34) e34) e35) e35) e35) e36) e36) (And.intro e36 e38)) e36) e36) (congrArg not e39)) (congrArg not e39)) (congrArg not e39)) (congrArg not e39)) (congrArg not e39)) .normal [] (tourkeep2_RayHits.c3q false)) (by kernel_rfl)))) (fun e39 =>
      Owp.bnd fun y40 e41 =>
       Owp.some (triple_way (tourkeep2_RayHits.cok k) hmix [.dec true, .dec true, .dec true, .dec true, .dec true, .dec true, .dec true, .dec true, .dec true, .res (.one (.dp T4)) y37, .dec true, .dec true, .dec true, .dec true, .dec true, .res (.one (.dp T4)) y40, .dec true, .dec true] [] [] (via (finP (And.intro (And.intro (And.intro (And.intro (And.intro (And.intro (And.intro (And.intro (And.intro (And.intro (And.intro (And.intro (And.intro (And.intro (And.intro (And.intro trivial e34) e34) e34) e35) e35) e35) e36) e36) (And.intro e36 e38)) e36) e36) (congrArg not e39)) (congrArg not e39)) (And.intro (congrArg not e39) e41)) (congrArg not e39)) (congrArg not e39)) .normal [] (tourkeep2_RayHits.c3q (!y40))) (by kernel_rfl))))) (fun e36 =>
     Owp.some (triple_way (tourkeep2_RayHits.cok k) hmix [.dec true, .dec true, .dec true, .dec true, .dec true, .dec true, .dec false, .dec false, .dec false, .dec true, .dec false, .dec false, .dec false, .dec false, .dec false, .dec true, .dec false, .dec false] [] [] (via (finP (And.intro (And.intro (And.intro (And.intro (And.intro (And.intro (And.intro (And.intro (And.intro (And.intro (And.intro (And.intro (And.intro (And.intro (And.intro (And.intro trivial e34) e34) e34) e35) e35) e35) e36) e36) e36) e36) e36) ff) ff) ff) ff) ff) .normal [] (tourkeep2_RayHits.c3q false)) (by kernel_rfl))))) (fun e35 =>
    Owp.some (triple_way (tourkeep2_RayHits.cok k) hmix [.dec true, .dec true, .dec true, .dec false, .dec false, .dec false, .dec false, .dec false, .dec false, .dec true, .dec false, .dec false, .dec false, .dec false, .dec false, .dec true, .dec false, .dec false] [] [] (via (finP (And.intro (And.intro (And.intro (And.intro (And.intro (And.intro (And.intro (And.intro (And.intro (And.intro (And.intro (And.intro (And.intro (And.intro (And.intro (And.intro trivial e34) e34) e34) e35) e35) e35) ff) ff) ff) ff) ff) ff) ff) ff) ff) ff) .normal [] (tourkeep2_RayHits.c3q false)) (by kernel_rfl))))) (fun e34 =>
   Owp.some (triple_way (tourkeep2_RayHits.cok k) hmix [.dec false, .dec false, .dec false, .dec false, .dec false, .dec false, .dec false, .dec false, .dec false, .dec true, .dec false, .dec false, .dec false, .dec false, .dec false, .dec true, .dec false, .dec false] [] [] (via (finP (And.intro (And.intro (And.intro (And.intro (And.intro (And.intro (And.intro (And.intro (And.intro (And.intro (And.intro (And.intro (And.intro (And.intro (And.intro (And.intro trivial e34) e34) e34) ff) ff) ff) ff) ff) ff) ff) ff) ff) ff) ff) ff) ff) .normal [] (tourkeep2_RayHits.c3q false)) (by kernel_rfl))))
theorem tourkeep2_RayHits.way (k : Nat) (a0 : (List Int)) (a1 : Int) (a2 : Int) (a3 : Int) (a4 : Int) : Owp (tourkeep2_RayHits k a0 a1 a2 a3 a4) fun y => ∃ answers cmds, exec PR (tourkeep2_RayHits.cx k) tourkeep2_RayHits.code 0 (entry (.pair T31 (.pair T2 (.pair T2 T27))) (a0, a1, a2, a3, a4, ())).st answers (Ret (tourkeep2_RayHits.cx k) Try.f6 cmds (.one (.dp T4)) y) := by
  unfold tourkeep2_RayHits; exact
   Owp.bnd fun y1 e2 =>
   Owp.bnd fun y3 e4 =>
   Owp.bnd fun y5 e6 =>
   Owp.bnd fun y7 e8 =>
   Owp.bnd fun y9 e10 =>
   Owp.bif (fun e11 =>
   Owp.bnd fun y12 e13 =>
    Owp.bnd fun o19 e20 =>
    Owp.bnd fun y21 e22 =>
    Owp.bnd fun y23 e24 =>
    Owp.bnd fun y25 e26 =>
    Owp.bnd fun y27 e28 =>
    Owp.bnd fun o30 e31 =>
    Owp.bif (fun e32 =>
    Owp.some (⟨[.res (.one (.dp T43)) y1, .res (.one (.dp T27)) y3, .res (.one (.dp T27)) y5, .res (.more (.dp T2) (.more (.dp T2) (.one (.dp T2)))) y7, .res (.one (.dp T4)) y9, .dec false, .res (.one (.dp T27)) y12, .cut ⟨[], [(0, 4), (1, 12), (2, 13), (3, 32)], (tourkeep2_RayHits.c1p y1 y3 y5 y7 y12), 4, .normal, (tourkeep2_RayHits.c1q y1 y3 y7 o19), 3⟩, .res (.one (.ow T27 28)) y21, .res (.more (.ow T2 3) (.one (.dp T2))) y23, .res (.one (.ow T27 28)) y25, .res (.more (.ow T2 3) (.one (.dp T2))) y27, .cutR 11 ⟨[], [(0, 0), (1, 1), (2, 2), (3, 6), (4, 15)], (tourkeep2_RayHits.c2p o19 y1 y3 y7 y23 y27), 5, .normal, (tourkeep2_RayHits.c2q o19 y1 y3 y7 y23 y27 o30), 5⟩, .dec true], [], via (cutP (And.intro (And.intro (And.intro (And.intro (And.intro (And.intro (And.intro trivial e2) e4) e6) e8) e10) (congrArg not e11)) e13) [(0, 4), (1, 12), (2, 13), (3, 32)] (tourkeep2_RayHits.c1p y1 y3 y5 y7 y12) (((tourkeep2_RayHits.c1_ok k y1 y3 y5 y7 y12).ap e20)) (cutP (And.intro (And.intro (And.intro (And.intro trivial e22) e24) e26) e28) [(0, 0), (1, 1), (2, 2), (3, 6), (4, 15)] (tourkeep2_RayHits.c2p o19 y1 y3 y7 y23 y27) (((tourkeep2_RayHits.c2_ok k o19 y1 y3 y7 y23 y27).ap e31)) (retP (And.intro trivial e32) (.one (.dp T4)) (false : Bool)))) (by kernel_rfl)⟩)) (fun e32 =>
    Owp.bif (fun e33 =>
     Owp.bnd fun o42 e43 =>
      Owp.some (⟨[.res (.one (.dp T43)) y1, .res (.one (.dp T27)) y3, .res (.one (.dp T27)) y5, .res (.more (.dp T2) (.more (.dp T2) (.one (.dp T2)))) y7, .res (.one (.dp T4)) y9, .dec false, .res (.one (.dp T27)) y12, .cut ⟨[], [(0, 4), (1, 12), (2, 13), (3, 32)], (tourkeep2_RayHits.c1p y1 y3 y5 y7 y12), 4, .normal, (tourkeep2_RayHits.c1q y1 y3 y7 o19), 3⟩, .res (.one (.ow T27 28)) y21, .res (.more (.ow T2 3) (.one (.dp T2))) y23, .res (.one (.ow T27 28)) y25, .res (.more (.ow T2 3) (.one (.dp T2))) y27, .cutR 11 ⟨[], [(0, 0), (1, 1), (2, 2), (3, 6), (4, 15)], (tourkeep2_RayHits.c2p o19 y1 y3 y7 y23 y27), 5, .normal, (tourkeep2_RayHits.c2q o19 y1 y3 y7 y23 y27 o30), 5⟩, .dec false, .dec true, .cutR 14 ⟨[], [(0, 0), (1, 1), (2, 2), (3, 3), (4, 4)], (tourkeep2_RayHits.c3p o19 y1 y3 y7 y23 y27), 5, .normal, (tourkeep2_RayHits.c3q o42), 0⟩], [], via (cutP (And.intro (And.intro (And.intro (And.intro (And.intro (And.intro (And.intro trivial e2) e4) e6) e8) e10) (congrArg not e11)) e13) [(0, 4), (1, 12), (2, 13), (3, 32)] (tourkeep2_RayHits.c1p y1 y3 y5 y7 y12) (((tourkeep2_RayHits.c1_ok k y1 y3 y5 y7 y12).ap e20)) (cutP (And.intro (And.intro (And.intro (And.intro trivial e22) e24) e26) e28) [(0, 0), (1, 1), (2, 2), (3, 6), (4, 15)] (tourkeep2_RayHits.c2p o19 y1 y3 y7 y23 y27) (((tourkeep2_RayHits.c2_ok k o19 y1 y3 y7 y23 y27).ap e31)) (cutP (And.intro (And.intro trivial e32) e33) [(0, 0), (1, 1), (2, 2), (3, 3), (4, 4)] (tourkeep2_RayHits.c3p o19 y1 y3 y7 y23 y27) (((tourkeep2_RayHits.c3_ok k o19 y1 y3 y7 y23 y27).ap e43)) (retP trivial (.one (.dp T4)) (o42 : Bool))))) (by kernel_rfl)⟩)) (fun e33 =>
     Owp.bnd fun y44 e45 =>
      Owp.some (⟨[.res (.one (.dp T43)) y1, .res (.one (.dp T27)) y3, .res (.one (.dp T27)) y5, .res (.more (.dp T2) (.more (.dp T2) (.one (.dp T2)))) y7, .res (.one (.dp T4)) y9, .dec false, .res (.one (.dp T27)) y12, .cut ⟨[], [(0, 4), (1, 12), (2, 13), (3, 32)], (tourkeep2_RayHits.c1p y1 y3 y5 y7 y12), 4, .normal, (tourkeep2_RayHits.c1q y1 y3 y7 o19), 3⟩, .res (.one (.ow T27 28)) y21, .res (.more (.ow T2 3) (.one (.dp T2))) y23, .res (.one (.ow T27 28)) y25, .res (.more (.ow T2 3) (.one (.dp T2))) y27, .cutR 11 ⟨[], [(0, 0), (1, 1), (2, 2), (3, 6), (4, 15)], (tourkeep2_RayHits.c2p o19 y1 y3 y7 y23 y27), 5, .normal, (tourkeep2_RayHits.c2q o19 y1 y3 y7 y23 y27 o30), 5⟩, .dec false, .dec false, .res (.one (.dp T4)) y44], [], via (cutP (And.intro (And.intro (And.intro (And.intro (And.intro (And.intro (And.intro trivial e2) e4) e6) e8) e10) (congrArg not e11)) e13) [(0, 4), (1, 12), (2, 13), (3, 32)] (tourkeep2_RayHits.c1p y1 y3 y5 y7 y12) (((tourkeep2_RayHits.c1_ok k y1 y3 y5 y7 y12).ap e20)) (cutP (And.intro (And.intro (And.intro (And.intro trivial e22) e24) e26) e28) [(0, 0), (1, 1), (2, 2), (3, 6), (4, 15)] (tourkeep2_RayHits.c2p o19 y1 y3 y7 y23 y27) (((tourkeep2_RayHits.c2_ok k o19 y1 y3 y7 y23 y27).ap e31)) (retP (And.intro (And.intro (And.intro trivial e32) e33) e45) (.one (.dp T4)) (y44 : Bool)))) (by kernel_rfl)⟩)))) (fun e11 =>
   Owp.some (⟨[.res (.one (.dp T43)) y1, .res (.one (.dp T27)) y3, .res (.one (.dp T27)) y5, .res (.more (.dp T2) (.more (.dp T2) (.one (.dp T2)))) y7, .res (.one (.dp T4)) y9, .dec true], [], via (retP (And.intro (And.intro (And.intro (And.intro (And.intro (And.intro trivial e2) e4) e6) e8) e10) (congrArg not e11)) (.one (.dp T4)) (false : Bool)) (by kernel_rfl)⟩))
theorem tourkeep2_RayHits.ok (k : Nat) : FnOk PR 6 (tourkeep2_RayHits.sp k) :=
  fn_ok (tourkeep2_RayHits.cok k) hmix Try.func6 (code := tourkeep2_RayHits.code) (by kernel_rfl) (by kernel_rfl) (by kernel_rfl) rfl rfl (by kernel_rfl) (by kernel_rfl) (by kernel_rfl) (fun x => Nat.le_of_ble_eq_true (by kernel_rfl)) fun x y hy => (tourkeep2_RayHits.way k x.1 x.2.1 x.2.2.1 x.2.2.2.1 x.2.2.2.2.1).ap hy

end Go.Proofs.T1
