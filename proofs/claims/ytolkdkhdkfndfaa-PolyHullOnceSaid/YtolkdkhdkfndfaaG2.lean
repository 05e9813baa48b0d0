import Derived.Test.YtolkdkhdkfndfaaG0
import Derived.Test.YtolkdkhdkfndfaaG1
namespace Go.Proofs.T1
open Go Go.Sx Go.Proofs
set_option maxRecDepth 100000
set_option linter.unusedVariables false
/-! tourney/poly.Support -/
noncomputable def poly_Support.code : Code := Func.cd Try.f97
noncomputable def poly_Support.c1 (k : Nat) (a0 : (List V27)) (a1 : V27) : Nat → Int → Int → Option (Int)
  | 0, _, _ => none
  | n + 1, v4, v5 =>
   bif' (ilt v5 (len a0))
   (req (inL v5 a0) <|
    bnd (poly_Dot k (el Z27 a0 v5) a1) fun y8 =>
    req (inL v4 a0) <|
    bnd (poly_Dot k (el Z27 a0 v4) a1) fun y11 =>
    bnd (poly_Wide_Cmp k y8 y11) fun y13 =>
    bif' (igt y13 0)
    (poly_Support.c1 k a0 a1 n v5 (iadd .i64 v5 1))
    (poly_Support.c1 k a0 a1 n v4 (iadd .i64 v5 1)))
   (some v4)
noncomputable def poly_Support (k : Nat) (a0 : (List V27)) (a1 : V27) : Option Int :=
  bnd (poly_Check k a0) fun y1 =>
  bif' (ine y1 0)
  (some (-1))
  (bnd (poly_Support.c1 k a0 a1 k 0 0) fun o16 =>
   some o16)
noncomputable def poly_Support.sp (k : Nat) : Go.Sx.Spec := ⟨(.pair T22 (.pair T27 .unit)), (.one (.dp T2)), fun x => poly_Support k x.1 x.2.1, false⟩
noncomputable def poly_Support.cx (k : Nat) : Go.Sx.Ctx := ⟨tys, [(22, poly_Check.sp k), (151, poly_Dot.sp k), (152, poly_Wide_Cmp.sp k)], eqs, 32, 0, [], false⟩
theorem poly_Support.cok (k : Nat) : CtxOk PR (poly_Support.cx k) := ctx_ok tysOk eqsOk (FnsOk.cons (poly_Check.ok k) (FnsOk.cons (poly_Dot.ok k) (FnsOk.cons (poly_Wide_Cmp.ok k) FnsOk.nil))) HsOk.nil
noncomputable def poly_Support.c1p (a0 : (List V27)) (a1 : V27) (v4 : Int) (v5 : Int) : SL := ⟨[(0, (.val T22 a0)), (3, (.val .ptr ⟨0, 0, (0 : Int), 0, 0⟩)), (5, (.val T2 v4)), (11, (.val T22 a0)), (12, (.val T2 (len a0))), (13, (.val T2 v5))], [(0, .cells T27 a1)]⟩
noncomputable def poly_Support.c1q (o : Int) : SL := (fun v => ⟨[(5, (.val T2 v))], []⟩) o
noncomputable def poly_Support.c1x (o : Int) : Ex := (fun _ => (.exit 0)) o
noncomputable def poly_Support.c1n (o : Int) : Nat := (fun _ => 0) o
theorem poly_Support.c1_ok (k : Nat) (a0 : (List V27)) (a1 : V27) : ∀ (n : Nat) (v4 : Int) (v5 : Int), Owp (poly_Support.c1 k a0 a1 n v4 v5) fun o => LTriple PR (poly_Support.cx k) (sub poly_Support.code [1, 1, 1, 0, 1, 0, 0]) 1 (poly_Support.c1p a0 a1 v4 v5) (poly_Support.c1x o) (poly_Support.c1n o) (poly_Support.c1q o)
  | 0, _, _ => fun _ h => nomatch h
  | n + 1, v4, v5 => Owp.of (poly_Support.c1.eq_2 ..) (
   Owp.bif (fun e6 =>
   Owp.req fun h7 =>
    Owp.bnd fun y8 e9 =>
    Owp.req fun h10 =>
    Owp.bnd fun y11 e12 =>
    Owp.bnd fun y13 e14 =>
    Owp.bif (fun e15 =>
    fun y hy => loop_back (poly_Support.cok k) hmix 1 (poly_Support.c1p a0 a1 v5 (iadd .i64 v5 (1 : Int))) [.dec true, .res (.one (.dp T154)) y8, .res (.one (.dp T154)) y11, .res (.one (.dp T2)) y13, .dec true] [] [(0, 0)] (via (finP (And.intro (And.intro (And.intro (And.intro (And.intro (And.intro (And.intro trivial e6) h7) e9) h10) e12) e14) e15) .normal [(0, 0)] (poly_Support.c1p a0 a1 v5 (iadd .i64 v5 (1 : Int)))) (by kernel_rfl)) ((poly_Support.c1_ok k a0 a1 n v5 (iadd .i64 v5 (1 : Int))).ap hy)) (fun e15 =>
    fun y hy => loop_back (poly_Support.cok k) hmix 1 (poly_Support.c1p a0 a1 v4 (iadd .i64 v5 (1 : Int))) [.dec true, .res (.one (.dp T154)) y8, .res (.one (.dp T154)) y11, .res (.one (.dp T2)) y13, .dec false] [] [(0, 0)] (via (finP (And.intro (And.intro (And.intro (And.intro (And.intro (And.intro (And.intro trivial e6) h7) e9) h10) e12) e14) e15) .normal [(0, 0)] (poly_Support.c1p a0 a1 v4 (iadd .i64 v5 (1 : Int)))) (by kernel_rfl)) ((poly_Support.c1_ok k a0 a1 n v4 (iadd .i64 v5 (1 : Int))).ap hy))) (fun e6 =>
   Owp.some (loop_exit (poly_Support.cok k) hmix [.dec false] [] [] (exne 0) (via (finP (And.intro trivial e6) (.exit 0) [] (poly_Support.c1q v4)) (by kernel_rfl)))))
theorem poly_Support.way (k : Nat) (a0 : (List V27)) (a1 : V27) : Owp (poly_Support k a0 a1) fun y => ∃ answers cmds, exec PR (poly_Support.cx k) poly_Support.code 0 (entry (.pair T22 (.pair T27 .unit)) (a0, a1, ())).st answers (Ret (poly_Support.cx k) Try.f97 cmds (.one (.dp T2)) y) := by
  unfold poly_Support; exact
   Owp.bnd fun y1 e2 =>
   Owp.bif (fun e3 =>
   Owp.some (⟨[.res (.one (.dp T2)) y1, .dec true], [], via (retP (And.intro (And.intro trivial e2) e3) (.one (.dp T2)) ((-1 : Int) : Int)) (by kernel_rfl)⟩)) (fun e3 =>
   Owp.bnd fun o16 e17 =>
    Owp.some (⟨[.res (.one (.dp T2)) y1, .dec false, .cut ⟨[], [(0, 0)], (poly_Support.c1p a0 a1 (0 : Int) (0 : Int)), 1, (.exit 0), (poly_Support.c1q o16), 0⟩], [], via (cutP (And.intro (And.intro trivial e2) e3) [(0, 0)] (poly_Support.c1p a0 a1 (0 : Int) (0 : Int)) (((poly_Support.c1_ok k a0 a1 k (0 : Int) (0 : Int)).ap e17).triple) (retP trivial (.one (.dp T2)) (o16 : Int))) (by kernel_rfl)⟩))
theorem poly_Support.ok (k : Nat) : FnOk PR 97 (poly_Support.sp k) :=
  fn_ok (poly_Support.cok k) hmix Try.func97 (code := poly_Support.code) (by kernel_rfl) (by kernel_rfl) (by kernel_rfl) rfl rfl (by kernel_rfl) (by kernel_rfl) (by kernel_rfl) (fun x => Nat.le_of_ble_eq_true (by kernel_rfl)) fun x y hy => (poly_Support.way k x.1 x.2.1).ap hy

/-! slices.Equal[[]tourney/api.Vec,tourney/api.Vec] -/
noncomputable def slices_Equal.code : Code := Func.cd Try.f16
noncomputable def slices_Equal.c1 (k : Nat) (a0 : (List V27)) (a1 : (List V27)) : Nat → Int → Option (Unit ⊕ Unit)
  | 0, _ => none
  | n + 1, v2 =>
   bif' (ilt v2 (len a0))
   (req (inL v2 a0) <|
    req (inL v2 a1) <|
    bif' (Ty.eqb T27 (el Z27 a0 v2) (el Z27 a1 v2))
    (slices_Equal.c1 k a0 a1 n (iadd .i64 v2 1))
    (some (.inl ())))
   (some (.inr ()))
noncomputable def slices_Equal (k : Nat) (a0 : (List V27)) (a1 : (List V27)) : Option Bool :=
  bif' (ine (len a0) (len a1))
  (some false)
  (bnd (slices_Equal.c1 k a0 a1 k 0) fun o7 =>
   two o7 (fun y9 =>
   some false) (fun y11 =>
   some true))
noncomputable def slices_Equal.sp (k : Nat) : Go.Sx.Spec := ⟨(.pair T22 (.pair T22 .unit)), (.one (.dp T4)), fun x => slices_Equal k x.1 x.2.1, false⟩
noncomputable def slices_Equal.cx (k : Nat) : Go.Sx.Ctx := ⟨tys, [], eqs, 26, 0, [], false⟩
theorem slices_Equal.cok (k : Nat) : CtxOk PR (slices_Equal.cx k) := ctx_ok tysOk eqsOk FnsOk.nil HsOk.nil
noncomputable def slices_Equal.c1p (a0 : (List V27)) (a1 : (List V27)) (v2 : Int) : SL := ⟨[(0, (.val T22 a0)), (1, (.val T22 a1)), (12, (.val T2 (len a0))), (13, (.val T2 v2))], []⟩
noncomputable def slices_Equal.c1q (o : Unit ⊕ Unit) : SL := (fun o => two o (fun v => ⟨[(4, (.val T4 false))], []⟩) (fun v => ⟨[], []⟩)) o
noncomputable def slices_Equal.c1x (o : Unit ⊕ Unit) : Ex := (fun o => two o (fun _ => .ret) (fun _ => (.exit 0))) o
noncomputable def slices_Equal.c1n (o : Unit ⊕ Unit) : Nat := (fun o => two o (fun _ => 0) (fun _ => 0)) o
theorem slices_Equal.c1_ok (k : Nat) (a0 : (List V27)) (a1 : (List V27)) : ∀ (n : Nat) (v2 : Int), Owp (slices_Equal.c1 k a0 a1 n v2) fun o => LTriple PR (slices_Equal.cx k) (sub slices_Equal.code [1, 1, 0, 1, 0, 0]) 0 (slices_Equal.c1p a0 a1 v2) (slices_Equal.c1x o) (slices_Equal.c1n o) (slices_Equal.c1q o)
  | 0, _ => fun _ h => nomatch h
  | n + 1, v2 => Owp.of (slices_Equal.c1.eq_2 ..) (
   Owp.bif (fun e3 =>
   Owp.req fun h4 =>
    Owp.req fun h5 =>
    Owp.bif (fun e6 =>
    fun y hy => loop_back (slices_Equal.cok k) hmix 0 (slices_Equal.c1p a0 a1 (iadd .i64 v2 (1 : Int))) [.dec true, .dec false] [] [] (via (finP (And.intro (And.intro (And.intro (And.intro trivial e3) h4) h5) (congrArg not e6)) .normal [] (slices_Equal.c1p a0 a1 (iadd .i64 v2 (1 : Int)))) (by kernel_rfl)) ((slices_Equal.c1_ok k a0 a1 n (iadd .i64 v2 (1 : Int))).ap hy)) (fun e6 =>
    Owp.some (loop_exit (slices_Equal.cok k) hmix [.dec true, .dec true] [] [] exne_ret (via (finP (And.intro (And.intro (And.intro (And.intro trivial e3) h4) h5) (congrArg not e6)) .ret [] (slices_Equal.c1q (.inl ()))) (by kernel_rfl))))) (fun e3 =>
   Owp.some (loop_exit (slices_Equal.cok k) hmix [.dec false] [] [] (exne 0) (via (finP (And.intro trivial e3) (.exit 0) [] (slices_Equal.c1q (.inr ()))) (by kernel_rfl)))))
theorem slices_Equal.way (k : Nat) (a0 : (List V27)) (a1 : (List V27)) : Owp (slices_Equal k a0 a1) fun y => ∃ answers cmds, exec PR (slices_Equal.cx k) slices_Equal.code 0 (entry (.pair T22 (.pair T22 .unit)) (a0, a1, ())).st answers (Ret (slices_Equal.cx k) Try.f16 cmds (.one (.dp T4)) y) := by
  unfold slices_Equal; exact
   Owp.bif (fun e1 =>
   Owp.some (⟨[.dec true], [], via (retP (And.intro trivial e1) (.one (.dp T4)) (false : Bool)) (by kernel_rfl)⟩)) (fun e1 =>
   Owp.bnd fun o7 e8 =>
    Owp.two (fun y9 e10 =>
    Owp.some (⟨[.dec false, .cut ⟨[], [], (slices_Equal.c1p a0 a1 (0 : Int)), 0, .ret, (slices_Equal.c1q (.inl ())), 0⟩], [], via (cutP (And.intro trivial e1) [] (slices_Equal.c1p a0 a1 (0 : Int)) (((slices_Equal.c1_ok k a0 a1 k (0 : Int)).ap (e8.trans (congrArg some e10))).triple) (retP trivial (.one (.dp T4)) (false : Bool))) (by kernel_rfl)⟩)) (fun y11 e12 =>
    Owp.some (⟨[.dec false, .cut ⟨[], [], (slices_Equal.c1p a0 a1 (0 : Int)), 0, (.exit 0), (slices_Equal.c1q (.inr ())), 0⟩], [], via (cutP (And.intro trivial e1) [] (slices_Equal.c1p a0 a1 (0 : Int)) (((slices_Equal.c1_ok k a0 a1 k (0 : Int)).ap (e8.trans (congrArg some e12))).triple) (retP trivial (.one (.dp T4)) (true : Bool))) (by kernel_rfl)⟩)))
theorem slices_Equal.ok (k : Nat) : FnOk PR 16 (slices_Equal.sp k) :=
  fn_ok (slices_Equal.cok k) hmix Try.func16 (code := slices_Equal.code) (by kernel_rfl) (by kernel_rfl) (by kernel_rfl) rfl rfl (by kernel_rfl) (by kernel_rfl) (by kernel_rfl) (fun x => Nat.le_of_ble_eq_true (by kernel_rfl)) fun x y hy => (slices_Equal.way k x.1 x.2.1).ap hy

/-! slices.Index[[]tourney/api.Vec,tourney/api.Vec] -/
noncomputable def slices_Index.code : Code := Func.cd Try.f100
noncomputable def slices_Index.c1 (k : Nat) (a0 : (List V27)) (a1 : V27) : Nat → Int → Option (Int ⊕ Unit)
  | 0, _ => none
  | n + 1, v1 =>
   bif' (ilt v1 (len a0))
   (req (inL v1 a0) <|
    bif' (Ty.eqb T27 a1 (el Z27 a0 v1))
    (some (.inl v1))
    (slices_Index.c1 k a0 a1 n (iadd .i64 v1 1)))
   (some (.inr ()))
noncomputable def slices_Index (k : Nat) (a0 : (List V27)) (a1 : V27) : Option Int :=
  bnd (slices_Index.c1 k a0 a1 k 0) fun o5 =>
  two o5 (fun y7 =>
  some y7) (fun y9 =>
  some (-1))
noncomputable def slices_Index.sp (k : Nat) : Go.Sx.Spec := ⟨(.pair T22 (.pair T27 .unit)), (.one (.dp T2)), fun x => slices_Index k x.1 x.2.1, false⟩
noncomputable def slices_Index.cx (k : Nat) : Go.Sx.Ctx := ⟨tys, [], eqs, 19, 0, [], false⟩
theorem slices_Index.cok (k : Nat) : CtxOk PR (slices_Index.cx k) := ctx_ok tysOk eqsOk FnsOk.nil HsOk.nil
noncomputable def slices_Index.c1p (a0 : (List V27)) (a1 : V27) (v1 : Int) : SL := ⟨[(0, (.val T22 a0)), (3, (.val .ptr ⟨0, 0, (0 : Int), 0, 0⟩)), (7, (.val T2 (len a0))), (8, (.val T2 v1))], [(0, .cells T27 a1)]⟩
noncomputable def slices_Index.c1q (o : Int ⊕ Unit) : SL := (fun o => two o (fun v => ⟨[(4, (.val T2 v))], []⟩) (fun v => ⟨[], []⟩)) o
noncomputable def slices_Index.c1x (o : Int ⊕ Unit) : Ex := (fun o => two o (fun _ => .ret) (fun _ => (.exit 0))) o
noncomputable def slices_Index.c1n (o : Int ⊕ Unit) : Nat := (fun o => two o (fun _ => 0) (fun _ => 0)) o
theorem slices_Index.c1_ok (k : Nat) (a0 : (List V27)) (a1 : V27) : ∀ (n : Nat) (v1 : Int), Owp (slices_Index.c1 k a0 a1 n v1) fun o => LTriple PR (slices_Index.cx k) (sub slices_Index.code [1, 0, 1, 0, 0]) 1 (slices_Index.c1p a0 a1 v1) (slices_Index.c1x o) (slices_Index.c1n o) (slices_Index.c1q o)
  | 0, _ => fun _ h => nomatch h
  | n + 1, v1 => Owp.of (slices_Index.c1.eq_2 ..) (
   Owp.bif (fun e2 =>
   Owp.req fun h3 =>
    Owp.bif (fun e4 =>
    Owp.some (loop_exit (slices_Index.cok k) hmix [.dec true, .dec true] [] [] exne_ret (via (finP (And.intro (And.intro (And.intro trivial e2) h3) e4) .ret [] (slices_Index.c1q (.inl v1))) (by kernel_rfl)))) (fun e4 =>
    fun y hy => loop_back (slices_Index.cok k) hmix 1 (slices_Index.c1p a0 a1 (iadd .i64 v1 (1 : Int))) [.dec true, .dec false] [] [(0, 0)] (via (finP (And.intro (And.intro (And.intro trivial e2) h3) e4) .normal [(0, 0)] (slices_Index.c1p a0 a1 (iadd .i64 v1 (1 : Int)))) (by kernel_rfl)) ((slices_Index.c1_ok k a0 a1 n (iadd .i64 v1 (1 : Int))).ap hy))) (fun e2 =>
   Owp.some (loop_exit (slices_Index.cok k) hmix [.dec false] [] [] (exne 0) (via (finP (And.intro trivial e2) (.exit 0) [] (slices_Index.c1q (.inr ()))) (by kernel_rfl)))))
theorem slices_Index.way (k : Nat) (a0 : (List V27)) (a1 : V27) : Owp (slices_Index k a0 a1) fun y => ∃ answers cmds, exec PR (slices_Index.cx k) slices_Index.code 0 (entry (.pair T22 (.pair T27 .unit)) (a0, a1, ())).st answers (Ret (slices_Index.cx k) Try.f100 cmds (.one (.dp T2)) y) := by
  unfold slices_Index; exact
   Owp.bnd fun o5 e6 =>
   Owp.two (fun y7 e8 =>
   Owp.some (⟨[.cut ⟨[], [(0, 0)], (slices_Index.c1p a0 a1 (0 : Int)), 1, .ret, (slices_Index.c1q (.inl y7)), 0⟩], [], via (cutP trivial [(0, 0)] (slices_Index.c1p a0 a1 (0 : Int)) (((slices_Index.c1_ok k a0 a1 k (0 : Int)).ap (e6.trans (congrArg some e8))).triple) (retP trivial (.one (.dp T2)) (y7 : Int))) (by kernel_rfl)⟩)) (fun y9 e10 =>
   Owp.some (⟨[.cut ⟨[], [(0, 0)], (slices_Index.c1p a0 a1 (0 : Int)), 1, (.exit 0), (slices_Index.c1q (.inr ())), 0⟩], [], via (cutP trivial [(0, 0)] (slices_Index.c1p a0 a1 (0 : Int)) (((slices_Index.c1_ok k a0 a1 k (0 : Int)).ap (e6.trans (congrArg some e10))).triple) (retP trivial (.one (.dp T2)) ((-1 : Int) : Int))) (by kernel_rfl)⟩))
theorem slices_Index.ok (k : Nat) : FnOk PR 100 (slices_Index.sp k) :=
  fn_ok (slices_Index.cok k) hmix Try.func100 (code := slices_Index.code) (by kernel_rfl) (by kernel_rfl) (by kernel_rfl) rfl rfl (by kernel_rfl) (by kernel_rfl) (by kernel_rfl) (fun x => Nat.le_of_ble_eq_true (by kernel_rfl)) fun x y hy => (slices_Index.way k x.1 x.2.1).ap hy

/-! slices.Contains[[]tourney/api.Vec,tourney/api.Vec] -/
noncomputable def slices_Contains.code : Code := Func.cd Try.f25
noncomputable def slices_Contains (k : Nat) (a0 : (List V27)) (a1 : V27) : Option Bool :=
  bnd (slices_Index k a0 a1) fun y1 =>
  some (ige y1 0)
noncomputable def slices_Contains.sp (k : Nat) : Go.Sx.Spec := ⟨(.pair T22 (.pair T27 .unit)), (.one (.dp T4)), fun x => slices_Contains k x.1 x.2.1, false⟩
noncomputable def slices_Contains.cx (k : Nat) : Go.Sx.Ctx := ⟨tys, [(100, slices_Index.sp k)], eqs, 9, 0, [], false⟩
theorem slices_Contains.cok (k : Nat) : CtxOk PR (slices_Contains.cx k) := ctx_ok tysOk eqsOk (FnsOk.cons (slices_Index.ok k) FnsOk.nil) HsOk.nil
theorem slices_Contains.way (k : Nat) (a0 : (List V27)) (a1 : V27) : Owp (slices_Contains k a0 a1) fun y => ∃ answers cmds, exec PR (slices_Contains.cx k) slices_Contains.code 0 (entry (.pair T22 (.pair T27 .unit)) (a0, a1, ())).st answers (Ret (slices_Contains.cx k) Try.f25 cmds (.one (.dp T4)) y) := by
  unfold slices_Contains; exact
   Owp.bnd fun y1 e2 =>
   Owp.some (⟨[.res (.one (.dp T2)) y1], [], via (retP (And.intro trivial e2) (.one (.dp T4)) ((ige y1 (0 : Int)) : Bool)) (by kernel_rfl)⟩)
theorem slices_Contains.ok (k : Nat) : FnOk PR 25 (slices_Contains.sp k) :=
  fn_ok (slices_Contains.cok k) hmix Try.func25 (code := slices_Contains.code) (by kernel_rfl) (by kernel_rfl) (by kernel_rfl) rfl rfl (by kernel_rfl) (by kernel_rfl) (by kernel_rfl) (fun x => Nat.le_of_ble_eq_true (by kernel_rfl)) fun x y hy => (slices_Contains.way k x.1 x.2.1).ap hy

/-! tourney/tourmake.Below -/
noncomputable def tourmake_Below.code : Code := Func.cd Try.f82
noncomputable def tourmake_Below (k : Nat) (a0 : Int) (a1 : Int) : Option Int :=
  req (nz a1) <|
  bif' (ilt (irem a0 a1) 0)
  (some (iadd .i64 (irem a0 a1) a1))
  (some (irem a0 a1))
noncomputable def tourmake_Below.sp (k : Nat) : Go.Sx.Spec := ⟨T27, (.one (.dp T2)), fun x => tourmake_Below k x.1 x.2.1, false⟩
noncomputable def tourmake_Below.cx (k : Nat) : Go.Sx.Ctx := ⟨tys, [], eqs, 14, 0, [], false⟩
theorem tourmake_Below.cok (k : Nat) : CtxOk PR (tourmake_Below.cx k) := ctx_ok tysOk eqsOk FnsOk.nil HsOk.nil
theorem tourmake_Below.way (k : Nat) (a0 : Int) (a1 : Int) : Owp (tourmake_Below k a0 a1) fun y => ∃ answers cmds, exec PR (tourmake_Below.cx k) tourmake_Below.code 0 (entry T27 (a0, a1, ())).st answers (Ret (tourmake_Below.cx k) Try.f82 cmds (.one (.dp T2)) y) := by
  unfold tourmake_Below; exact
   Owp.req fun h1 =>
   Owp.bif (fun e2 =>
   Owp.some (⟨[.dec true], [], via (retP (And.intro (And.intro trivial h1) e2) (.one (.dp T2)) ((iadd .i64 (irem a0 a1) a1) : Int)) (by kernel_rfl)⟩)) (fun e2 =>
   Owp.some (⟨[.dec false], [], via (retP (And.intro (And.intro trivial h1) e2) (.one (.dp T2)) ((irem a0 a1) : Int)) (by kernel_rfl)⟩))
theorem tourmake_Below.ok (k : Nat) : FnOk PR 82 (tourmake_Below.sp k) :=
  fn_ok (tourmake_Below.cok k) hmix Try.func82 (code := tourmake_Below.code) (by kernel_rfl) (by kernel_rfl) (by kernel_rfl) rfl rfl (by kernel_rfl) (by kernel_rfl) (by kernel_rfl) (fun x => Nat.le_of_ble_eq_true (by kernel_rfl)) fun x y hy => (tourmake_Below.way k x.1 x.2.1).ap hy

end Go.Proofs.T1
