import Derived.Test.YtcgcnojpcgjnmaaG0
import Derived.Test.YtcgcnojpcgjnmaaG3
import Derived.Test.YtcgcnojpcgjnmaaG10
import Derived.Test.YtcgcnojpcgjnmaaG11
namespace Go.Proofs.T1
open Go Go.Sx Go.Proofs
set_option maxRecDepth 100000
set_option linter.unusedVariables false
/-! tourney/body.Bounds -/
noncomputable def body_Bounds.code : Code := Func.cd Try.f37
def body_Bounds.c1 (k : Nat) (y5 : (V22 × (List V22))) : Nat → Int → V22 → V22 → Option ((V22 × V22))
  | 0, _, _, _ => none
  | n + 1, v9, v10, v11 =>
   bif' (ilt v9 (len (cut (y5.1 :: y5.2) 1 (List.length (y5.1 :: y5.2) : Int))))
   (req (inL v9 (cut (y5.1 :: y5.2) 1 (List.length (y5.1 :: y5.2) : Int))) <|
    body_Bounds.c1 k y5 n (iadd .i64 v9 1) ((imin v10.1 (el Z22 (cut (y5.1 :: y5.2) 1 (List.length (y5.1 :: y5.2) : Int)) v9).1), (imin v10.2.1 (el Z22 (cut (y5.1 :: y5.2) 1 (List.length (y5.1 :: y5.2) : Int)) v9).2.1), ()) ((imax v11.1 (el Z22 (cut (y5.1 :: y5.2) 1 (List.length (y5.1 :: y5.2) : Int)) v9).1), (imax v11.2.1 (el Z22 (cut (y5.1 :: y5.2) 1 (List.length (y5.1 :: y5.2) : Int)) v9).2.1), ()))
   (some (v10, v11))
def body_Bounds (k : Nat) (a0 : V25) : Option (V22 × (V22 × Unit)) :=
  bnd (splitL (body_Place k a0)) fun s1 =>
  two s1 (fun y3 =>
  some ((0, 0, ()), (0, 0, ()), ())) (fun y5 =>
  req (inL 0 (y5.1 :: y5.2)) <|
   req (cutOk (y5.1 :: y5.2) 1 (List.length (y5.1 :: y5.2) : Int)) <|
   bnd (body_Bounds.c1 k y5 k 0 (el Z22 (y5.1 :: y5.2) 0) (el Z22 (y5.1 :: y5.2) 0)) fun o14 =>
   some (o14.1, o14.2, ()))
noncomputable def body_Bounds.sp (k : Nat) : Go.Sx.Spec := ⟨(.pair T25 .unit), (.one (.dp (.pair T22 (.pair T22 .unit)))), fun x => body_Bounds k x.1, false⟩
noncomputable def body_Bounds.cx (k : Nat) : Go.Sx.Ctx := ⟨tys, [(36, body_Place.sp k)], eqs, 56, false⟩
theorem body_Bounds.cok (k : Nat) : CtxOk PR (body_Bounds.cx k) := ctx_ok tysOk eqsOk (FnsOk.cons (body_Place.ok k) FnsOk.nil)
noncomputable def body_Bounds.c1p (y5 : (V22 × (List V22))) (v9 : Int) (v10 : V22) (v11 : V22) : SL := ⟨[(2, (.val .ptr ⟨0, 0, (0 : Int), 0, 0⟩)), (4, (.val .ptr ⟨1, 0, (0 : Int), 0, 0⟩)), (20, (.val T24 (cut (y5.1 :: y5.2) (1 : Int) (List.length (y5.1 :: y5.2) : Int)))), (21, (.val T2 (len (cut (y5.1 :: y5.2) (1 : Int) (List.length (y5.1 :: y5.2) : Int))))), (22, (.val T2 v9))], [(0, .cells (.pair T22 (.pair T22 .unit)) (((0 : Int), (0 : Int), ()), ((0 : Int), (0 : Int), ()), ())), (1, .cells (.pair T22 (.pair T22 .unit)) (v10, v11, ()))]⟩
noncomputable def body_Bounds.c1q (o : (V22 × V22)) : SL := (fun v => ⟨[(2, (.val .ptr ⟨0, 0, (0 : Int), 0, 0⟩)), (4, (.val .ptr ⟨1, 0, (0 : Int), 0, 0⟩))], [(0, .cells (.pair T22 (.pair T22 .unit)) (((0 : Int), (0 : Int), ()), ((0 : Int), (0 : Int), ()), ())), (1, .cells (.pair T22 (.pair T22 .unit)) (v.1, v.2, ()))]⟩) o
noncomputable def body_Bounds.c1x (o : (V22 × V22)) : Ex := (fun _ => (.exit 0)) o
noncomputable def body_Bounds.c1n (o : (V22 × V22)) : Nat := (fun _ => 2) o
theorem body_Bounds.c1_ok (k : Nat) (y5 : (V22 × (List V22))) : ∀ (n : Nat) (v9 : Int) (v10 : V22) (v11 : V22), Owp (body_Bounds.c1 k y5 n v9 v10 v11) fun o => LTriple PR (body_Bounds.cx k) (sub body_Bounds.code [1, 1, 1, 1, 0, 1, 0, 0]) 2 (body_Bounds.c1p y5 v9 v10 v11) (body_Bounds.c1x o) (body_Bounds.c1n o) (body_Bounds.c1q o)
  | 0, _, _, _ => fun _ h => nomatch h
  | n + 1, v9, v10, v11 => Owp.of (body_Bounds.c1.eq_2 ..) (
   Owp.bif (fun e12 =>
   Owp.req fun h13 =>
    fun y hy => loop_back (body_Bounds.cok k) hmix 2 (body_Bounds.c1p y5 (iadd .i64 v9 (1 : Int)) ((imin v10.1 (el Z22 (cut (y5.1 :: y5.2) (1 : Int) (List.length (y5.1 :: y5.2) : Int)) v9).1), (imin v10.2.1 (el Z22 (cut (y5.1 :: y5.2) (1 : Int) (List.length (y5.1 :: y5.2) : Int)) v9).2.1), ()) ((imax v11.1 (el Z22 (cut (y5.1 :: y5.2) (1 : Int) (List.length (y5.1 :: y5.2) : Int)) v9).1), (imax v11.2.1 (el Z22 (cut (y5.1 :: y5.2) (1 : Int) (List.length (y5.1 :: y5.2) : Int)) v9).2.1), ())) [.dec true] [] [(0, 0), (1, 1)] (via (finP (And.intro (And.intro trivial e12) h13) .normal [(0, 0), (1, 1)] (body_Bounds.c1p y5 (iadd .i64 v9 (1 : Int)) ((imin v10.1 (el Z22 (cut (y5.1 :: y5.2) (1 : Int) (List.length (y5.1 :: y5.2) : Int)) v9).1), (imin v10.2.1 (el Z22 (cut (y5.1 :: y5.2) (1 : Int) (List.length (y5.1 :: y5.2) : Int)) v9).2.1), ()) ((imax v11.1 (el Z22 (cut (y5.1 :: y5.2) (1 : Int) (List.length (y5.1 :: y5.2) : Int)) v9).1), (imax v11.2.1 (el Z22 (cut (y5.1 :: y5.2) (1 : Int) (List.length (y5.1 :: y5.2) : Int)) v9).2.1), ()))) (by kernel_rfl)) ((body_Bounds.c1_ok k y5 n (iadd .i64 v9 (1 : Int)) ((imin v10.1 (el Z22 (cut (y5.1 :: y5.2) (1 : Int) (List.length (y5.1 :: y5.2) : Int)) v9).1), (imin v10.2.1 (el Z22 (cut (y5.1 :: y5.2) (1 : Int) (List.length (y5.1 :: y5.2) : Int)) v9).2.1), ()) ((imax v11.1 (el Z22 (cut (y5.1 :: y5.2) (1 : Int) (List.length (y5.1 :: y5.2) : Int)) v9).1), (imax v11.2.1 (el Z22 (cut (y5.1 :: y5.2) (1 : Int) (List.length (y5.1 :: y5.2) : Int)) v9).2.1), ())).ap hy)) (fun e12 =>
   Owp.some (loop_exit (body_Bounds.cok k) hmix [.dec false] [] [(0, 0), (1, 1)] (exne 0) (via (finP (And.intro trivial e12) (.exit 0) [(0, 0), (1, 1)] (body_Bounds.c1q (v10, v11))) (by kernel_rfl)))))
theorem body_Bounds.way (k : Nat) (a0 : V25) : Owp (body_Bounds k a0) fun y => ∃ answers cmds, exec PR (body_Bounds.cx k) body_Bounds.code 0 (entry (.pair T25 .unit) (a0, ())).st answers (Ret (body_Bounds.cx k) Try.f37 cmds (.one (.dp (.pair T22 (.pair T22 .unit)))) y) := by
  unfold body_Bounds; exact
   Owp.bnd fun s1 e2 =>
   Owp.two (fun y3 e4 =>
   Owp.some (⟨[.res (.one (.dn T22)) ([] : (List V22)), .dec true], [], via (retP (And.intro (And.intro trivial (splitL_nil e2 e4)) tt) (.one (.dp (.pair T22 (.pair T22 .unit)))) ((((0 : Int), (0 : Int), ()), ((0 : Int), (0 : Int), ()), ()) : (V22 × (V22 × Unit)))) (by kernel_rfl)⟩)) (fun y5 e6 =>
   Owp.req fun h7 =>
    Owp.req fun h8 =>
    Owp.bnd fun o14 e15 =>
    Owp.some (⟨[.res (.one (.dn T22)) (y5.1 :: y5.2), .dec false, .cut ⟨[], [(0, 1), (1, 14)], (body_Bounds.c1p y5 (0 : Int) (el Z22 (y5.1 :: y5.2) (0 : Int)) (el Z22 (y5.1 :: y5.2) (0 : Int))), 2, (.exit 0), (body_Bounds.c1q o14), 2⟩], [], via (cutP (And.intro (And.intro (And.intro (And.intro (And.intro trivial (splitL_cons e2 e6)) ff) h7) h7) h8) [(0, 1), (1, 14)] (body_Bounds.c1p y5 (0 : Int) (el Z22 (y5.1 :: y5.2) (0 : Int)) (el Z22 (y5.1 :: y5.2) (0 : Int))) (((body_Bounds.c1_ok k y5 k (0 : Int) (el Z22 (y5.1 :: y5.2) (0 : Int)) (el Z22 (y5.1 :: y5.2) (0 : Int))).ap e15).triple) (retP trivial (.one (.dp (.pair T22 (.pair T22 .unit)))) ((o14.1, o14.2, ()) : (V22 × (V22 × Unit))))) (by kernel_rfl)⟩))
theorem body_Bounds.ok (k : Nat) : FnOk PR 37 (body_Bounds.sp k) :=
  fn_ok (body_Bounds.cok k) hmix Try.func37 (code := body_Bounds.code) (by kernel_rfl) (by kernel_rfl) (by kernel_rfl) rfl (by kernel_rfl) (by kernel_rfl) (by kernel_rfl) (fun x => Nat.le_of_ble_eq_true (by kernel_rfl)) fun x y hy => (body_Bounds.way k x.1).ap hy

/-! tourney/body.Move -/
noncomputable def body_Move.code : Code := Func.cd Try.f42
def body_Move.c1 (k : Nat) (a1 : Int) (y1 : V25) : Option (Bool) :=
  bnd (body_Check k y1) fun y3 =>
  bif' (ine y3 0)
  (some true)
  (bif' (ieq y1.2.2.2.2.1 0)
   (some true)
   (bif' y1.2.2.2.2.2.2.2.2.2.1
    (some true)
    (bif' (ilt a1 0)
     (some true)
     (some (igt a1 65536)))))
def body_Move (k : Nat) (a0 : V25) (a1 : Int) : Option V25 :=
  bnd (body_own k a0) fun y1 =>
  bnd (body_Move.c1 k a1 y1) fun o9 =>
  bif' o9
  (some y1)
  (bnd (fix_Mul k y1.2.1.1 a1) fun y12 =>
   bnd (body_clamp k (iadd .i64 y1.1.1 y12) 58982400) fun y14 =>
   bnd (fix_Mul k y1.2.1.2.1 a1) fun y16 =>
   bnd (body_clamp k (iadd .i64 y1.1.2.1 y16) 58982400) fun y18 =>
   bnd (fix_Mul k y1.2.2.2.1 a1) fun y20 =>
   some ((y14, y18, ()), y1.2.1, (irem (iadd .i64 (irem (iadd .i64 y1.2.2.1 y20) 65536) 65536) 65536), y1.2.2.2))
noncomputable def body_Move.sp (k : Nat) : Go.Sx.Spec := ⟨(.pair T25 (.pair T2 .unit)), (.one (.dp T25)), fun x => body_Move k x.1 x.2.1, false⟩
noncomputable def body_Move.cx (k : Nat) : Go.Sx.Ctx := ⟨tys, [(80, body_own.sp k), (41, body_Check.sp k), (89, fix_Mul.sp k), (84, body_clamp.sp k)], eqs, 64, false⟩
theorem body_Move.cok (k : Nat) : CtxOk PR (body_Move.cx k) := ctx_ok tysOk eqsOk (FnsOk.cons (body_own.ok k) (FnsOk.cons (body_Check.ok k) (FnsOk.cons (fix_Mul.ok k) (FnsOk.cons (body_clamp.ok k) FnsOk.nil))))
noncomputable def body_Move.c1p (a1 : Int) (y1 : V25) : SL := ⟨[(1, (.val T2 a1)), (2, (.val .ptr ⟨0, 0, (0 : Int), 0, 0⟩)), (4, (.val .ptr ⟨1, 0, (0 : Int), 0, 0⟩))], [(0, .cells T25 y1), (1, .cells T25 (((0 : Int), (0 : Int), ()), ((0 : Int), (0 : Int), ()), (0 : Int), (0 : Int), (0 : Int), (0 : Int), (0 : Int), (0 : Int), [], false, (0 : Int), ()))]⟩
noncomputable def body_Move.c1q (a1 : Int) (y1 : V25) (o : Bool) : SL := (fun v => ⟨[(1, (.val T2 a1)), (2, (.val .ptr ⟨0, 0, (0 : Int), 0, 0⟩)), (4, (.val .ptr ⟨1, 0, (0 : Int), 0, 0⟩)), (26, (.val T4 v))], [(0, .cells T25 y1), (1, .cells T25 (((0 : Int), (0 : Int), ()), ((0 : Int), (0 : Int), ()), (0 : Int), (0 : Int), (0 : Int), (0 : Int), (0 : Int), (0 : Int), [], false, (0 : Int), ()))]⟩) o
noncomputable def body_Move.c1x (o : Bool) : Ex := (fun _ => .normal) o
noncomputable def body_Move.c1n (o : Bool) : Nat := (fun _ => 2) o
theorem body_Move.c1_ok (k : Nat) (a1 : Int) (y1 : V25) : Owp (body_Move.c1 k a1 y1) fun o => Triple PR (body_Move.cx k) (sub body_Move.code [1, 1, 0, 0]) 2 (body_Move.c1p a1 y1) (body_Move.c1x o) (body_Move.c1n o) (body_Move.c1q a1 y1 o) := by
  unfold body_Move.c1; exact
   Owp.bnd fun y3 e4 =>
   Owp.bif (fun e5 =>
   Owp.some (triple_way (body_Move.cok k) hmix [.res (.one (.dp T2)) y3, .dec true, .dec true, .dec true, .dec true, .dec true, .dec true, .dec true, .dec true, .dec true, .dec true, .dec true, .dec true, .dec true] [] [(0, 0), (1, 1)] (via (finP (And.intro (And.intro (And.intro (And.intro (And.intro (And.intro (And.intro (And.intro (And.intro (And.intro (And.intro (And.intro (And.intro (And.intro trivial e4) e5) e5) e5) e5) tt) tt) tt) tt) tt) tt) tt) tt) tt) .normal [(0, 0), (1, 1)] (body_Move.c1q a1 y1 true)) (by kernel_rfl)))) (fun e5 =>
   Owp.bif (fun e6 =>
    Owp.some (triple_way (body_Move.cok k) hmix [.res (.one (.dp T2)) y3, .dec false, .dec false, .dec false, .dec false, .dec true, .dec true, .dec true, .dec true, .dec true, .dec true, .dec true, .dec true, .dec true] [] [(0, 0), (1, 1)] (via (finP (And.intro (And.intro (And.intro (And.intro (And.intro (And.intro (And.intro (And.intro (And.intro (And.intro (And.intro (And.intro (And.intro (And.intro trivial e4) e5) e5) e5) e5) e6) e6) e6) tt) tt) tt) tt) tt) tt) .normal [(0, 0), (1, 1)] (body_Move.c1q a1 y1 true)) (by kernel_rfl)))) (fun e6 =>
    Owp.bif (fun e7 =>
     Owp.some (triple_way (body_Move.cok k) hmix [.res (.one (.dp T2)) y3, .dec false, .dec false, .dec false, .dec false, .dec false, .dec false, .dec false, .dec true, .dec true, .dec true, .dec true, .dec true, .dec true] [] [(0, 0), (1, 1)] (via (finP (And.intro (And.intro (And.intro (And.intro (And.intro (And.intro (And.intro (And.intro (And.intro (And.intro (And.intro (And.intro (And.intro (And.intro trivial e4) e5) e5) e5) e5) e6) e6) e6) e7) e7) e7) tt) tt) tt) .normal [(0, 0), (1, 1)] (body_Move.c1q a1 y1 true)) (by kernel_rfl)))) (fun e7 =>
     Owp.bif (fun e8 =>
      Owp.some (triple_way (body_Move.cok k) hmix [.res (.one (.dp T2)) y3, .dec false, .dec false, .dec false, .dec false, .dec false, .dec false, .dec false, .dec false, .dec false, .dec false, .dec true, .dec true, .dec true] [] [(0, 0), (1, 1)] (via (finP (And.intro (And.intro (And.intro (And.intro (And.intro (And.intro (And.intro (And.intro (And.intro (And.intro (And.intro (And.intro (And.intro (And.intro trivial e4) e5) e5) e5) e5) e6) e6) e6) e7) e7) e7) e8) e8) e8) .normal [(0, 0), (1, 1)] (body_Move.c1q a1 y1 true)) (by kernel_rfl)))) (fun e8 =>
      Owp.some (triple_way (body_Move.cok k) hmix [.res (.one (.dp T2)) y3, .dec false, .dec false, .dec false, .dec false, .dec false, .dec false, .dec false, .dec false, .dec false, .dec false, .dec false, .dec false, .dec false] [] [(0, 0), (1, 1)] (via (finP (And.intro (And.intro (And.intro (And.intro (And.intro (And.intro (And.intro (And.intro (And.intro (And.intro (And.intro (And.intro (And.intro (And.intro trivial e4) e5) e5) e5) e5) e6) e6) e6) e7) e7) e7) e8) e8) e8) .normal [(0, 0), (1, 1)] (body_Move.c1q a1 y1 (igt a1 (65536 : Int)))) (by kernel_rfl)))))))
theorem body_Move.way (k : Nat) (a0 : V25) (a1 : Int) : Owp (body_Move k a0 a1) fun y => ∃ answers cmds, exec PR (body_Move.cx k) body_Move.code 0 (entry (.pair T25 (.pair T2 .unit)) (a0, a1, ())).st answers (Ret (body_Move.cx k) Try.f42 cmds (.one (.dp T25)) y) := by
  unfold body_Move; exact
   Owp.bnd fun y1 e2 =>
   Owp.bnd fun o9 e10 =>
   Owp.bif (fun e11 =>
   Owp.some (⟨[.res (.one (.dp T25)) y1, .cutR 2 ⟨[], [(0, 0), (1, 1)], (body_Move.c1p a1 y1), 2, .normal, (body_Move.c1q a1 y1 o9), 2⟩, .dec true], [], via (cutP (And.intro trivial e2) [(0, 0), (1, 1)] (body_Move.c1p a1 y1) (((body_Move.c1_ok k a1 y1).ap e10)) (retP (And.intro trivial e11) (.one (.dp T25)) (y1 : V25))) (by kernel_rfl)⟩)) (fun e11 =>
   Owp.bnd fun y12 e13 =>
    Owp.bnd fun y14 e15 =>
    Owp.bnd fun y16 e17 =>
    Owp.bnd fun y18 e19 =>
    Owp.bnd fun y20 e21 =>
    Owp.some (⟨[.res (.one (.dp T25)) y1, .cutR 2 ⟨[], [(0, 0), (1, 1)], (body_Move.c1p a1 y1), 2, .normal, (body_Move.c1q a1 y1 o9), 2⟩, .dec false, .res (.one (.dp T2)) y12, .res (.one (.dp T2)) y14, .res (.one (.dp T2)) y16, .res (.one (.dp T2)) y18, .res (.one (.dp T2)) y20], [], via (cutP (And.intro trivial e2) [(0, 0), (1, 1)] (body_Move.c1p a1 y1) (((body_Move.c1_ok k a1 y1).ap e10)) (retP (And.intro (And.intro (And.intro (And.intro (And.intro (And.intro (And.intro (And.intro trivial e11) e13) e15) e17) e19) e21) (by decide : nz (65536 : Int))) (by decide : nz (65536 : Int))) (.one (.dp T25)) (((y14, y18, ()), y1.2.1, (irem (iadd .i64 (irem (iadd .i64 y1.2.2.1 y20) (65536 : Int)) (65536 : Int)) (65536 : Int)), y1.2.2.2) : V25))) (by kernel_rfl)⟩))
theorem body_Move.ok (k : Nat) : FnOk PR 42 (body_Move.sp k) :=
  fn_ok (body_Move.cok k) hmix Try.func42 (code := body_Move.code) (by kernel_rfl) (by kernel_rfl) (by kernel_rfl) rfl (by kernel_rfl) (by kernel_rfl) (by kernel_rfl) (fun x => Nat.le_of_ble_eq_true (by kernel_rfl)) fun x y hy => (body_Move.way k x.1 x.2.1).ap hy

/-! tourney/tourref2.World -/
noncomputable def tourref2_World.code : Code := Func.cd Try.f115
def tourref2_World (k : Nat) (a0 : V25) (a1 : V22) : Option V22 :=
  bnd (vec_Turn k a1 a0.2.2.1) fun y1 =>
  bnd (fix_Add k y1.1 a0.1.1) fun y3 =>
  bnd (fix_Add k y1.2.1 a0.1.2.1) fun y5 =>
  some (y3, y5, ())
noncomputable def tourref2_World.sp (k : Nat) : Go.Sx.Spec := ⟨(.pair T25 (.pair T22 .unit)), (.one (.dp T22)), fun x => tourref2_World k x.1 x.2.1, false⟩
noncomputable def tourref2_World.cx (k : Nat) : Go.Sx.Ctx := ⟨tys, [(106, vec_Turn.sp k), (85, fix_Add.sp k)], eqs, 23, false⟩
theorem tourref2_World.cok (k : Nat) : CtxOk PR (tourref2_World.cx k) := ctx_ok tysOk eqsOk (FnsOk.cons (vec_Turn.ok k) (FnsOk.cons (fix_Add.ok k) FnsOk.nil))
theorem tourref2_World.way (k : Nat) (a0 : V25) (a1 : V22) : Owp (tourref2_World k a0 a1) fun y => ∃ answers cmds, exec PR (tourref2_World.cx k) tourref2_World.code 0 (entry (.pair T25 (.pair T22 .unit)) (a0, a1, ())).st answers (Ret (tourref2_World.cx k) Try.f115 cmds (.one (.dp T22)) y) := by
  unfold tourref2_World; exact
   Owp.bnd fun y1 e2 =>
   Owp.bnd fun y3 e4 =>
   Owp.bnd fun y5 e6 =>
   Owp.some (⟨[.res (.one (.dp T22)) y1, .res (.one (.dp T2)) y3, .res (.one (.dp T2)) y5], [], via (retP (And.intro (And.intro (And.intro trivial e2) e4) e6) (.one (.dp T22)) ((y3, y5, ()) : V22)) (by kernel_rfl)⟩)
theorem tourref2_World.ok (k : Nat) : FnOk PR 115 (tourref2_World.sp k) :=
  fn_ok (tourref2_World.cok k) hmix Try.func115 (code := tourref2_World.code) (by kernel_rfl) (by kernel_rfl) (by kernel_rfl) rfl (by kernel_rfl) (by kernel_rfl) (by kernel_rfl) (fun x => Nat.le_of_ble_eq_true (by kernel_rfl)) fun x y hy => (tourref2_World.way k x.1 x.2.1).ap hy

/-! slices.Clone[[]tourney/api.Body,tourney/api.Body] -/
noncomputable def slices_Clone_153.code : Code := Func.cd Try.f153
def slices_Clone_153 (k : Nat) (a0 : (List V25)) : Option (List V25) :=
  req (room0 120 a0) <|
  some a0
noncomputable def slices_Clone_153.sp (k : Nat) : Go.Sx.Spec := ⟨(.pair (.slice T25) .unit), (.one (.dp (.slice T25))), fun x => slices_Clone_153 k x.1, false⟩
noncomputable def slices_Clone_153.cx (k : Nat) : Go.Sx.Ctx := ⟨tys, [], eqs, 8, false⟩
theorem slices_Clone_153.cok (k : Nat) : CtxOk PR (slices_Clone_153.cx k) := ctx_ok tysOk eqsOk FnsOk.nil
theorem slices_Clone_153.way (k : Nat) (a0 : (List V25)) : Owp (slices_Clone_153 k a0) fun y => ∃ answers cmds, exec PR (slices_Clone_153.cx k) slices_Clone_153.code 0 (entry (.pair (.slice T25) .unit) (a0, ())).st answers (Ret (slices_Clone_153.cx k) Try.f153 cmds (.one (.dp (.slice T25))) y) := by
  unfold slices_Clone_153; exact
   Owp.req fun h1 => match a0, h1 with
   | [], h1 => Owp.some (⟨[.fork [] [.dec true]], [.deep 2 T25], via (show (True → (True ∧ (True ∧ AV.val (.slice T25) ([] : (List V25)) = AV.val (.slice T25) ([] : (List V25))))) ∧ ((True ∧ room0 120 ([] : (List V25))) ∧ (True ∧ AV.val (.slice T25) ([] : (List V25)) = AV.val (.slice T25) ([] : (List V25)))) from ⟨fun _ => ⟨trivial, trivial, rfl⟩, ⟨trivial, h1⟩, trivial, rfl⟩) (by kernel_rfl)⟩)
   | a :: l, h1 => Owp.some (⟨[.dec false, .dec true], [.deep 2 T25], via (show ((True ∧ false = false) ∧ room0 120 (a :: l)) ∧ (True ∧ AV.val (.slice T25) ((a :: l) : (List V25)) = AV.val (.slice T25) ((a :: l) : (List V25))) from ⟨⟨⟨trivial, rfl⟩, h1⟩, trivial, rfl⟩) (by kernel_rfl)⟩)
theorem slices_Clone_153.ok (k : Nat) : FnOk PR 153 (slices_Clone_153.sp k) :=
  fn_ok (slices_Clone_153.cok k) hmix Try.func153 (code := slices_Clone_153.code) (by kernel_rfl) (by kernel_rfl) (by kernel_rfl) rfl (by kernel_rfl) (by kernel_rfl) (by kernel_rfl) (fun x => Nat.le_of_ble_eq_true (by kernel_rfl)) fun x y hy => (slices_Clone_153.way k x.1).ap hy

end Go.Proofs.T1
