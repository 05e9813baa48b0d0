import Derived.Test.YtabllngnpponiaaG0
import Derived.Test.YtabllngnpponiaaG4
namespace Go.Proofs.T1
open Go Go.Sx Go.Proofs
set_option maxRecDepth 100000
set_option linter.unusedVariables false
/-! tourney/tourmake.body -/
noncomputable def tourmake_body.code : Code := Func.cd Try.f97
def tourmake_body.c1 (k : Nat) (y7 : (((List Int) × Unit) × Int)) (y9 : (((List Int) × Unit) × Int)) : Option (Int) :=
  bif' (ieq y9.2 0)
  (some 0)
  (some y7.2)
def tourmake_body (k : Nat) (a0 : ((List Int) × Unit)) : Option (((List Int) × Unit) × V49) :=
  bnd (tourmake_poly k a0) fun y1 =>
  bnd (tourmake_Stream_Next k y1.1 41) fun y3 =>
  bnd (tourmake_Stream_Next k y3.1 41) fun y5 =>
  bnd (tourmake_Stream_Next k y5.1 65536) fun y7 =>
  bnd (tourmake_Stream_Next k y7.1 3) fun y9 =>
  bnd (tourmake_body.c1 k y7 y9) fun o12 =>
  bnd (tourmake_Stream_Next k y9.1 65537) fun y14 =>
  bnd (tourmake_Stream_Next k y14.1 65537) fun y16 =>
  bnd (tourmake_Stream_Next k y16.1 4) fun y18 =>
  bif' (ieq y18.2 0)
  (some (y18.1, (((iquo .i64 (imul .i64 (isub .i64 y3.2 20) 65536) 2), (iquo .i64 (imul .i64 (isub .i64 y5.2 20) 65536) 2), ()), (0, 0, ()), o12, 0, 0, 0, y14.2, y16.2, y1.2, false, 0, ())))
  (bnd (tourmake_Stream_Next k y18.1 21) fun y21 =>
   bnd (tourmake_Stream_Next k y21.1 21) fun y23 =>
   bnd (tourmake_Stream_Next k y23.1 65536) fun y25 =>
   bnd (tourmake_Stream_Next k y25.1 8) fun y27 =>
   bnd (tourmake_Stream_Next k y27.1 30) fun y29 =>
   some (y29.1, (((iquo .i64 (imul .i64 (isub .i64 y3.2 20) 65536) 2), (iquo .i64 (imul .i64 (isub .i64 y5.2 20) 65536) 2), ()), ((iquo .i64 (imul .i64 (isub .i64 y21.2 10) 65536) 2), (iquo .i64 (imul .i64 (isub .i64 y23.2 10) 65536) 2), ()), o12, (isub .i64 y25.2 32768), (imul .i64 (iadd .i64 1 y27.2) 65536), (imul .i64 (iadd .i64 1 y29.2) 65536), y14.2, y16.2, y1.2, false, 0, ())))
noncomputable def tourmake_body.sp (k : Nat) : Go.Sx.Spec := ⟨(.pair (.ref (.pair T31 .unit)) .unit), (.more (.dp (.pair T31 .unit)) (.one (.dp T49))), fun x => tourmake_body k x.1, true⟩
noncomputable def tourmake_body.cx (k : Nat) : Go.Sx.Ctx := ⟨tys, [(122, tourmake_poly.sp k), (96, tourmake_Stream_Next.sp k)], eqs, 63, 1, [], false⟩
theorem tourmake_body.cok (k : Nat) : CtxOk PR (tourmake_body.cx k) := ctx_ok tysOk eqsOk (FnsOk.cons (tourmake_poly.ok k) (FnsOk.cons (tourmake_Stream_Next.ok k) FnsOk.nil)) HsOk.nil
noncomputable def tourmake_body.c1p (y1 : (((List Int) × Unit) × (List V27))) (y3 : (((List Int) × Unit) × Int)) (y5 : (((List Int) × Unit) × Int)) (y7 : (((List Int) × Unit) × Int)) (y9 : (((List Int) × Unit) × Int)) : SL := ⟨[(0, (.val .ptr ⟨0, 0, (0 : Int), 0, 0⟩)), (2, (.val .ptr ⟨1, 0, (0 : Int), 0, 0⟩)), (3, (.val .ptr ⟨2, 0, (0 : Int), 0, 0⟩)), (24, (.val T4 (ieq y9.2 (0 : Int))))], [(0, .cells (.pair T31 .unit) y9.1), (1, .cells T49 (((0 : Int), (0 : Int), ()), ((0 : Int), (0 : Int), ()), (0 : Int), (0 : Int), (0 : Int), (0 : Int), (0 : Int), (0 : Int), [], false, (0 : Int), ())), (2, .cells T49 (((iquo .i64 (imul .i64 (isub .i64 y3.2 (20 : Int)) (65536 : Int)) (2 : Int)), (iquo .i64 (imul .i64 (isub .i64 y5.2 (20 : Int)) (65536 : Int)) (2 : Int)), ()), ((0 : Int), (0 : Int), ()), y7.2, (0 : Int), (0 : Int), (0 : Int), (0 : Int), (0 : Int), y1.2, false, (0 : Int), ()))]⟩
noncomputable def tourmake_body.c1q (y1 : (((List Int) × Unit) × (List V27))) (y3 : (((List Int) × Unit) × Int)) (y5 : (((List Int) × Unit) × Int)) (y9 : (((List Int) × Unit) × Int)) (o : Int) : SL := (fun v => ⟨[(0, (.val .ptr ⟨0, 0, (0 : Int), 0, 0⟩)), (2, (.val .ptr ⟨1, 0, (0 : Int), 0, 0⟩)), (3, (.val .ptr ⟨2, 0, (0 : Int), 0, 0⟩))], [(0, .cells (.pair T31 .unit) y9.1), (1, .cells T49 (((0 : Int), (0 : Int), ()), ((0 : Int), (0 : Int), ()), (0 : Int), (0 : Int), (0 : Int), (0 : Int), (0 : Int), (0 : Int), [], false, (0 : Int), ())), (2, .cells T49 (((iquo .i64 (imul .i64 (isub .i64 y3.2 (20 : Int)) (65536 : Int)) (2 : Int)), (iquo .i64 (imul .i64 (isub .i64 y5.2 (20 : Int)) (65536 : Int)) (2 : Int)), ()), ((0 : Int), (0 : Int), ()), v, (0 : Int), (0 : Int), (0 : Int), (0 : Int), (0 : Int), y1.2, false, (0 : Int), ()))]⟩) o
noncomputable def tourmake_body.c1x (o : Int) : Ex := (fun _ => .normal) o
noncomputable def tourmake_body.c1n (o : Int) : Nat := (fun _ => 3) o
theorem tourmake_body.c1_ok (k : Nat) (y1 : (((List Int) × Unit) × (List V27))) (y3 : (((List Int) × Unit) × Int)) (y5 : (((List Int) × Unit) × Int)) (y7 : (((List Int) × Unit) × Int)) (y9 : (((List Int) × Unit) × Int)) : Owp (tourmake_body.c1 k y7 y9) fun o => Triple PR (tourmake_body.cx k) (sub tourmake_body.code [1, 1, 1, 1, 0, 1]) 3 (tourmake_body.c1p y1 y3 y5 y7 y9) (tourmake_body.c1x o) (tourmake_body.c1n o) (tourmake_body.c1q y1 y3 y5 y9 o) := by
  unfold tourmake_body.c1; exact
   Owp.bif (fun e11 =>
   Owp.some (triple_way (tourmake_body.cok k) hmix [.dec true] [] [(0, 0), (1, 1), (2, 2)] (via (finP (And.intro trivial e11) .normal [(0, 0), (1, 1), (2, 2)] (tourmake_body.c1q y1 y3 y5 y9 (0 : Int))) (by kernel_rfl)))) (fun e11 =>
   Owp.some (triple_way (tourmake_body.cok k) hmix [.dec false] [] [(0, 0), (1, 1), (2, 2)] (via (finP (And.intro trivial e11) .normal [(0, 0), (1, 1), (2, 2)] (tourmake_body.c1q y1 y3 y5 y9 y7.2)) (by kernel_rfl))))
@[irreducible] noncomputable def tourmake_body.P (k : Nat) (a0 : ((List Int) × Unit)) (y : (((List Int) × Unit) × V49)) (answers : List Ans) (cmds : List Cmd) : Prop := exec PR (tourmake_body.cx k) tourmake_body.code 1 (entryW (.pair T31 .unit) .unit (a0, ())).st answers (RetW (tourmake_body.cx k) Try.f97 cmds (.pair T31 .unit) (.one (.dp T49)) y)
theorem tourmake_body.way (k : Nat) (a0 : ((List Int) × Unit)) : Owp (tourmake_body k a0) fun y => ∃ answers cmds, tourmake_body.P k a0 y answers cmds := by
  unfold tourmake_body; exact
   Owp.bnd fun y1 e2 =>
   Owp.bnd fun y3 e4 =>
   Owp.bnd fun y5 e6 =>
   Owp.bnd fun y7 e8 =>
   Owp.bnd fun y9 e10 =>
   Owp.bnd fun o12 e13 =>
   Owp.bnd fun y14 e15 =>
   Owp.bnd fun y16 e17 =>
   Owp.bnd fun y18 e19 =>
   Owp.bif (fun e20 =>
   Owp.some (⟨[.res (.more (.dp (.pair T31 .unit)) (.one (.dp T22))) y1, .res (.more (.dp (.pair T31 .unit)) (.one (.dp T2))) y3, .res (.more (.dp (.pair T31 .unit)) (.one (.dp T2))) y5, .res (.more (.dp (.pair T31 .unit)) (.one (.dp T2))) y7, .res (.more (.dp (.pair T31 .unit)) (.one (.dp T2))) y9, .cut ⟨[], [(0, 0), (1, 1), (2, 5)], (tourmake_body.c1p y1 y3 y5 y7 y9), 3, .normal, (tourmake_body.c1q y1 y3 y5 y9 o12), 3⟩, .res (.more (.dp (.pair T31 .unit)) (.one (.dp T2))) y14, .res (.more (.dp (.pair T31 .unit)) (.one (.dp T2))) y16, .res (.more (.dp (.pair T31 .unit)) (.one (.dp T2))) y18, .dec true], [], via (cutP (And.intro (And.intro (And.intro (And.intro (And.intro (And.intro (And.intro trivial e2) e4) (by decide : nz (2 : Int))) e6) (by decide : nz (2 : Int))) e8) e10) [(0, 0), (1, 1), (2, 5)] (tourmake_body.c1p y1 y3 y5 y7 y9) (((tourmake_body.c1_ok k y1 y3 y5 y7 y9).ap e13)) (retwP (And.intro (And.intro (And.intro (And.intro trivial e15) e17) e19) e20) (.pair T31 .unit) (y18.1 : ((List Int) × Unit)) (.one (.dp T49)) ((((iquo .i64 (imul .i64 (isub .i64 y3.2 (20 : Int)) (65536 : Int)) (2 : Int)), (iquo .i64 (imul .i64 (isub .i64 y5.2 (20 : Int)) (65536 : Int)) (2 : Int)), ()), ((0 : Int), (0 : Int), ()), o12, (0 : Int), (0 : Int), (0 : Int), y14.2, y16.2, y1.2, false, (0 : Int), ()) : V49))) (by kernel_rfl)⟩)) (fun e20 =>
   Owp.bnd fun y21 e22 =>
    Owp.bnd fun y23 e24 =>
    Owp.bnd fun y25 e26 =>
    Owp.bnd fun y27 e28 =>
    Owp.bnd fun y29 e30 =>
    Owp.some (⟨[.res (.more (.dp (.pair T31 .unit)) (.one (.dp T22))) y1, .res (.more (.dp (.pair T31 .unit)) (.one (.dp T2))) y3, .res (.more (.dp (.pair T31 .unit)) (.one (.dp T2))) y5, .res (.more (.dp (.pair T31 .unit)) (.one (.dp T2))) y7, .res (.more (.dp (.pair T31 .unit)) (.one (.dp T2))) y9, .cut ⟨[], [(0, 0), (1, 1), (2, 5)], (tourmake_body.c1p y1 y3 y5 y7 y9), 3, .normal, (tourmake_body.c1q y1 y3 y5 y9 o12), 3⟩, .res (.more (.dp (.pair T31 .unit)) (.one (.dp T2))) y14, .res (.more (.dp (.pair T31 .unit)) (.one (.dp T2))) y16, .res (.more (.dp (.pair T31 .unit)) (.one (.dp T2))) y18, .dec false, .res (.more (.dp (.pair T31 .unit)) (.one (.dp T2))) y21, .res (.more (.dp (.pair T31 .unit)) (.one (.dp T2))) y23, .res (.more (.dp (.pair T31 .unit)) (.one (.dp T2))) y25, .res (.more (.dp (.pair T31 .unit)) (.one (.dp T2))) y27, .res (.more (.dp (.pair T31 .unit)) (.one (.dp T2))) y29], [], via (cutP (And.intro (And.intro (And.intro (And.intro (And.intro (And.intro (And.intro trivial e2) e4) (by decide : nz (2 : Int))) e6) (by decide : nz (2 : Int))) e8) e10) [(0, 0), (1, 1), (2, 5)] (tourmake_body.c1p y1 y3 y5 y7 y9) (((tourmake_body.c1_ok k y1 y3 y5 y7 y9).ap e13)) (retwP (And.intro (And.intro (And.intro (And.intro (And.intro (And.intro (And.intro (And.intro (And.intro (And.intro (And.intro trivial e15) e17) e19) e20) e22) (by decide : nz (2 : Int))) e24) (by decide : nz (2 : Int))) e26) e28) e30) (.pair T31 .unit) (y29.1 : ((List Int) × Unit)) (.one (.dp T49)) ((((iquo .i64 (imul .i64 (isub .i64 y3.2 (20 : Int)) (65536 : Int)) (2 : Int)), (iquo .i64 (imul .i64 (isub .i64 y5.2 (20 : Int)) (65536 : Int)) (2 : Int)), ()), ((iquo .i64 (imul .i64 (isub .i64 y21.2 (10 : Int)) (65536 : Int)) (2 : Int)), (iquo .i64 (imul .i64 (isub .i64 y23.2 (10 : Int)) (65536 : Int)) (2 : Int)), ()), o12, (isub .i64 y25.2 (32768 : Int)), (imul .i64 (iadd .i64 (1 : Int) y27.2) (65536 : Int)), (imul .i64 (iadd .i64 (1 : Int) y29.2) (65536 : Int)), y14.2, y16.2, y1.2, false, (0 : Int), ()) : V49))) (by kernel_rfl)⟩))
theorem tourmake_body.ok (k : Nat) : FnOk PR 97 (tourmake_body.sp k) :=
  fnW_ok (t := (.pair T31 .unit)) (ps := .unit) (t' := (.pair T31 .unit)) (rs := (.one (.dp T49))) (g := fun x => tourmake_body k x.1) (tourmake_body.cok k) hmix Try.func97 (code := tourmake_body.code) (by kernel_rfl) (by kernel_rfl) (by kernel_rfl) (by kernel_rfl) (by kernel_rfl) (by kernel_rfl) (by kernel_rfl) (by kernel_rfl) (by kernel_rfl) (fun x => Nat.le_of_ble_eq_true (by kernel_rfl)) fun x y hy => match (tourmake_body.way k x.1).ap hy with | ⟨ans, cmds, h⟩ => ⟨ans, cmds, via h (by kernel_rfl)⟩

/-! tourney/tourmake.Scene -/
noncomputable def tourmake_Scene.code : Code := Func.cd Try.f22
def tourmake_Scene.c1 (k : Nat) (y6 : (((List Int) × Unit) × Int)) : Nat → Int → ((List Int) × Unit) → (List V49) → Option ((((List Int) × Unit) × (List V49)))
  | 0, _, _, _ => none
  | n + 1, v8, v9, v10 =>
   bif' (ilt v8 y6.2)
   (bnd (tourmake_body k v9) fun y12 =>
    req (room 120 v10 [y12.2]) <|
    tourmake_Scene.c1 k y6 n (iadd .i64 v8 1) y12.1 (v10 ++ [y12.2]))
   (some (v9, v10))
def tourmake_Scene.c2 (k : Nat) (o15 : (((List Int) × Unit) × (List V49))) : Option ((Bool × ((List Int) × Unit))) :=
  bif' (igt (len o15.2) 1)
  (req (inL 0 o15.2) <|
   req (inL 1 o15.2) <|
   bif' (igt (iadd .i64 (el Z49 o15.2 0).2.2.2.2.1 (el Z49 o15.2 1).2.2.2.2.1) 0)
   (bnd (tourmake_Stream_Next k o15.1 3) fun y21 =>
    some ((ieq y21.2 0), y21.1))
   (some (false, o15.1)))
  (some (false, o15.1))
def tourmake_Scene (k : Nat) (a0 : (List Int)) : Option V43 :=
  bnd (tourmake_Stream_Next k (a0, ()) 11) fun y1 =>
  bnd (tourmake_Stream_Next k y1.1 60) fun y3 =>
  req (nz (iadd .i64 20 y3.2)) <|
  bnd (tourmake_Stream_Next k y3.1 6) fun y6 =>
  bnd (tourmake_Scene.c1 k y6 k 0 y6.1 []) fun o15 =>
  bnd (tourmake_Scene.c2 k o15) fun o23 =>
  bif' o23.1
  (bnd (tourmake_Stream_Next k o23.2 6) fun y26 =>
   some (o15.2, [(0, 1, (0, 0, ()), (0, 0, ()), (imul .i64 y26.2 65536), ())], [], (0, (imul .i64 (ineg .i64 y1.2) 65536), ()), (iquo .i64 65536 (iadd .i64 20 y3.2)), ()))
  (some (o15.2, [], [], (0, (imul .i64 (ineg .i64 y1.2) 65536), ()), (iquo .i64 65536 (iadd .i64 20 y3.2)), ()))
noncomputable def tourmake_Scene.sp (k : Nat) : Go.Sx.Spec := ⟨(.pair T31 .unit), (.one (.dp T43)), fun x => tourmake_Scene k x.1, false⟩
noncomputable def tourmake_Scene.cx (k : Nat) : Go.Sx.Ctx := ⟨tys, [(96, tourmake_Stream_Next.sp k), (97, tourmake_body.sp k)], eqs, 63, 0, [], true⟩
theorem tourmake_Scene.cok (k : Nat) : CtxOk PR (tourmake_Scene.cx k) := ctx_ok tysOk eqsOk (FnsOk.cons (tourmake_Stream_Next.ok k) (FnsOk.cons (tourmake_body.ok k) FnsOk.nil)) HsOk.nil
noncomputable def tourmake_Scene.c1p (y1 : (((List Int) × Unit) × Int)) (y3 : (((List Int) × Unit) × Int)) (y6 : (((List Int) × Unit) × Int)) (v8 : Int) (v9 : ((List Int) × Unit)) (v10 : (List V49)) : SL := ⟨[(2, (.val .ptr ⟨0, 0, (0 : Int), 0, 0⟩)), (3, (.val .ptr ⟨1, 0, (0 : Int), 0, 0⟩)), (4, (.val .ptr ⟨2, 0, (0 : Int), 0, 0⟩)), (19, (.val T2 y6.2)), (20, (.val T2 v8))], [(0, .cells (.pair .nil (.pair .nil (.pair .nil (.pair T27 (.pair T2 .unit))))) ((), (), (), ((0 : Int), (0 : Int), ()), (0 : Int), ())), (1, .cells (.pair T31 .unit) v9), (2, .cells (.pair .own (.pair .nil (.pair .nil (.pair T27 (.pair T2 .unit))))) ((3 : Nat), ((), (), ((0 : Int), (imul .i64 (ineg .i64 y1.2) (65536 : Int)), ()), (iquo .i64 (65536 : Int) (iadd .i64 (20 : Int) y3.2)), ()))), (3, .row T49 v10 50)]⟩
noncomputable def tourmake_Scene.c1q (y1 : (((List Int) × Unit) × Int)) (y3 : (((List Int) × Unit) × Int)) (o : (((List Int) × Unit) × (List V49))) : SL := (fun v => ⟨[(2, (.val .ptr ⟨0, 0, (0 : Int), 0, 0⟩)), (3, (.val .ptr ⟨1, 0, (0 : Int), 0, 0⟩)), (4, (.val .ptr ⟨2, 0, (0 : Int), 0, 0⟩))], [(0, .cells (.pair .nil (.pair .nil (.pair .nil (.pair T27 (.pair T2 .unit))))) ((), (), (), ((0 : Int), (0 : Int), ()), (0 : Int), ())), (1, .cells (.pair T31 .unit) v.1), (2, .cells (.pair .own (.pair .nil (.pair .nil (.pair T27 (.pair T2 .unit))))) ((3 : Nat), ((), (), ((0 : Int), (imul .i64 (ineg .i64 y1.2) (65536 : Int)), ()), (iquo .i64 (65536 : Int) (iadd .i64 (20 : Int) y3.2)), ()))), (3, .row T49 v.2 50)]⟩) o
noncomputable def tourmake_Scene.c1x (o : (((List Int) × Unit) × (List V49))) : Ex := (fun _ => (.exit 0)) o
noncomputable def tourmake_Scene.c1n (o : (((List Int) × Unit) × (List V49))) : Nat := (fun _ => 4) o
theorem tourmake_Scene.c1_ok (k : Nat) (y1 : (((List Int) × Unit) × Int)) (y3 : (((List Int) × Unit) × Int)) (y6 : (((List Int) × Unit) × Int)) : ∀ (n : Nat) (v8 : Int) (v9 : ((List Int) × Unit)) (v10 : (List V49)), Owp (tourmake_Scene.c1 k y6 n v8 v9 v10) fun o => LTriple PR (tourmake_Scene.cx k) (sub tourmake_Scene.code [1, 1, 1, 0, 1, 0, 0]) 4 (tourmake_Scene.c1p y1 y3 y6 v8 v9 v10) (tourmake_Scene.c1x o) (tourmake_Scene.c1n o) (tourmake_Scene.c1q y1 y3 o)
  | 0, _, _, _ => fun _ h => nomatch h
  | n + 1, v8, v9, v10 => Owp.of (tourmake_Scene.c1.eq_2 ..) (
   Owp.bif (fun e11 =>
   Owp.bnd fun y12 e13 =>
    Owp.req fun h14 =>
    fun y hy => loop_back (tourmake_Scene.cok k) hmix 4 (tourmake_Scene.c1p y1 y3 y6 (iadd .i64 v8 (1 : Int)) y12.1 (v10 ++ [y12.2])) [.dec true, .res (.more (.dp (.pair T31 .unit)) (.one (.dp T49))) y12, .dec true] [] [(0, 0), (1, 1), (2, 2), (3, 10)] (via (finP (And.intro (And.intro (And.intro trivial e11) e13) h14) .normal [(0, 0), (1, 1), (2, 2), (3, 10)] (tourmake_Scene.c1p y1 y3 y6 (iadd .i64 v8 (1 : Int)) y12.1 (v10 ++ [y12.2]))) (by kernel_rfl)) ((tourmake_Scene.c1_ok k y1 y3 y6 n (iadd .i64 v8 (1 : Int)) y12.1 (v10 ++ [y12.2])).ap hy)) (fun e11 =>
   Owp.some (loop_exit (tourmake_Scene.cok k) hmix [.dec false] [] [(0, 0), (1, 1), (2, 2), (3, 3)] (exne 0) (via (finP (And.intro trivial e11) (.exit 0) [(0, 0), (1, 1), (2, 2), (3, 3)] (tourmake_Scene.c1q y1 y3 (v9, v10))) (by kernel_rfl)))))
noncomputable def tourmake_Scene.c2p (o15 : (((List Int) × Unit) × (List V49))) (y1 : (((List Int) × Unit) × Int)) (y3 : (((List Int) × Unit) × Int)) : SL := ⟨[(2, (.val .ptr ⟨0, 0, (0 : Int), 0, 0⟩)), (3, (.val .ptr ⟨1, 0, (0 : Int), 0, 0⟩)), (4, (.val .ptr ⟨2, 0, (0 : Int), 0, 0⟩))], [(0, .cells (.pair .nil (.pair .nil (.pair .nil (.pair T27 (.pair T2 .unit))))) ((), (), (), ((0 : Int), (0 : Int), ()), (0 : Int), ())), (1, .cells (.pair T31 .unit) o15.1), (2, .cells (.pair .own (.pair .nil (.pair .nil (.pair T27 (.pair T2 .unit))))) ((3 : Nat), ((), (), ((0 : Int), (imul .i64 (ineg .i64 y1.2) (65536 : Int)), ()), (iquo .i64 (65536 : Int) (iadd .i64 (20 : Int) y3.2)), ()))), (3, .row T49 o15.2 50)]⟩
noncomputable def tourmake_Scene.c2q (o15 : (((List Int) × Unit) × (List V49))) (y1 : (((List Int) × Unit) × Int)) (y3 : (((List Int) × Unit) × Int)) (o : (Bool × ((List Int) × Unit))) : SL := (fun v => ⟨[(2, (.val .ptr ⟨0, 0, (0 : Int), 0, 0⟩)), (3, (.val .ptr ⟨1, 0, (0 : Int), 0, 0⟩)), (4, (.val .ptr ⟨2, 0, (0 : Int), 0, 0⟩)), (52, (.val T4 v.1))], [(0, .cells (.pair .nil (.pair .nil (.pair .nil (.pair T27 (.pair T2 .unit))))) ((), (), (), ((0 : Int), (0 : Int), ()), (0 : Int), ())), (1, .cells (.pair T31 .unit) v.2), (2, .cells (.pair .own (.pair .nil (.pair .nil (.pair T27 (.pair T2 .unit))))) ((3 : Nat), ((), (), ((0 : Int), (imul .i64 (ineg .i64 y1.2) (65536 : Int)), ()), (iquo .i64 (65536 : Int) (iadd .i64 (20 : Int) y3.2)), ()))), (3, .row T49 o15.2 50)]⟩) o
noncomputable def tourmake_Scene.c2x (o : (Bool × ((List Int) × Unit))) : Ex := (fun _ => .normal) o
noncomputable def tourmake_Scene.c2n (o : (Bool × ((List Int) × Unit))) : Nat := (fun _ => 4) o
theorem tourmake_Scene.c2_ok (k : Nat) (o15 : (((List Int) × Unit) × (List V49))) (y1 : (((List Int) × Unit) × Int)) (y3 : (((List Int) × Unit) × Int)) : Owp (tourmake_Scene.c2 k o15) fun o => Triple PR (tourmake_Scene.cx k) (sub tourmake_Scene.code [1, 1, 1, 1, 0, 0]) 4 (tourmake_Scene.c2p o15 y1 y3) (tourmake_Scene.c2x o) (tourmake_Scene.c2n o) (tourmake_Scene.c2q o15 y1 y3 o) := by
  unfold tourmake_Scene.c2; exact
   Owp.bif (fun e17 =>
   Owp.req fun h18 =>
    Owp.req fun h19 =>
    Owp.bif (fun e20 =>
    Owp.bnd fun y21 e22 =>
     Owp.some (triple_way (tourmake_Scene.cok k) hmix [.dec true, .dec true, .dec true, .dec true, .dec true, .dec true, .dec true, .dec true, .dec true, .dec true, .dec true, .dec true, .dec true, .dec true, .dec true, .res (.more (.dp (.pair T31 .unit)) (.one (.dp T2))) y21, .dec true, .dec true] [] [(0, 0), (1, 1), (2, 2), (3, 3)] (via (finP (And.intro (And.intro (And.intro (And.intro (And.intro (And.intro (And.intro (And.intro (And.intro (And.intro (And.intro (And.intro (And.intro (And.intro (And.intro (And.intro (And.intro trivial e17) e17) (And.intro e17 h18)) e17) (And.intro e17 h18)) e17) e17) (And.intro e17 h19)) e17) (And.intro e17 h19)) e17) e17) e17) e20) (And.intro e20 e22)) e20) e20) .normal [(0, 0), (1, 1), (2, 2), (3, 3)] (tourmake_Scene.c2q o15 y1 y3 ((ieq y21.2 (0 : Int)), y21.1))) (by kernel_rfl)))) (fun e20 =>
    Owp.some (triple_way (tourmake_Scene.cok k) hmix [.dec true, .dec true, .dec true, .dec true, .dec true, .dec true, .dec true, .dec true, .dec true, .dec true, .dec true, .dec true, .dec true, .dec false, .dec false, .dec true, .dec false, .dec false] [] [(0, 0), (1, 1), (2, 2), (3, 3)] (via (finP (And.intro (And.intro (And.intro (And.intro (And.intro (And.intro (And.intro (And.intro (And.intro (And.intro (And.intro (And.intro (And.intro (And.intro (And.intro (And.intro (And.intro trivial e17) e17) (And.intro e17 h18)) e17) (And.intro e17 h18)) e17) e17) (And.intro e17 h19)) e17) (And.intro e17 h19)) e17) e17) e17) e20) e20) e20) e20) .normal [(0, 0), (1, 1), (2, 2), (3, 3)] (tourmake_Scene.c2q o15 y1 y3 (false, o15.1))) (by kernel_rfl))))) (fun e17 =>
   Owp.some (triple_way (tourmake_Scene.cok k) hmix [.dec false, .dec false, .dec false, .dec false, .dec false, .dec false, .dec false, .dec false, .dec false, .dec false, .dec false, .dec false, .dec false, .dec false, .dec false, .dec true, .dec false, .dec false] [] [(0, 0), (1, 1), (2, 2), (3, 3)] (via (finP (And.intro (And.intro (And.intro (And.intro (And.intro (And.intro (And.intro (And.intro (And.intro (And.intro (And.intro (And.intro (And.intro (And.intro (And.intro (And.intro (And.intro trivial e17) e17) e17) e17) e17) e17) e17) e17) e17) e17) e17) e17) e17) ff) ff) ff) ff) .normal [(0, 0), (1, 1), (2, 2), (3, 3)] (tourmake_Scene.c2q o15 y1 y3 (false, o15.1))) (by kernel_rfl))))
theorem tourmake_Scene.way (k : Nat) (a0 : (List Int)) : Owp (tourmake_Scene k a0) fun y => ∃ answers cmds, exec PR (tourmake_Scene.cx k) tourmake_Scene.code 0 (entry (.pair T31 .unit) (a0, ())).st answers (Ret (tourmake_Scene.cx k) Try.f22 cmds (.one (.dp T43)) y) := by
  unfold tourmake_Scene; exact
   Owp.bnd fun y1 e2 =>
   Owp.bnd fun y3 e4 =>
   Owp.req fun h5 =>
   Owp.bnd fun y6 e7 =>
   Owp.bnd fun o15 e16 =>
   Owp.bnd fun o23 e24 =>
   Owp.bif (fun e25 =>
   Owp.bnd fun y26 e27 =>
    Owp.some (⟨[.res (.more (.dp (.pair T31 .unit)) (.one (.dp T2))) y1, .res (.more (.dp (.pair T31 .unit)) (.one (.dp T2))) y3, .res (.more (.dp (.pair T31 .unit)) (.one (.dp T2))) y6, .cut ⟨[.ownF 15 0 T49 50], [(0, 0), (1, 3), (2, 15), (3, 20)], (tourmake_Scene.c1p y1 y3 y6 (0 : Int) y6.1 []), 4, (.exit 0), (tourmake_Scene.c1q y1 y3 o15), 4⟩, .cutR 7 ⟨[], [(0, 0), (1, 1), (2, 2), (3, 3)], (tourmake_Scene.c2p o15 y1 y3), 4, .normal, (tourmake_Scene.c2q o15 y1 y3 o23), 4⟩, .dec true, .res (.more (.dp (.pair T31 .unit)) (.one (.dp T2))) y26, .dec true], [.frzF 0 0, .frzF 0 1, .deepF 0 2 T239], via (cutP (And.intro (And.intro (And.intro (And.intro trivial e2) e4) h5) e7) [(0, 0), (1, 3), (2, 15), (3, 20)] (tourmake_Scene.c1p y1 y3 y6 (0 : Int) y6.1 []) (((tourmake_Scene.c1_ok k y1 y3 y6 k (0 : Int) y6.1 []).ap e16).triple) (cutP trivial [(0, 0), (1, 1), (2, 2), (3, 3)] (tourmake_Scene.c2p o15 y1 y3) (((tourmake_Scene.c2_ok k o15 y1 y3).ap e24)) (retP (And.intro (And.intro (And.intro trivial e25) e27) (by show roomFor _ _ _; unfold roomFor; exact Nat.le_of_ble_eq_true (by kernel_rfl) : room0 56 [((0 : Int), (1 : Int), ((0 : Int), (0 : Int), ()), ((0 : Int), (0 : Int), ()), (imul .i64 y26.2 (65536 : Int)), ())])) (.one (.dp T43)) ((o15.2, [((0 : Int), (1 : Int), ((0 : Int), (0 : Int), ()), ((0 : Int), (0 : Int), ()), (imul .i64 y26.2 (65536 : Int)), ())], [], ((0 : Int), (imul .i64 (ineg .i64 y1.2) (65536 : Int)), ()), (iquo .i64 (65536 : Int) (iadd .i64 (20 : Int) y3.2)), ()) : V43)))) (by kernel_rfl)⟩)) (fun e25 =>
   Owp.some (⟨[.res (.more (.dp (.pair T31 .unit)) (.one (.dp T2))) y1, .res (.more (.dp (.pair T31 .unit)) (.one (.dp T2))) y3, .res (.more (.dp (.pair T31 .unit)) (.one (.dp T2))) y6, .cut ⟨[.ownF 15 0 T49 50], [(0, 0), (1, 3), (2, 15), (3, 20)], (tourmake_Scene.c1p y1 y3 y6 (0 : Int) y6.1 []), 4, (.exit 0), (tourmake_Scene.c1q y1 y3 o15), 4⟩, .cutR 7 ⟨[], [(0, 0), (1, 1), (2, 2), (3, 3)], (tourmake_Scene.c2p o15 y1 y3), 4, .normal, (tourmake_Scene.c2q o15 y1 y3 o23), 4⟩, .dec false], [.frzF 0 0, .deepF 0 1 T76, .deepF 0 2 T239], via (cutP (And.intro (And.intro (And.intro (And.intro trivial e2) e4) h5) e7) [(0, 0), (1, 3), (2, 15), (3, 20)] (tourmake_Scene.c1p y1 y3 y6 (0 : Int) y6.1 []) (((tourmake_Scene.c1_ok k y1 y3 y6 k (0 : Int) y6.1 []).ap e16).triple) (cutP trivial [(0, 0), (1, 1), (2, 2), (3, 3)] (tourmake_Scene.c2p o15 y1 y3) (((tourmake_Scene.c2_ok k o15 y1 y3).ap e24)) (retP (And.intro trivial e25) (.one (.dp T43)) ((o15.2, [], [], ((0 : Int), (imul .i64 (ineg .i64 y1.2) (65536 : Int)), ()), (iquo .i64 (65536 : Int) (iadd .i64 (20 : Int) y3.2)), ()) : V43)))) (by kernel_rfl)⟩))
theorem tourmake_Scene.ok (k : Nat) : FnOk PR 22 (tourmake_Scene.sp k) :=
  fn_ok (tourmake_Scene.cok k) hmix Try.func22 (code := tourmake_Scene.code) (by kernel_rfl) (by kernel_rfl) (by kernel_rfl) rfl rfl (by kernel_rfl) (by kernel_rfl) (by kernel_rfl) (fun x => Nat.le_of_ble_eq_true (by kernel_rfl)) fun x y hy => (tourmake_Scene.way k x.1).ap hy

end Go.Proofs.T1
