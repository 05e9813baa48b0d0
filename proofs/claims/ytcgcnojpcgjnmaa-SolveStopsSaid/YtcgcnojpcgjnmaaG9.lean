import Derived.Test.YtcgcnojpcgjnmaaG0
import Derived.Test.YtcgcnojpcgjnmaaG3
import Derived.Test.YtcgcnojpcgjnmaaG8
namespace Go.Proofs.T1
open Go Go.Sx Go.Proofs
set_option maxRecDepth 100000
set_option linter.unusedVariables false
/-! tourney/tourmake.body -/
noncomputable def tourmake_body.code : Code := Func.cd Try.f104
def tourmake_body.c1 (k : Nat) (y7 : (((List Int) × Unit) × Int)) (y9 : (((List Int) × Unit) × Int)) : Option (Int) :=
  bif' (ieq y9.2 0)
  (some 0)
  (some y7.2)
def tourmake_body (k : Nat) (a0 : ((List Int) × Unit)) : Option (((List Int) × Unit) × V25) :=
  bnd (tourmake_poly k a0) fun y1 =>
  bnd (tourmake_Stream_Next k y1.1 41) fun y3 =>
  bnd (tourmake_Stream_Next k y3.1 41) fun y5 =>
  bnd (tourmake_Stream_Next k y5.1 65536) fun y7 =>
  bnd (tourmake_Stream_Next k y7.1 3) fun y9 =>
  bnd (tourmake_body.c1 k y7 y9) fun o12 =>
  bnd (tourmake_Stream_Next k y9.1 65537) fun y14 =>
  bnd (tourmake_Stream_Next k y14.1 65537) fun y16 =>
  bnd (tourmake_Stream_Next k y16.1 4) fun y18 =>
  bif' (ieq y18.2 0)
  (some (y18.1, (((iquo .i64 (imul .i64 (isub .i64 y3.2 20) 65536) 2), (iquo .i64 (imul .i64 (isub .i64 y5.2 20) 65536) 2), ()), (0, 0, ()), o12, 0, 0, 0, y14.2, y16.2, y1.2, false, 0, ())))
  (bnd (tourmake_Stream_Next k y18.1 21) fun y21 =>
   bnd (tourmake_Stream_Next k y21.1 21) fun y23 =>
   bnd (tourmake_Stream_Next k y23.1 65536) fun y25 =>
   bnd (tourmake_Stream_Next k y25.1 8) fun y27 =>
   bnd (tourmake_Stream_Next k y27.1 30) fun y29 =>
   some (y29.1, (((iquo .i64 (imul .i64 (isub .i64 y3.2 20) 65536) 2), (iquo .i64 (imul .i64 (isub .i64 y5.2 20) 65536) 2), ()), ((iquo .i64 (imul .i64 (isub .i64 y21.2 10) 65536) 2), (iquo .i64 (imul .i64 (isub .i64 y23.2 10) 65536) 2), ()), o12, (isub .i64 y25.2 32768), (imul .i64 (iadd .i64 1 y27.2) 65536), (imul .i64 (iadd .i64 1 y29.2) 65536), y14.2, y16.2, y1.2, false, 0, ())))
noncomputable def tourmake_body.sp (k : Nat) : Go.Sx.Spec := ⟨(.pair (.ref (.pair T49 .unit)) .unit), (.more (.dp (.pair T49 .unit)) (.one (.dp T25))), fun x => tourmake_body k x.1, true⟩
noncomputable def tourmake_body.cx (k : Nat) : Go.Sx.Ctx := ⟨tys, [(167, tourmake_poly.sp k), (168, tourmake_Stream_Next.sp k)], eqs, 63, 1, [], false⟩
theorem tourmake_body.cok (k : Nat) : CtxOk PR (tourmake_body.cx k) := ctx_ok tysOk eqsOk (FnsOk.cons (tourmake_poly.ok k) (FnsOk.cons (tourmake_Stream_Next.ok k) FnsOk.nil)) HsOk.nil
noncomputable def tourmake_body.c1p (y1 : (((List Int) × Unit) × (List V22))) (y3 : (((List Int) × Unit) × Int)) (y5 : (((List Int) × Unit) × Int)) (y7 : (((List Int) × Unit) × Int)) (y9 : (((List Int) × Unit) × Int)) : SL := ⟨[(0, (.val .ptr ⟨0, 0, (0 : Int), 0, 0⟩)), (2, (.val .ptr ⟨1, 0, (0 : Int), 0, 0⟩)), (3, (.val .ptr ⟨2, 0, (0 : Int), 0, 0⟩)), (24, (.val T4 (ieq y9.2 (0 : Int))))], [(0, .cells (.pair T49 .unit) y9.1), (1, .cells T25 (((0 : Int), (0 : Int), ()), ((0 : Int), (0 : Int), ()), (0 : Int), (0 : Int), (0 : Int), (0 : Int), (0 : Int), (0 : Int), [], false, (0 : Int), ())), (2, .cells T25 (((iquo .i64 (imul .i64 (isub .i64 y3.2 (20 : Int)) (65536 : Int)) (2 : Int)), (iquo .i64 (imul .i64 (isub .i64 y5.2 (20 : Int)) (65536 : Int)) (2 : Int)), ()), ((0 : Int), (0 : Int), ()), y7.2, (0 : Int), (0 : Int), (0 : Int), (0 : Int), (0 : Int), y1.2, false, (0 : Int), ()))]⟩
noncomputable def tourmake_body.c1q (y1 : (((List Int) × Unit) × (List V22))) (y3 : (((List Int) × Unit) × Int)) (y5 : (((List Int) × Unit) × Int)) (y9 : (((List Int) × Unit) × Int)) (o : Int) : SL := (fun v => ⟨[(0, (.val .ptr ⟨0, 0, (0 : Int), 0, 0⟩)), (2, (.val .ptr ⟨1, 0, (0 : Int), 0, 0⟩)), (3, (.val .ptr ⟨2, 0, (0 : Int), 0, 0⟩))], [(0, .cells (.pair T49 .unit) y9.1), (1, .cells T25 (((0 : Int), (0 : Int), ()), ((0 : Int), (0 : Int), ()), (0 : Int), (0 : Int), (0 : Int), (0 : Int), (0 : Int), (0 : Int), [], false, (0 : Int), ())), (2, .cells T25 (((iquo .i64 (imul .i64 (isub .i64 y3.2 (20 : Int)) (65536 : Int)) (2 : Int)), (iquo .i64 (imul .i64 (isub .i64 y5.2 (20 : Int)) (65536 : Int)) (2 : Int)), ()), ((0 : Int), (0 : Int), ()), v, (0 : Int), (0 : Int), (0 : Int), (0 : Int), (0 : Int), y1.2, false, (0 : Int), ()))]⟩) o
noncomputable def tourmake_body.c1x (o : Int) : Ex := (fun _ => .normal) o
noncomputable def tourmake_body.c1n (o : Int) : Nat := (fun _ => 3) o
theorem tourmake_body.c1_ok (k : Nat) (y1 : (((List Int) × Unit) × (List V22))) (y3 : (((List Int) × Unit) × Int)) (y5 : (((List Int) × Unit) × Int)) (y7 : (((List Int) × Unit) × Int)) (y9 : (((List Int) × Unit) × Int)) : Owp (tourmake_body.c1 k y7 y9) fun o => Triple PR (tourmake_body.cx k) (sub tourmake_body.code [1, 1, 1, 1, 0, 1]) 3 (tourmake_body.c1p y1 y3 y5 y7 y9) (tourmake_body.c1x o) (tourmake_body.c1n o) (tourmake_body.c1q y1 y3 y5 y9 o) := by
  unfold tourmake_body.c1; exact
   Owp.bif (fun e11 =>
   Owp.some (triple_way (tourmake_body.cok k) hmix [.dec true] [] [(0, 0), (1, 1), (2, 2)] (via (finP (And.intro trivial e11) .normal [(0, 0), (1, 1), (2, 2)] (tourmake_body.c1q y1 y3 y5 y9 (0 : Int))) (by kernel_rfl)))) (fun e11 =>
   Owp.some (triple_way (tourmake_body.cok k) hmix [.dec false] [] [(0, 0), (1, 1), (2, 2)] (via (finP (And.intro trivial e11) .normal [(0, 0), (1, 1), (2, 2)] (tourmake_body.c1q y1 y3 y5 y9 y7.2)) (by kernel_rfl))))
@[irreducible] noncomputable def tourmake_body.P (k : Nat) (a0 : ((List Int) × Unit)) (y : (((List Int) × Unit) × V25)) (answers : List Ans) (cmds : List Cmd) : Prop := exec PR (tourmake_body.cx k) tourmake_body.code 1 (entryW (.pair T49 .unit) .unit (a0, ())).st answers (RetW (tourmake_body.cx k) Try.f104 cmds (.pair T49 .unit) (.one (.dp T25)) y)
theorem tourmake_body.way (k : Nat) (a0 : ((List Int) × Unit)) : Owp (tourmake_body k a0) fun y => ∃ answers cmds, tourmake_body.P k a0 y answers cmds := by
  unfold tourmake_body; exact
   Owp.bnd fun y1 e2 =>
   Owp.bnd fun y3 e4 =>
   Owp.bnd fun y5 e6 =>
   Owp.bnd fun y7 e8 =>
   Owp.bnd fun y9 e10 =>
   Owp.bnd fun o12 e13 =>
   Owp.bnd fun y14 e15 =>
   Owp.bnd fun y16 e17 =>
   Owp.bnd fun y18 e19 =>
   Owp.bif (fun e20 =>
   Owp.some (⟨[.res (.more (.dp (.pair T49 .unit)) (.one (.dp T24))) y1, .res (.more (.dp (.pair T49 .unit)) (.one (.dp T2))) y3, .res (.more (.dp (.pair T49 .unit)) (.one (.dp T2))) y5, .res (.more (.dp (.pair T49 .unit)) (.one (.dp T2))) y7, .res (.more (.dp (.pair T49 .unit)) (.one (.dp T2))) y9, .cut ⟨[], [(0, 0), (1, 1), (2, 5)], (tourmake_body.c1p y1 y3 y5 y7 y9), 3, .normal, (tourmake_body.c1q y1 y3 y5 y9 o12), 3⟩, .res (.more (.dp (.pair T49 .unit)) (.one (.dp T2))) y14, .res (.more (.dp (.pair T49 .unit)) (.one (.dp T2))) y16, .res (.more (.dp (.pair T49 .unit)) (.one (.dp T2))) y18, .dec true], [], via (cutP (And.intro (And.intro (And.intro (And.intro (And.intro (And.intro (And.intro trivial e2) e4) (by decide : nz (2 : Int))) e6) (by decide : nz (2 : Int))) e8) e10) [(0, 0), (1, 1), (2, 5)] (tourmake_body.c1p y1 y3 y5 y7 y9) (((tourmake_body.c1_ok k y1 y3 y5 y7 y9).ap e13)) (retwP (And.intro (And.intro (And.intro (And.intro trivial e15) e17) e19) e20) (.pair T49 .unit) (y18.1 : ((List Int) × Unit)) (.one (.dp T25)) ((((iquo .i64 (imul .i64 (isub .i64 y3.2 (20 : Int)) (65536 : Int)) (2 : Int)), (iquo .i64 (imul .i64 (isub .i64 y5.2 (20 : Int)) (65536 : Int)) (2 : Int)), ()), ((0 : Int), (0 : Int), ()), o12, (0 : Int), (0 : Int), (0 : Int), y14.2, y16.2, y1.2, false, (0 : Int), ()) : V25))) (by kernel_rfl)⟩)) (fun e20 =>
   Owp.bnd fun y21 e22 =>
    Owp.bnd fun y23 e24 =>
    Owp.bnd fun y25 e26 =>
    Owp.bnd fun y27 e28 =>
    Owp.bnd fun y29 e30 =>
    Owp.some (⟨[.res (.more (.dp (.pair T49 .unit)) (.one (.dp T24))) y1, .res (.more (.dp (.pair T49 .unit)) (.one (.dp T2))) y3, .res (.more (.dp (.pair T49 .unit)) (.one (.dp T2))) y5, .res (.more (.dp (.pair T49 .unit)) (.one (.dp T2))) y7, .res (.more (.dp (.pair T49 .unit)) (.one (.dp T2))) y9, .cut ⟨[], [(0, 0), (1, 1), (2, 5)], (tourmake_body.c1p y1 y3 y5 y7 y9), 3, .normal, (tourmake_body.c1q y1 y3 y5 y9 o12), 3⟩, .res (.more (.dp (.pair T49 .unit)) (.one (.dp T2))) y14, .res (.more (.dp (.pair T49 .unit)) (.one (.dp T2))) y16, .res (.more (.dp (.pair T49 .unit)) (.one (.dp T2))) y18, .dec false, .res (.more (.dp (.pair T49 .unit)) (.one (.dp T2))) y21, .res (.more (.dp (.pair T49 .unit)) (.one (.dp T2))) y23, .res (.more (.dp (.pair T49 .unit)) (.one (.dp T2))) y25, .res (.more (.dp (.pair T49 .unit)) (.one (.dp T2))) y27, .res (.more (.dp (.pair T49 .unit)) (.one (.dp T2))) y29], [], via (cutP (And.intro (And.intro (And.intro (And.intro (And.intro (And.intro (And.intro trivial e2) e4) (by decide : nz (2 : Int))) e6) (by decide : nz (2 : Int))) e8) e10) [(0, 0), (1, 1), (2, 5)] (tourmake_body.c1p y1 y3 y5 y7 y9) (((tourmake_body.c1_ok k y1 y3 y5 y7 y9).ap e13)) (retwP (And.intro (And.intro (And.intro (And.intro (And.intro (And.intro (And.intro (And.intro (And.intro (And.intro (And.intro trivial e15) e17) e19) e20) e22) (by decide : nz (2 : Int))) e24) (by decide : nz (2 : Int))) e26) e28) e30) (.pair T49 .unit) (y29.1 : ((List Int) × Unit)) (.one (.dp T25)) ((((iquo .i64 (imul .i64 (isub .i64 y3.2 (20 : Int)) (65536 : Int)) (2 : Int)), (iquo .i64 (imul .i64 (isub .i64 y5.2 (20 : Int)) (65536 : Int)) (2 : Int)), ()), ((iquo .i64 (imul .i64 (isub .i64 y21.2 (10 : Int)) (65536 : Int)) (2 : Int)), (iquo .i64 (imul .i64 (isub .i64 y23.2 (10 : Int)) (65536 : Int)) (2 : Int)), ()), o12, (isub .i64 y25.2 (32768 : Int)), (imul .i64 (iadd .i64 (1 : Int) y27.2) (65536 : Int)), (imul .i64 (iadd .i64 (1 : Int) y29.2) (65536 : Int)), y14.2, y16.2, y1.2, false, (0 : Int), ()) : V25))) (by kernel_rfl)⟩))
theorem tourmake_body.ok (k : Nat) : FnOk PR 104 (tourmake_body.sp k) :=
  fnW_ok (t := (.pair T49 .unit)) (ps := .unit) (t' := (.pair T49 .unit)) (rs := (.one (.dp T25))) (g := fun x => tourmake_body k x.1) (tourmake_body.cok k) hmix Try.func104 (code := tourmake_body.code) (by kernel_rfl) (by kernel_rfl) (by kernel_rfl) (by kernel_rfl) (by kernel_rfl) (by kernel_rfl) (by kernel_rfl) (by kernel_rfl) (by kernel_rfl) (fun x => Nat.le_of_ble_eq_true (by kernel_rfl)) fun x y hy => match (tourmake_body.way k x.1).ap hy with | ⟨ans, cmds, h⟩ => ⟨ans, cmds, via h (by kernel_rfl)⟩

/-! tourney/tourmake.Body -/
noncomputable def tourmake_Body.code : Code := Func.cd Try.f35
def tourmake_Body (k : Nat) (a0 : (List Int)) : Option V25 :=
  bnd (tourmake_body k (a0, ())) fun y1 =>
  some y1.2
noncomputable def tourmake_Body.sp (k : Nat) : Go.Sx.Spec := ⟨(.pair T49 .unit), (.one (.dp T25)), fun x => tourmake_Body k x.1, false⟩
noncomputable def tourmake_Body.cx (k : Nat) : Go.Sx.Ctx := ⟨tys, [(104, tourmake_body.sp k)], eqs, 7, 0, [], false⟩
theorem tourmake_Body.cok (k : Nat) : CtxOk PR (tourmake_Body.cx k) := ctx_ok tysOk eqsOk (FnsOk.cons (tourmake_body.ok k) FnsOk.nil) HsOk.nil
theorem tourmake_Body.way (k : Nat) (a0 : (List Int)) : Owp (tourmake_Body k a0) fun y => ∃ answers cmds, exec PR (tourmake_Body.cx k) tourmake_Body.code 0 (entry (.pair T49 .unit) (a0, ())).st answers (Ret (tourmake_Body.cx k) Try.f35 cmds (.one (.dp T25)) y) := by
  unfold tourmake_Body; exact
   Owp.bnd fun y1 e2 =>
   Owp.some (⟨[.res (.more (.dp (.pair T49 .unit)) (.one (.dp T25))) y1], [], via (retP (And.intro trivial e2) (.one (.dp T25)) (y1.2 : V25)) (by kernel_rfl)⟩)
theorem tourmake_Body.ok (k : Nat) : FnOk PR 35 (tourmake_Body.sp k) :=
  fn_ok (tourmake_Body.cok k) hmix Try.func35 (code := tourmake_Body.code) (by kernel_rfl) (by kernel_rfl) (by kernel_rfl) rfl rfl (by kernel_rfl) (by kernel_rfl) (by kernel_rfl) (fun x => Nat.le_of_ble_eq_true (by kernel_rfl)) fun x y hy => (tourmake_Body.way k x.1).ap hy

/-! tourney/tourref2.Placed -/
noncomputable def tourref2_Placed.code : Code := Func.cd Try.f44
def tourref2_Placed.c1 (k : Nat) (a0 : V25) : Nat → Int → (List V22) → Option ((List V22))
  | 0, _, _ => none
  | n + 1, v2, v3 =>
   bif' (ilt v2 (len (mk0 Z22 (len a0.2.2.2.2.2.2.2.2.1))))
   (req (inL v2 a0.2.2.2.2.2.2.2.2.1) <|
    bnd (tourref2_World k a0 (el Z22 a0.2.2.2.2.2.2.2.2.1 v2)) fun y6 =>
    req (inL v2 v3) <|
    tourref2_Placed.c1 k a0 n (iadd .i64 v2 1) (st v3 v2 y6))
   (some v3)
def tourref2_Placed (k : Nat) (a0 : V25) : Option (List V22) :=
  req (mkOk 16 (len a0.2.2.2.2.2.2.2.2.1) (len a0.2.2.2.2.2.2.2.2.1)) <|
  bnd (tourref2_Placed.c1 k a0 k 0 (mk0 Z22 (len a0.2.2.2.2.2.2.2.2.1))) fun o9 =>
  some o9
noncomputable def tourref2_Placed.sp (k : Nat) : Go.Sx.Spec := ⟨(.pair T25 .unit), (.one (.ow T22 23)), fun x => tourref2_Placed k x.1, false⟩
noncomputable def tourref2_Placed.cx (k : Nat) : Go.Sx.Ctx := ⟨tys, [(115, tourref2_World.sp k)], eqs, 26, 0, [], false⟩
theorem tourref2_Placed.cok (k : Nat) : CtxOk PR (tourref2_Placed.cx k) := ctx_ok tysOk eqsOk (FnsOk.cons (tourref2_World.ok k) FnsOk.nil) HsOk.nil
noncomputable def tourref2_Placed.c1p (a0 : V25) (v2 : Int) (v3 : (List V22)) : SL := ⟨[(1, (.val .ptr ⟨0, 0, (0 : Int), 0, 0⟩)), (3, (.val .own (1 : Nat))), (10, (.val T2 (len (mk0 Z22 (len a0.2.2.2.2.2.2.2.2.1))))), (11, (.val T2 v2))], [(0, .cells T25 a0), (1, .row T22 v3 23)]⟩
noncomputable def tourref2_Placed.c1q (o : (List V22)) : SL := (fun v => ⟨[(3, (.val .own (0 : Nat)))], [(0, .row T22 v 23)]⟩) o
noncomputable def tourref2_Placed.c1x (o : (List V22)) : Ex := (fun _ => (.exit 0)) o
noncomputable def tourref2_Placed.c1n (o : (List V22)) : Nat := (fun _ => 1) o
theorem tourref2_Placed.c1_ok (k : Nat) (a0 : V25) : ∀ (n : Nat) (v2 : Int) (v3 : (List V22)), Owp (tourref2_Placed.c1 k a0 n v2 v3) fun o => LTriple PR (tourref2_Placed.cx k) (sub tourref2_Placed.code [1, 1, 0, 1, 0, 0]) 2 (tourref2_Placed.c1p a0 v2 v3) (tourref2_Placed.c1x o) (tourref2_Placed.c1n o) (tourref2_Placed.c1q o)
  | 0, _, _ => fun _ h => nomatch h
  | n + 1, v2, v3 => Owp.of (tourref2_Placed.c1.eq_2 ..) (
   Owp.bif (fun e4 =>
   Owp.req fun h5 =>
    Owp.bnd fun y6 e7 =>
    Owp.req fun h8 =>
    fun y hy => loop_back (tourref2_Placed.cok k) hmix 2 (tourref2_Placed.c1p a0 (iadd .i64 v2 (1 : Int)) (st v3 v2 y6)) [.dec true, .res (.one (.dp T22)) y6] [] [(0, 0), (1, 1)] (via (finP (And.intro (And.intro (And.intro (And.intro (And.intro trivial e4) h5) e7) h8) h8) .normal [(0, 0), (1, 1)] (tourref2_Placed.c1p a0 (iadd .i64 v2 (1 : Int)) (st v3 v2 y6))) (by kernel_rfl)) ((tourref2_Placed.c1_ok k a0 n (iadd .i64 v2 (1 : Int)) (st v3 v2 y6)).ap hy)) (fun e4 =>
   Owp.some (loop_exit (tourref2_Placed.cok k) hmix [.dec false] [] [(0, 1)] (exne 0) (via (finP (And.intro trivial e4) (.exit 0) [(0, 1)] (tourref2_Placed.c1q v3)) (by kernel_rfl)))))
theorem tourref2_Placed.way (k : Nat) (a0 : V25) : Owp (tourref2_Placed k a0) fun y => ∃ answers cmds, exec PR (tourref2_Placed.cx k) tourref2_Placed.code 0 (entry (.pair T25 .unit) (a0, ())).st answers (Ret (tourref2_Placed.cx k) Try.f44 cmds (.one (.ow T22 23)) y) := by
  unfold tourref2_Placed; exact
   Owp.req fun h1 =>
   Owp.bnd fun o9 e10 =>
   Owp.some (⟨[.cut ⟨[], [(0, 0), (1, 5)], (tourref2_Placed.c1p a0 (0 : Int) (mk0 Z22 (len a0.2.2.2.2.2.2.2.2.1))), 2, (.exit 0), (tourref2_Placed.c1q o9), 1⟩], [], via (cutP (And.intro trivial h1) [(0, 0), (1, 5)] (tourref2_Placed.c1p a0 (0 : Int) (mk0 Z22 (len a0.2.2.2.2.2.2.2.2.1))) (((tourref2_Placed.c1_ok k a0 k (0 : Int) (mk0 Z22 (len a0.2.2.2.2.2.2.2.2.1))).ap e10).triple) (retP trivial (.one (.ow T22 23)) (o9 : (List V22)))) (by kernel_rfl)⟩)
theorem tourref2_Placed.ok (k : Nat) : FnOk PR 44 (tourref2_Placed.sp k) :=
  fn_ok (tourref2_Placed.cok k) hmix Try.func44 (code := tourref2_Placed.code) (by kernel_rfl) (by kernel_rfl) (by kernel_rfl) rfl rfl (by kernel_rfl) (by kernel_rfl) (by kernel_rfl) (fun x => Nat.le_of_ble_eq_true (by kernel_rfl)) fun x y hy => (tourref2_Placed.way k x.1).ap hy

end Go.Proofs.T1
