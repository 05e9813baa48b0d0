import Derived.Test.YtabllngnpponiaaG0
import Derived.Test.YtabllngnpponiaaG1
import Derived.Test.YtabllngnpponiaaG4
import Derived.Test.YtabllngnpponiaaG5
import Derived.Test.YtabllngnpponiaaG7
import Derived.Test.YtabllngnpponiaaG9
import Derived.Test.YtabllngnpponiaaG12
namespace Go.Proofs.T1
open Go Go.Sx Go.Proofs
set_option maxRecDepth 100000
set_option linter.unusedVariables false
/-! tourney/ray.Shape$1 -/
noncomputable def ray_Shape_1.code : Code := Func.cd Try.f111
def ray_Shape_1 (k : Nat) (a0 : (List V27)) (a1 : (List V27)) (a2 : V27) : Option (Int × Bool) :=
  bnd (near_Minus k a0 a1) fun y1 =>
  bnd (ray_line k y1.1 (0, 0, ()) a2) fun y3 =>
  some (y3.1, y3.2)
noncomputable def ray_Shape_1.sp (k : Nat) : Go.Sx.Spec := ⟨(.pair T22 (.pair (.ref T22) (.pair (.ref T27) .unit))), (.more (.dp T2) (.one (.dp T4))), fun x => ray_Shape_1 k x.1 x.2.1 x.2.2.1, false⟩
noncomputable def ray_Shape_1.cx (k : Nat) : Go.Sx.Ctx := ⟨tys, [(112, near_Minus.sp k), (102, ray_line.sp k)], eqs, 20, 0, [], false⟩
theorem ray_Shape_1.cok (k : Nat) : CtxOk PR (ray_Shape_1.cx k) := ctx_ok tysOk eqsOk (FnsOk.cons (near_Minus.ok k) (FnsOk.cons (ray_line.ok k) FnsOk.nil)) HsOk.nil
theorem ray_Shape_1.way (k : Nat) (a0 : (List V27)) (a1 : (List V27)) (a2 : V27) : Owp (ray_Shape_1 k a0 a1 a2) fun y => ∃ answers cmds, exec PR (ray_Shape_1.cx k) ray_Shape_1.code 0 (entry (.pair T22 (.pair (.ref T22) (.pair (.ref T27) .unit))) (a0, a1, a2, ())).st answers (Ret (ray_Shape_1.cx k) Try.f111 cmds (.more (.dp T2) (.one (.dp T4))) y) := by
  unfold ray_Shape_1; exact
   Owp.bnd fun y1 e2 =>
   Owp.bnd fun y3 e4 =>
   Owp.some (⟨[.res (.more (.ow T27 28) (.one (.dp T2))) y1, .res (.more (.dp T2) (.one (.dp T4))) y3], [], via (retP (And.intro (And.intro trivial e2) e4) (.more (.dp T2) (.one (.dp T4))) ((y3.1, y3.2) : (Int × Bool))) (by kernel_rfl)⟩)
theorem ray_Shape_1.ok (k : Nat) : FnOk PR 111 (ray_Shape_1.sp k) :=
  fn_ok (ray_Shape_1.cok k) hmix Try.func111 (code := ray_Shape_1.code) (by kernel_rfl) (by kernel_rfl) (by kernel_rfl) rfl rfl (by kernel_rfl) (by kernel_rfl) (by kernel_rfl) (fun x => Nat.le_of_ble_eq_true (by kernel_rfl)) fun x y hy => (ray_Shape_1.way k x.1 x.2.1 x.2.2.1).ap hy

/-! tourney/ray.Shape -/
noncomputable def ray_Shape.code : Code := Func.cd Try.f36
def ray_Shape (k : Nat) (a0 : (List V49)) (a1 : (List V27)) (a2 : V27) : Option (Int × (Int × Int)) :=
  bnd (keep_Check k a0) fun y1 =>
  bif' (ine y1 0)
  (some (0, 0, y1))
  (bnd (poly_Check k a1) fun y4 =>
   bif' (ine y4 0)
   (some (0, 0, y4))
   (bnd (ray_within k a2) fun y7 =>
    bif' y7
    (bnd (ray_first k a0 (fun x : ((List V27) × Unit) => ray_Shape_1 k (x.1) a1 a2)) fun y10 =>
     some (y10.1, y10.2.1, y10.2.2))
    (some (0, 0, 1))))
noncomputable def ray_Shape.sp (k : Nat) : Go.Sx.Spec := ⟨(.pair (.slice T49) (.pair T22 (.pair T27 .unit))), (.more (.dp T2) (.more (.dp T2) (.one (.dp T2)))), fun x => ray_Shape k x.1 x.2.1 x.2.2.1, false⟩
noncomputable def ray_Shape.cx (k : Nat) : Go.Sx.Ctx := ⟨tys, [(98, keep_Check.sp k), (81, poly_Check.sp k), (99, ray_within.sp k), (100, ray_first.sp k), (111, ray_Shape_1.sp k)], eqs, 30, 0, [], false⟩
theorem ray_Shape.cok (k : Nat) : CtxOk PR (ray_Shape.cx k) := ctx_ok tysOk eqsOk (FnsOk.cons (keep_Check.ok k) (FnsOk.cons (poly_Check.ok k) (FnsOk.cons (ray_within.ok k) (FnsOk.cons (ray_first.ok k) (FnsOk.cons (ray_Shape_1.ok k) FnsOk.nil))))) HsOk.nil
@[irreducible] noncomputable def ray_Shape.P (k : Nat) (a0 : (List V49)) (a1 : (List V27)) (a2 : V27) (y : (Int × (Int × Int))) (answers : List Ans) (cmds : List Cmd) : Prop := exec PR (ray_Shape.cx k) ray_Shape.code 0 (entry (.pair (.slice T49) (.pair T22 (.pair T27 .unit))) (a0, a1, a2, ())).st answers (Ret (ray_Shape.cx k) Try.f36 cmds (.more (.dp T2) (.more (.dp T2) (.one (.dp T2)))) y)
theorem ray_Shape.way (k : Nat) (a0 : (List V49)) (a1 : (List V27)) (a2 : V27) : Owp (ray_Shape k a0 a1 a2) fun y => ∃ answers cmds, ray_Shape.P k a0 a1 a2 y answers cmds := by
  unfold ray_Shape; exact
   Owp.bnd fun y1 e2 =>
   Owp.bif (fun e3 =>
   Owp.some (⟨[.res (.one (.dp T2)) y1, .dec true], [], via (retP (And.intro (And.intro trivial e2) e3) (.more (.dp T2) (.more (.dp T2) (.one (.dp T2)))) (((0 : Int), (0 : Int), y1) : (Int × (Int × Int)))) (by kernel_rfl)⟩)) (fun e3 =>
   Owp.bnd fun y4 e5 =>
    Owp.bif (fun e6 =>
    Owp.some (⟨[.res (.one (.dp T2)) y1, .dec false, .res (.one (.dp T2)) y4, .dec true], [], via (retP (And.intro (And.intro (And.intro (And.intro trivial e2) e3) e5) e6) (.more (.dp T2) (.more (.dp T2) (.one (.dp T2)))) (((0 : Int), (0 : Int), y4) : (Int × (Int × Int)))) (by kernel_rfl)⟩)) (fun e6 =>
    Owp.bnd fun y7 e8 =>
     Owp.bif (fun e9 =>
     Owp.bnd fun y10 e11 =>
      Owp.some (⟨[.res (.one (.dp T2)) y1, .dec false, .res (.one (.dp T2)) y4, .dec false, .res (.one (.dp T4)) y7, .dec false, .res (.more (.dp T2) (.more (.dp T2) (.one (.dp T2)))) y10], [], via (retP (And.intro (And.intro (And.intro (And.intro (And.intro (And.intro (And.intro trivial e2) e3) e5) e6) e8) (congrArg not e9)) e11) (.more (.dp T2) (.more (.dp T2) (.one (.dp T2)))) ((y10.1, y10.2.1, y10.2.2) : (Int × (Int × Int)))) (by kernel_rfl)⟩)) (fun e9 =>
     Owp.some (⟨[.res (.one (.dp T2)) y1, .dec false, .res (.one (.dp T2)) y4, .dec false, .res (.one (.dp T4)) y7, .dec true], [], via (retP (And.intro (And.intro (And.intro (And.intro (And.intro (And.intro trivial e2) e3) e5) e6) e8) (congrArg not e9)) (.more (.dp T2) (.more (.dp T2) (.one (.dp T2)))) (((0 : Int), (0 : Int), (1 : Int)) : (Int × (Int × Int)))) (by kernel_rfl)⟩))))
theorem ray_Shape.ok (k : Nat) : FnOk PR 36 (ray_Shape.sp k) :=
  fn_ok (ray_Shape.cok k) hmix Try.func36 (code := ray_Shape.code) (by kernel_rfl) (by kernel_rfl) (by kernel_rfl) rfl rfl (by kernel_rfl) (by kernel_rfl) (by kernel_rfl) (fun x => Nat.le_of_ble_eq_true (by kernel_rfl)) fun x y hy => match (ray_Shape.way k x.1 x.2.1 x.2.2.1).ap hy with | ⟨ans, cmds, h⟩ => ⟨ans, cmds, via h (by kernel_rfl)⟩

/-! tourney/tourkeep2.RayStops -/
noncomputable def tourkeep2_RayStops.code : Code := Func.cd Try.f8
def tourkeep2_RayStops.c1 (k : Nat) (y13 : ((List Int) × Int)) (y17 : ((List Int) × Int)) : Option (Bool) :=
  bnd (tourkeep2_casts k) fun y19 =>
  bif' y19
  (bif' (ine y13.2 0)
   (some true)
   (some (ine y17.2 0)))
  (some true)
def tourkeep2_RayStops.c2 (k : Nat) (y11 : (Int × (Int × Int))) (y13 : ((List Int) × Int)) : Option (Bool) :=
  bif' (ieq y11.2.2 0)
  (bif' (ieq y11.2.1 0)
   (req (inL 0 y13.1) <|
    some (ile y11.1 (el 0 y13.1 0)))
   (some false))
  (some false)
def tourkeep2_RayStops (k : Nat) (a0 : (List Int)) (a1 : (List Int)) (a2 : Int) (a3 : Int) (a4 : Int) (a5 : Int) : Option Bool :=
  bnd (tourmake_Scene k a0) fun y1 =>
  bnd (tourmake_Poly k a1) fun y3 =>
  bnd (tourkeep2_place k a2 a3) fun y5 =>
  bnd (tourkeep2_moved k y3 y5) fun y7 =>
  bnd (tourkeep2_place k a4 a5) fun y9 =>
  bnd (ray_Shape k y1.1 y7 y9) fun y11 =>
  bnd (ray_Meet k y1.1 y7) fun y13 =>
  bnd (tourkeep2_moved k y7 y9) fun y15 =>
  bnd (ray_Meet k y1.1 y15) fun y17 =>
  bnd (tourkeep2_RayStops.c1 k y13 y17) fun o23 =>
  bif' o23
  (some false)
  (bif' (igt (len y13.1) 0)
   (bnd (tourkeep2_RayStops.c2 k y11 y13) fun o30 =>
    some o30)
   (bif' (ieq y11.2.2 0)
    (some true)
    (bif' (ieq y11.2.2 4)
     (some (ieq (len y17.1) 0))
     (some false))))
noncomputable def tourkeep2_RayStops.sp (k : Nat) : Go.Sx.Spec := ⟨(.pair T31 (.pair T31 (.pair T2 (.pair T2 T27)))), (.one (.dp T4)), fun x => tourkeep2_RayStops k x.1 x.2.1 x.2.2.1 x.2.2.2.1 x.2.2.2.2.1 x.2.2.2.2.2.1, false⟩
noncomputable def tourkeep2_RayStops.cx (k : Nat) : Go.Sx.Ctx := ⟨tys, [(22, tourmake_Scene.sp k), (48, tourmake_Poly.sp k), (23, tourkeep2_place.sp k), (47, tourkeep2_moved.sp k), (36, ray_Shape.sp k), (28, ray_Meet.sp k), (25, tourkeep2_casts.sp k)], eqs, 94, 0, [], false⟩
theorem tourkeep2_RayStops.cok (k : Nat) : CtxOk PR (tourkeep2_RayStops.cx k) := ctx_ok tysOk eqsOk (FnsOk.cons (tourmake_Scene.ok k) (FnsOk.cons (tourmake_Poly.ok k) (FnsOk.cons (tourkeep2_place.ok k) (FnsOk.cons (tourkeep2_moved.ok k) (FnsOk.cons (ray_Shape.ok k) (FnsOk.cons (ray_Meet.ok k) (FnsOk.cons (tourkeep2_casts.ok k) FnsOk.nil))))))) HsOk.nil
noncomputable def tourkeep2_RayStops.c1p (y11 : (Int × (Int × Int))) (y13 : ((List Int) × Int)) (y17 : ((List Int) × Int)) : SL := ⟨[(16, (.val T2 y11.1)), (17, (.val T2 y11.2.1)), (18, (.val T2 y11.2.2)), (19, (.val .own (0 : Nat))), (20, (.val T2 y13.2)), (21, (.val .own (1 : Nat))), (22, (.val T2 y17.2))], [(0, .row T2 y13.1 3), (1, .row T2 y17.1 3)]⟩
noncomputable def tourkeep2_RayStops.c1q (y11 : (Int × (Int × Int))) (y13 : ((List Int) × Int)) (y17 : ((List Int) × Int)) (o : Bool) : SL := (fun v => ⟨[(16, (.val T2 y11.1)), (17, (.val T2 y11.2.1)), (18, (.val T2 y11.2.2)), (19, (.val .own (0 : Nat))), (21, (.val .own (1 : Nat))), (66, (.val T4 v))], [(0, .row T2 y13.1 3), (1, .row T2 y17.1 3)]⟩) o
noncomputable def tourkeep2_RayStops.c1x (o : Bool) : Ex := (fun _ => .normal) o
noncomputable def tourkeep2_RayStops.c1n (o : Bool) : Nat := (fun _ => 2) o
theorem tourkeep2_RayStops.c1_ok (k : Nat) (y11 : (Int × (Int × Int))) (y13 : ((List Int) × Int)) (y17 : ((List Int) × Int)) : Owp (tourkeep2_RayStops.c1 k y13 y17) fun o => Triple PR (tourkeep2_RayStops.cx k) (sub tourkeep2_RayStops.code [1, 1, 1, 1, 1, 1, 0, 0]) 2 (tourkeep2_RayStops.c1p y11 y13 y17) (tourkeep2_RayStops.c1x o) (tourkeep2_RayStops.c1n o) (tourkeep2_RayStops.c1q y11 y13 y17 o) := by
  unfold tourkeep2_RayStops.c1; exact
   Owp.bnd fun y19 e20 =>
   Owp.bif (fun e21 =>
   Owp.bif (fun e22 =>
    Owp.some (triple_way (tourkeep2_RayStops.cok k) hmix [.res (.one (.dp T4)) y19, .dec false, .dec false, .dec false, .dec true, .dec true, .dec true] [] [(0, 0), (1, 1)] (via (finP (And.intro (And.intro (And.intro (And.intro (And.intro (And.intro (And.intro trivial e20) (congrArg not e21)) (congrArg not e21)) (congrArg not e21)) e22) e22) e22) .normal [(0, 0), (1, 1)] (tourkeep2_RayStops.c1q y11 y13 y17 true)) (by kernel_rfl)))) (fun e22 =>
    Owp.some (triple_way (tourkeep2_RayStops.cok k) hmix [.res (.one (.dp T4)) y19, .dec false, .dec false, .dec false, .dec false, .dec false, .dec false] [] [(0, 0), (1, 1)] (via (finP (And.intro (And.intro (And.intro (And.intro (And.intro (And.intro (And.intro trivial e20) (congrArg not e21)) (congrArg not e21)) (congrArg not e21)) e22) e22) e22) .normal [(0, 0), (1, 1)] (tourkeep2_RayStops.c1q y11 y13 y17 (ine y17.2 (0 : Int)))) (by kernel_rfl))))) (fun e21 =>
   Owp.some (triple_way (tourkeep2_RayStops.cok k) hmix [.res (.one (.dp T4)) y19, .dec true, .dec true, .dec true, .dec true, .dec true, .dec true] [] [(0, 0), (1, 1)] (via (finP (And.intro (And.intro (And.intro (And.intro (And.intro (And.intro (And.intro trivial e20) (congrArg not e21)) (congrArg not e21)) (congrArg not e21)) tt) tt) tt) .normal [(0, 0), (1, 1)] (tourkeep2_RayStops.c1q y11 y13 y17 true)) (by kernel_rfl))))
noncomputable def tourkeep2_RayStops.c2p (y11 : (Int × (Int × Int))) (y13 : ((List Int) × Int)) : SL := ⟨[(16, (.val T2 y11.1)), (17, (.val T2 y11.2.1)), (18, (.val T2 y11.2.2)), (19, (.val .own (0 : Nat)))], [(0, .row T2 y13.1 3)]⟩
noncomputable def tourkeep2_RayStops.c2q (o : Bool) : SL := (fun v => ⟨[(12, (.val T4 v))], []⟩) o
noncomputable def tourkeep2_RayStops.c2x (o : Bool) : Ex := (fun _ => .normal) o
noncomputable def tourkeep2_RayStops.c2n (o : Bool) : Nat := (fun _ => 0) o
theorem tourkeep2_RayStops.c2_ok (k : Nat) (y11 : (Int × (Int × Int))) (y13 : ((List Int) × Int)) : Owp (tourkeep2_RayStops.c2 k y11 y13) fun o => Triple PR (tourkeep2_RayStops.cx k) (sub tourkeep2_RayStops.code [1, 1, 1, 1, 1, 1, 1, 0, 1, 0, 0]) 1 (tourkeep2_RayStops.c2p y11 y13) (tourkeep2_RayStops.c2x o) (tourkeep2_RayStops.c2n o) (tourkeep2_RayStops.c2q o) := by
  unfold tourkeep2_RayStops.c2; exact
   Owp.bif (fun e27 =>
   Owp.bif (fun e28 =>
    Owp.req fun h29 =>
     Owp.some (triple_way (tourkeep2_RayStops.cok k) hmix [.dec true, .dec true, .dec true, .dec true, .dec true, .dec true, .dec true, .dec true, .dec true] [] [] (via (finP (And.intro (And.intro (And.intro (And.intro (And.intro (And.intro (And.intro (And.intro (And.intro trivial e27) e27) e27) e28) e28) (And.intro e28 h29)) (And.intro e28 h29)) e28) e28) .normal [] (tourkeep2_RayStops.c2q (ile y11.1 (el (0 : Int) y13.1 (0 : Int))))) (by kernel_rfl)))) (fun e28 =>
    Owp.some (triple_way (tourkeep2_RayStops.cok k) hmix [.dec true, .dec true, .dec true, .dec false, .dec false, .dec false, .dec false, .dec false, .dec false] [] [] (via (finP (And.intro (And.intro (And.intro (And.intro (And.intro (And.intro (And.intro (And.intro (And.intro trivial e27) e27) e27) e28) e28) e28) e28) e28) e28) .normal [] (tourkeep2_RayStops.c2q false)) (by kernel_rfl))))) (fun e27 =>
   Owp.some (triple_way (tourkeep2_RayStops.cok k) hmix [.dec false, .dec false, .dec false, .dec false, .dec false, .dec false, .dec false, .dec false, .dec false] [] [] (via (finP (And.intro (And.intro (And.intro (And.intro (And.intro (And.intro (And.intro (And.intro (And.intro trivial e27) e27) e27) ff) ff) ff) ff) ff) ff) .normal [] (tourkeep2_RayStops.c2q false)) (by kernel_rfl))))
theorem tourkeep2_RayStops.way (k : Nat) (a0 : (List Int)) (a1 : (List Int)) (a2 : Int) (a3 : Int) (a4 : Int) (a5 : Int) : Owp (tourkeep2_RayStops k a0 a1 a2 a3 a4 a5) fun y => ∃ answers cmds, exec PR (tourkeep2_RayStops.cx k) tourkeep2_RayStops.code 0 (entry (.pair T31 (.pair T31 (.pair T2 (.pair T2 T27)))) (a0, a1, a2, a3, a4, a5, ())).st answers (Ret (tourkeep2_RayStops.cx k) Try.f8 cmds (.one (.dp T4)) y) := by
  unfold tourkeep2_RayStops; exact
   Owp.bnd fun y1 e2 =>
   Owp.bnd fun y3 e4 =>
   Owp.bnd fun y5 e6 =>
   Owp.bnd fun y7 e8 =>
   Owp.bnd fun y9 e10 =>
   Owp.bnd fun y11 e12 =>
   Owp.bnd fun y13 e14 =>
   Owp.bnd fun y15 e16 =>
   Owp.bnd fun y17 e18 =>
   Owp.bnd fun o23 e24 =>
   Owp.bif (fun e25 =>
   Owp.some (⟨[.res (.one (.dp T43)) y1, .res (.one (.dp T22)) y3, .res (.one (.dp T27)) y5, .res (.one (.ow T27 28)) y7, .res (.one (.dp T27)) y9, .res (.more (.dp T2) (.more (.dp T2) (.one (.dp T2)))) y11, .res (.more (.ow T2 3) (.one (.dp T2))) y13, .res (.one (.ow T27 28)) y15, .res (.more (.ow T2 3) (.one (.dp T2))) y17, .cutR 6 ⟨[], [(0, 30), (1, 40)], (tourkeep2_RayStops.c1p y11 y13 y17), 2, .normal, (tourkeep2_RayStops.c1q y11 y13 y17 o23), 2⟩, .dec true], [], via (cutP (And.intro (And.intro (And.intro (And.intro (And.intro (And.intro (And.intro (And.intro (And.intro trivial e2) e4) e6) e8) e10) e12) e14) e16) e18) [(0, 30), (1, 40)] (tourkeep2_RayStops.c1p y11 y13 y17) (((tourkeep2_RayStops.c1_ok k y11 y13 y17).ap e24)) (retP (And.intro trivial e25) (.one (.dp T4)) (false : Bool))) (by kernel_rfl)⟩)) (fun e25 =>
   Owp.bif (fun e26 =>
    Owp.bnd fun o30 e31 =>
     Owp.some (⟨[.res (.one (.dp T43)) y1, .res (.one (.dp T22)) y3, .res (.one (.dp T27)) y5, .res (.one (.ow T27 28)) y7, .res (.one (.dp T27)) y9, .res (.more (.dp T2) (.more (.dp T2) (.one (.dp T2)))) y11, .res (.more (.ow T2 3) (.one (.dp T2))) y13, .res (.one (.ow T27 28)) y15, .res (.more (.ow T2 3) (.one (.dp T2))) y17, .cutR 6 ⟨[], [(0, 30), (1, 40)], (tourkeep2_RayStops.c1p y11 y13 y17), 2, .normal, (tourkeep2_RayStops.c1q y11 y13 y17 o23), 2⟩, .dec false, .dec true, .cutR 9 ⟨[], [(0, 0)], (tourkeep2_RayStops.c2p y11 y13), 1, .normal, (tourkeep2_RayStops.c2q o30), 0⟩], [], via (cutP (And.intro (And.intro (And.intro (And.intro (And.intro (And.intro (And.intro (And.intro (And.intro trivial e2) e4) e6) e8) e10) e12) e14) e16) e18) [(0, 30), (1, 40)] (tourkeep2_RayStops.c1p y11 y13 y17) (((tourkeep2_RayStops.c1_ok k y11 y13 y17).ap e24)) (cutP (And.intro (And.intro trivial e25) e26) [(0, 0)] (tourkeep2_RayStops.c2p y11 y13) (((tourkeep2_RayStops.c2_ok k y11 y13).ap e31)) (retP trivial (.one (.dp T4)) (o30 : Bool)))) (by kernel_rfl)⟩)) (fun e26 =>
    Owp.bif (fun e32 =>
     Owp.some (⟨[.res (.one (.dp T43)) y1, .res (.one (.dp T22)) y3, .res (.one (.dp T27)) y5, .res (.one (.ow T27 28)) y7, .res (.one (.dp T27)) y9, .res (.more (.dp T2) (.more (.dp T2) (.one (.dp T2)))) y11, .res (.more (.ow T2 3) (.one (.dp T2))) y13, .res (.one (.ow T27 28)) y15, .res (.more (.ow T2 3) (.one (.dp T2))) y17, .cutR 6 ⟨[], [(0, 30), (1, 40)], (tourkeep2_RayStops.c1p y11 y13 y17), 2, .normal, (tourkeep2_RayStops.c1q y11 y13 y17 o23), 2⟩, .dec false, .dec false, .dec true, .dec true, .dec true, .dec true, .dec true, .dec true, .dec true, .dec true, .dec true], [], via (cutP (And.intro (And.intro (And.intro (And.intro (And.intro (And.intro (And.intro (And.intro (And.intro trivial e2) e4) e6) e8) e10) e12) e14) e16) e18) [(0, 30), (1, 40)] (tourkeep2_RayStops.c1p y11 y13 y17) (((tourkeep2_RayStops.c1_ok k y11 y13 y17).ap e24)) (retP (And.intro (And.intro (And.intro (And.intro (And.intro (And.intro (And.intro trivial e25) e26) e32) e32) e32) e32) e32) (.one (.dp T4)) (true : Bool))) (by kernel_rfl)⟩)) (fun e32 =>
     Owp.bif (fun e33 =>
      Owp.some (⟨[.res (.one (.dp T43)) y1, .res (.one (.dp T22)) y3, .res (.one (.dp T27)) y5, .res (.one (.ow T27 28)) y7, .res (.one (.dp T27)) y9, .res (.more (.dp T2) (.more (.dp T2) (.one (.dp T2)))) y11, .res (.more (.ow T2 3) (.one (.dp T2))) y13, .res (.one (.ow T27 28)) y15, .res (.more (.ow T2 3) (.one (.dp T2))) y17, .cutR 6 ⟨[], [(0, 30), (1, 40)], (tourkeep2_RayStops.c1p y11 y13 y17), 2, .normal, (tourkeep2_RayStops.c1q y11 y13 y17 o23), 2⟩, .dec false, .dec false, .dec false, .dec false, .dec false, .dec true, .dec true, .dec true, .dec false, .dec true, .dec false], [], via (cutP (And.intro (And.intro (And.intro (And.intro (And.intro (And.intro (And.intro (And.intro (And.intro trivial e2) e4) e6) e8) e10) e12) e14) e16) e18) [(0, 30), (1, 40)] (tourkeep2_RayStops.c1p y11 y13 y17) (((tourkeep2_RayStops.c1_ok k y11 y13 y17).ap e24)) (retP (And.intro (And.intro (And.intro (And.intro (And.intro (And.intro (And.intro (And.intro (And.intro (And.intro trivial e25) e26) e32) e32) e32) e33) e33) e33) (And.intro e32 e33)) e32) (.one (.dp T4)) ((ieq (len y17.1) (0 : Int)) : Bool))) (by kernel_rfl)⟩)) (fun e33 =>
      Owp.some (⟨[.res (.one (.dp T43)) y1, .res (.one (.dp T22)) y3, .res (.one (.dp T27)) y5, .res (.one (.ow T27 28)) y7, .res (.one (.dp T27)) y9, .res (.more (.dp T2) (.more (.dp T2) (.one (.dp T2)))) y11, .res (.more (.ow T2 3) (.one (.dp T2))) y13, .res (.one (.ow T27 28)) y15, .res (.more (.ow T2 3) (.one (.dp T2))) y17, .cutR 6 ⟨[], [(0, 30), (1, 40)], (tourkeep2_RayStops.c1p y11 y13 y17), 2, .normal, (tourkeep2_RayStops.c1q y11 y13 y17 o23), 2⟩, .dec false, .dec false, .dec false, .dec false, .dec false, .dec false, .dec false, .dec false, .dec false, .dec false, .dec false], [], via (cutP (And.intro (And.intro (And.intro (And.intro (And.intro (And.intro (And.intro (And.intro (And.intro trivial e2) e4) e6) e8) e10) e12) e14) e16) e18) [(0, 30), (1, 40)] (tourkeep2_RayStops.c1p y11 y13 y17) (((tourkeep2_RayStops.c1_ok k y11 y13 y17).ap e24)) (retP (And.intro (And.intro (And.intro (And.intro (And.intro (And.intro (And.intro (And.intro (And.intro (And.intro trivial e25) e26) e32) e32) e32) e33) e33) e33) (And.intro e32 e33)) e32) (.one (.dp T4)) (false : Bool))) (by kernel_rfl)⟩)))))
theorem tourkeep2_RayStops.ok (k : Nat) : FnOk PR 8 (tourkeep2_RayStops.sp k) :=
  fn_ok (tourkeep2_RayStops.cok k) hmix Try.func8 (code := tourkeep2_RayStops.code) (by kernel_rfl) (by kernel_rfl) (by kernel_rfl) rfl rfl (by kernel_rfl) (by kernel_rfl) (by kernel_rfl) (fun x => Nat.le_of_ble_eq_true (by kernel_rfl)) fun x y hy => (tourkeep2_RayStops.way k x.1 x.2.1 x.2.2.1 x.2.2.2.1 x.2.2.2.2.1 x.2.2.2.2.2.1).ap hy

end Go.Proofs.T1
