import Derived.Test.YtcgcnojpcgjnmaaG0
import Derived.Test.YtcgcnojpcgjnmaaG1
import Derived.Test.YtcgcnojpcgjnmaaG2
import Derived.Test.YtcgcnojpcgjnmaaG6
import Derived.Test.YtcgcnojpcgjnmaaG8
import Derived.Test.YtcgcnojpcgjnmaaG9
namespace Go.Proofs.T1
open Go Go.Sx Go.Proofs
set_option maxRecDepth 100000
set_option linter.unusedVariables false
/-! tourney/ray.within -/
noncomputable def ray_within.code : Code := Func.cd Try.f119
def ray_within (k : Nat) (a0 : V22) : Option Bool :=
  bif' (ige a0.1 (-65536000))
  (bif' (ile a0.1 65536000)
   (bif' (ige a0.2.1 (-65536000))
    (some (ile a0.2.1 65536000))
    (some false))
   (some false))
  (some false)
noncomputable def ray_within.sp (k : Nat) : Go.Sx.Spec := ⟨(.pair T22 .unit), (.one (.dp T4)), fun x => ray_within k x.1, false⟩
noncomputable def ray_within.cx (k : Nat) : Go.Sx.Ctx := ⟨tys, [], eqs, 21, 0, [], false⟩
theorem ray_within.cok (k : Nat) : CtxOk PR (ray_within.cx k) := ctx_ok tysOk eqsOk FnsOk.nil HsOk.nil
theorem ray_within.way (k : Nat) (a0 : V22) : Owp (ray_within k a0) fun y => ∃ answers cmds, exec PR (ray_within.cx k) ray_within.code 0 (entry (.pair T22 .unit) (a0, ())).st answers (Ret (ray_within.cx k) Try.f119 cmds (.one (.dp T4)) y) := by
  unfold ray_within; exact
   Owp.bif (fun e1 =>
   Owp.bif (fun e2 =>
    Owp.bif (fun e3 =>
     Owp.some (⟨[.dec true, .dec true, .dec true, .dec true, .dec true, .dec true, .dec true, .dec true, .dec true, .dec true, .dec true, .dec true], [], via (retP (And.intro (And.intro (And.intro (And.intro (And.intro (And.intro (And.intro (And.intro (And.intro (And.intro (And.intro (And.intro trivial e1) e1) e1) e1) e2) e2) e2) e2) e3) e3) e3) e3) (.one (.dp T4)) ((ile a0.2.1 (65536000 : Int)) : Bool)) (by kernel_rfl)⟩)) (fun e3 =>
     Owp.some (⟨[.dec true, .dec true, .dec true, .dec true, .dec true, .dec true, .dec true, .dec true, .dec false, .dec false, .dec false, .dec false], [], via (retP (And.intro (And.intro (And.intro (And.intro (And.intro (And.intro (And.intro (And.intro (And.intro (And.intro (And.intro (And.intro trivial e1) e1) e1) e1) e2) e2) e2) e2) e3) e3) e3) e3) (.one (.dp T4)) (false : Bool)) (by kernel_rfl)⟩))) (fun e2 =>
    Owp.some (⟨[.dec true, .dec true, .dec true, .dec true, .dec false, .dec false, .dec false, .dec false, .dec false, .dec false, .dec false, .dec false], [], via (retP (And.intro (And.intro (And.intro (And.intro (And.intro (And.intro (And.intro (And.intro (And.intro (And.intro (And.intro (And.intro trivial e1) e1) e1) e1) e2) e2) e2) e2) ff) ff) ff) ff) (.one (.dp T4)) (false : Bool)) (by kernel_rfl)⟩))) (fun e1 =>
   Owp.some (⟨[.dec false, .dec false, .dec false, .dec false, .dec false, .dec false, .dec false, .dec false, .dec false, .dec false, .dec false, .dec false], [], via (retP (And.intro (And.intro (And.intro (And.intro (And.intro (And.intro (And.intro (And.intro (And.intro (And.intro (And.intro (And.intro trivial e1) e1) e1) e1) ff) ff) ff) ff) ff) ff) ff) ff) (.one (.dp T4)) (false : Bool)) (by kernel_rfl)⟩))
theorem ray_within.ok (k : Nat) : FnOk PR 119 (ray_within.sp k) :=
  fn_ok (ray_within.cok k) hmix Try.func119 (code := ray_within.code) (by kernel_rfl) (by kernel_rfl) (by kernel_rfl) rfl rfl (by kernel_rfl) (by kernel_rfl) (by kernel_rfl) (fun x => Nat.le_of_ble_eq_true (by kernel_rfl)) fun x y hy => (ray_within.way k x.1).ap hy

/-! tourney/ray.first -/
noncomputable def ray_first.code : Code := Func.cd Try.f122
def ray_first.c2 (k : Nat) (v1 : Int) (v2 : Int) (y8 : (Int × Bool)) : Option (Bool) :=
  bif' y8.2
  (bif' (ilt v1 0)
   (some true)
   (some (ilt y8.1 v2)))
  (some false)
def ray_first.c1 (k : Nat) (a0 : (List V25)) (a1 : (((List V22) × Unit) → Option (Int × Bool))) : Nat → Int → Int → Int → Option ((Int × Int))
  | 0, _, _, _ => none
  | n + 1, v1, v2, v3 =>
   bif' (ilt v3 (len a0))
   (req (inL v3 a0) <|
    bnd (body_Place k (el Z25 a0 v3)) fun y6 =>
    bnd (a1 (y6, ())) fun y8 =>
    bnd (ray_first.c2 k v1 v2 y8) fun o12 =>
    bif' o12
    (ray_first.c1 k a0 a1 n v3 y8.1 (iadd .i64 v3 1))
    (ray_first.c1 k a0 a1 n v1 v2 (iadd .i64 v3 1)))
   (some (v1, v2))
def ray_first (k : Nat) (a0 : (List V25)) (a1 : (((List V22) × Unit) → Option (Int × Bool))) : Option (Int × (Int × Int)) :=
  bnd (ray_first.c1 k a0 a1 k (-1) 0 0) fun o15 =>
  bif' (ilt o15.1 0)
  (some (0, 0, 4))
  (some (o15.1, o15.2, 0))
noncomputable def ray_first.sp (k : Nat) : Go.Sx.Spec := ⟨(.pair (.slice T25) (.pair (.fn2 (.pair T24 .unit) T2 T4) .unit)), (.more (.dp T2) (.more (.dp T2) (.one (.dp T2)))), fun x => ray_first k x.1 x.2.1, false⟩
noncomputable def ray_first.cx (k : Nat) : Go.Sx.Ctx := ⟨tys, [(36, (body_Place.sp k).frz)], eqs, 44, 0, [], false⟩
theorem ray_first.cok (k : Nat) : CtxOk PR (ray_first.cx k) := ctx_ok tysOk eqsOk (FnsOk.cons (FnOk.frz rfl (body_Place.ok k)) FnsOk.nil) HsOk.nil
noncomputable def ray_first.c2p (a0 : (List V25)) (a1 : (((List V22) × Unit) → Option (Int × Bool))) (v1 : Int) (v2 : Int) (v3 : Int) (y8 : (Int × Bool)) : SL := ⟨[(1, (.val (.fn2 (.pair T24 .unit) T2 T4) a1)), (7, (.val T2 v1)), (8, (.val T2 v2)), (9, (.val T2 v3)), (11, (.val T2 y8.1)), (12, (.val T4 y8.2)), (13, (.val (.slice T25) a0)), (14, (.val T2 (len a0))), (15, (.val T2 v3))], []⟩
noncomputable def ray_first.c2q (a0 : (List V25)) (a1 : (((List V22) × Unit) → Option (Int × Bool))) (v1 : Int) (v2 : Int) (v3 : Int) (y8 : (Int × Bool)) (o : Bool) : SL := (fun v => ⟨[(1, (.val (.fn2 (.pair T24 .unit) T2 T4) a1)), (7, (.val T2 v1)), (8, (.val T2 v2)), (9, (.val T2 v3)), (11, (.val T2 y8.1)), (13, (.val (.slice T25) a0)), (14, (.val T2 (len a0))), (15, (.val T2 v3)), (36, (.val T4 v))], []⟩) o
noncomputable def ray_first.c2x (o : Bool) : Ex := (fun _ => .normal) o
noncomputable def ray_first.c2n (o : Bool) : Nat := (fun _ => 0) o
theorem ray_first.c2_ok (k : Nat) (a0 : (List V25)) (a1 : (((List V22) × Unit) → Option (Int × Bool))) (v1 : Int) (v2 : Int) (v3 : Int) (y8 : (Int × Bool)) : Owp (ray_first.c2 k v1 v2 y8) fun o => Triple PR (ray_first.cx k) (sub ray_first.code [1, 1, 0, 1, 0, 0, 1, 1, 0, 0, 1, 1, 0]) 0 (ray_first.c2p a0 a1 v1 v2 v3 y8) (ray_first.c2x o) (ray_first.c2n o) (ray_first.c2q a0 a1 v1 v2 v3 y8 o) := by
  unfold ray_first.c2; exact
   Owp.bif (fun e10 =>
   Owp.bif (fun e11 =>
    Owp.some (triple_way (ray_first.cok k) hmix [.dec true, .dec true, .dec true, .dec true, .dec true, .dec true, .dec true, .dec true, .dec true] [] [] (via (finP (And.intro (And.intro (And.intro (And.intro (And.intro (And.intro (And.intro (And.intro trivial e10) e10) e10) e11) e11) e11) (And.intro e10 e11)) e10) .normal [] (ray_first.c2q a0 a1 v1 v2 v3 y8 true)) (by kernel_rfl)))) (fun e11 =>
    Owp.some (triple_way (ray_first.cok k) hmix [.dec true, .dec true, .dec true, .dec false, .dec false, .dec false, .dec true, .dec false, .dec true] [] [] (via (finP (And.intro (And.intro (And.intro (And.intro (And.intro (And.intro (And.intro (And.intro trivial e10) e10) e10) e11) e11) e11) (And.intro e10 e11)) e10) .normal [] (ray_first.c2q a0 a1 v1 v2 v3 y8 (ilt y8.1 v2))) (by kernel_rfl))))) (fun e10 =>
   Owp.some (triple_way (ray_first.cok k) hmix [.dec false, .dec false, .dec false, .dec true, .dec true, .dec true, .dec false, .dec true, .dec false] [] [] (via (finP (And.intro (And.intro (And.intro (And.intro (And.intro trivial e10) e10) e10) e10) e10) .normal [] (ray_first.c2q a0 a1 v1 v2 v3 y8 false)) (by kernel_rfl))))
noncomputable def ray_first.c1p (a0 : (List V25)) (a1 : (((List V22) × Unit) → Option (Int × Bool))) (v1 : Int) (v2 : Int) (v3 : Int) : SL := ⟨[(1, (.val (.fn2 (.pair T24 .unit) T2 T4) a1)), (7, (.val T2 v1)), (8, (.val T2 v2)), (13, (.val (.slice T25) a0)), (14, (.val T2 (len a0))), (15, (.val T2 v3))], []⟩
noncomputable def ray_first.c1q (o : (Int × Int)) : SL := (fun v => ⟨[(7, (.val T2 v.1)), (8, (.val T2 v.2))], []⟩) o
noncomputable def ray_first.c1x (o : (Int × Int)) : Ex := (fun _ => (.exit 0)) o
noncomputable def ray_first.c1n (o : (Int × Int)) : Nat := (fun _ => 0) o
theorem ray_first.c1_ok (k : Nat) (a0 : (List V25)) (a1 : (((List V22) × Unit) → Option (Int × Bool))) : ∀ (n : Nat) (v1 : Int) (v2 : Int) (v3 : Int), Owp (ray_first.c1 k a0 a1 n v1 v2 v3) fun o => LTriple PR (ray_first.cx k) (sub ray_first.code [1, 1, 0, 1, 0, 0]) 0 (ray_first.c1p a0 a1 v1 v2 v3) (ray_first.c1x o) (ray_first.c1n o) (ray_first.c1q o)
  | 0, _, _, _ => fun _ h => nomatch h
  | n + 1, v1, v2, v3 => Owp.of (ray_first.c1.eq_2 ..) (
   Owp.bif (fun e4 =>
   Owp.req fun h5 =>
    Owp.bnd fun y6 e7 =>
    Owp.bnd fun y8 e9 =>
    Owp.bnd fun o12 e13 =>
    Owp.bif (fun e14 =>
    fun y hy => loop_back (ray_first.cok k) hmix 0 (ray_first.c1p a0 a1 v3 y8.1 (iadd .i64 v3 (1 : Int))) [.dec true, .res (.one (.dp T24)) y6, .res (.more (.dp T2) (.one (.dp T4))) y8, .cutR 6 ⟨[], [], (ray_first.c2p a0 a1 v1 v2 v3 y8), 0, .normal, (ray_first.c2q a0 a1 v1 v2 v3 y8 o12), 0⟩, .dec true] [] [] (via (cutP (And.intro (And.intro (And.intro (And.intro trivial e4) h5) e7) e9) [] (ray_first.c2p a0 a1 v1 v2 v3 y8) (((ray_first.c2_ok k a0 a1 v1 v2 v3 y8).ap e13)) (finP (And.intro trivial e14) .normal [] (ray_first.c1p a0 a1 v3 y8.1 (iadd .i64 v3 (1 : Int))))) (by kernel_rfl)) ((ray_first.c1_ok k a0 a1 n v3 y8.1 (iadd .i64 v3 (1 : Int))).ap hy)) (fun e14 =>
    fun y hy => loop_back (ray_first.cok k) hmix 0 (ray_first.c1p a0 a1 v1 v2 (iadd .i64 v3 (1 : Int))) [.dec true, .res (.one (.dp T24)) y6, .res (.more (.dp T2) (.one (.dp T4))) y8, .cutR 6 ⟨[], [], (ray_first.c2p a0 a1 v1 v2 v3 y8), 0, .normal, (ray_first.c2q a0 a1 v1 v2 v3 y8 o12), 0⟩, .dec false] [] [] (via (cutP (And.intro (And.intro (And.intro (And.intro trivial e4) h5) e7) e9) [] (ray_first.c2p a0 a1 v1 v2 v3 y8) (((ray_first.c2_ok k a0 a1 v1 v2 v3 y8).ap e13)) (finP (And.intro trivial e14) .normal [] (ray_first.c1p a0 a1 v1 v2 (iadd .i64 v3 (1 : Int))))) (by kernel_rfl)) ((ray_first.c1_ok k a0 a1 n v1 v2 (iadd .i64 v3 (1 : Int))).ap hy))) (fun e4 =>
   Owp.some (loop_exit (ray_first.cok k) hmix [.dec false] [] [] (exne 0) (via (finP (And.intro trivial e4) (.exit 0) [] (ray_first.c1q (v1, v2))) (by kernel_rfl)))))
theorem ray_first.way (k : Nat) (a0 : (List V25)) (a1 : (((List V22) × Unit) → Option (Int × Bool))) : Owp (ray_first k a0 a1) fun y => ∃ answers cmds, exec PR (ray_first.cx k) ray_first.code 0 (entry (.pair (.slice T25) (.pair (.fn2 (.pair T24 .unit) T2 T4) .unit)) (a0, a1, ())).st answers (Ret (ray_first.cx k) Try.f122 cmds (.more (.dp T2) (.more (.dp T2) (.one (.dp T2)))) y) := by
  unfold ray_first; exact
   Owp.bnd fun o15 e16 =>
   Owp.bif (fun e17 =>
   Owp.some (⟨[.cut ⟨[], [], (ray_first.c1p a0 a1 (-1 : Int) (0 : Int) (0 : Int)), 0, (.exit 0), (ray_first.c1q o15), 0⟩, .dec true], [], via (cutP trivial [] (ray_first.c1p a0 a1 (-1 : Int) (0 : Int) (0 : Int)) (((ray_first.c1_ok k a0 a1 k (-1 : Int) (0 : Int) (0 : Int)).ap e16).triple) (retP (And.intro trivial e17) (.more (.dp T2) (.more (.dp T2) (.one (.dp T2)))) (((0 : Int), (0 : Int), (4 : Int)) : (Int × (Int × Int))))) (by kernel_rfl)⟩)) (fun e17 =>
   Owp.some (⟨[.cut ⟨[], [], (ray_first.c1p a0 a1 (-1 : Int) (0 : Int) (0 : Int)), 0, (.exit 0), (ray_first.c1q o15), 0⟩, .dec false], [], via (cutP trivial [] (ray_first.c1p a0 a1 (-1 : Int) (0 : Int) (0 : Int)) (((ray_first.c1_ok k a0 a1 k (-1 : Int) (0 : Int) (0 : Int)).ap e16).triple) (retP (And.intro trivial e17) (.more (.dp T2) (.more (.dp T2) (.one (.dp T2)))) ((o15.1, o15.2, (0 : Int)) : (Int × (Int × Int))))) (by kernel_rfl)⟩))
theorem ray_first.ok (k : Nat) : FnOk PR 122 (ray_first.sp k) :=
  fn_ok (ray_first.cok k) hmix Try.func122 (code := ray_first.code) (by kernel_rfl) (by kernel_rfl) (by kernel_rfl) rfl rfl (by kernel_rfl) (by kernel_rfl) (by kernel_rfl) (fun x => Nat.le_of_ble_eq_true (by kernel_rfl)) fun x y hy => (ray_first.way k x.1 x.2.1).ap hy

/-! (tourney/ray.part).cmp -/
noncomputable def ray_part_cmp.code : Code := Func.cd Try.f175
def ray_part_cmp (k : Nat) (a0 : V22) (a1 : V22) : Option Int :=
  bnd (poly_Times k a0.1 a1.2.1) fun y1 =>
  bnd (poly_Times k a1.1 a0.2.1) fun y3 =>
  bnd (poly_Wide_Cmp k y1 y3) fun y5 =>
  some y5
noncomputable def ray_part_cmp.sp (k : Nat) : Go.Sx.Spec := ⟨T52, (.one (.dp T2)), fun x => ray_part_cmp k x.1 x.2.1, false⟩
noncomputable def ray_part_cmp.cx (k : Nat) : Go.Sx.Ctx := ⟨tys, [(96, poly_Times.sp k), (67, poly_Wide_Cmp.sp k)], eqs, 16, 0, [], false⟩
theorem ray_part_cmp.cok (k : Nat) : CtxOk PR (ray_part_cmp.cx k) := ctx_ok tysOk eqsOk (FnsOk.cons (poly_Times.ok k) (FnsOk.cons (poly_Wide_Cmp.ok k) FnsOk.nil)) HsOk.nil
theorem ray_part_cmp.way (k : Nat) (a0 : V22) (a1 : V22) : Owp (ray_part_cmp k a0 a1) fun y => ∃ answers cmds, exec PR (ray_part_cmp.cx k) ray_part_cmp.code 0 (entry T52 (a0, a1, ())).st answers (Ret (ray_part_cmp.cx k) Try.f175 cmds (.one (.dp T2)) y) := by
  unfold ray_part_cmp; exact
   Owp.bnd fun y1 e2 =>
   Owp.bnd fun y3 e4 =>
   Owp.bnd fun y5 e6 =>
   Owp.some (⟨[.res (.one (.dp T90)) y1, .res (.one (.dp T90)) y3, .res (.one (.dp T2)) y5], [], via (retP (And.intro (And.intro (And.intro trivial e2) e4) e6) (.one (.dp T2)) (y5 : Int)) (by kernel_rfl)⟩)
theorem ray_part_cmp.ok (k : Nat) : FnOk PR 175 (ray_part_cmp.sp k) :=
  fn_ok (ray_part_cmp.cok k) hmix Try.func175 (code := ray_part_cmp.code) (by kernel_rfl) (by kernel_rfl) (by kernel_rfl) rfl rfl (by kernel_rfl) (by kernel_rfl) (by kernel_rfl) (fun x => Nat.le_of_ble_eq_true (by kernel_rfl)) fun x y hy => (ray_part_cmp.way k x.1 x.2.1).ap hy

/-! (tourney/ray.part).floor -/
noncomputable def ray_part_floor.code : Code := Func.cd Try.f176
def ray_part_floor.c1 (k : Nat) (a0 : V22) : Nat → Int → Int → Option (Int)
  | 0, _, _ => none
  | n + 1, v1, v2 =>
   bif' (igt (isub .i64 v2 v1) 1)
   (bnd (poly_Times k (iquo .i64 (iadd .i64 v1 v2) 2) a0.2.1) fun y4 =>
    bnd (poly_Times k a0.1 65536) fun y6 =>
    bnd (poly_Wide_Cmp k y4 y6) fun y8 =>
    bif' (ile y8 0)
    (ray_part_floor.c1 k a0 n (iquo .i64 (iadd .i64 v1 v2) 2) v2)
    (ray_part_floor.c1 k a0 n v1 (iquo .i64 (iadd .i64 v1 v2) 2)))
   (some v1)
def ray_part_floor (k : Nat) (a0 : V22) : Option Int :=
  bnd (ray_part_floor.c1 k a0 k 0 65537) fun o11 =>
  some o11
noncomputable def ray_part_floor.sp (k : Nat) : Go.Sx.Spec := ⟨(.pair T22 .unit), (.one (.dp T2)), fun x => ray_part_floor k x.1, false⟩
noncomputable def ray_part_floor.cx (k : Nat) : Go.Sx.Ctx := ⟨tys, [(96, poly_Times.sp k), (67, poly_Wide_Cmp.sp k)], eqs, 26, 0, [], false⟩
theorem ray_part_floor.cok (k : Nat) : CtxOk PR (ray_part_floor.cx k) := ctx_ok tysOk eqsOk (FnsOk.cons (poly_Times.ok k) (FnsOk.cons (poly_Wide_Cmp.ok k) FnsOk.nil)) HsOk.nil
noncomputable def ray_part_floor.c1p (a0 : V22) (v1 : Int) (v2 : Int) : SL := ⟨[(1, (.val .ptr ⟨0, 0, (0 : Int), 0, 0⟩)), (3, (.val T2 v1)), (4, (.val T2 v2))], [(0, .cells T22 a0)]⟩
noncomputable def ray_part_floor.c1q (o : Int) : SL := (fun v => ⟨[(3, (.val T2 v))], []⟩) o
noncomputable def ray_part_floor.c1x (o : Int) : Ex := (fun _ => (.exit 0)) o
noncomputable def ray_part_floor.c1n (o : Int) : Nat := (fun _ => 0) o
theorem ray_part_floor.c1_ok (k : Nat) (a0 : V22) : ∀ (n : Nat) (v1 : Int) (v2 : Int), Owp (ray_part_floor.c1 k a0 n v1 v2) fun o => LTriple PR (ray_part_floor.cx k) (sub ray_part_floor.code [1, 1, 0, 0, 0]) 1 (ray_part_floor.c1p a0 v1 v2) (ray_part_floor.c1x o) (ray_part_floor.c1n o) (ray_part_floor.c1q o)
  | 0, _, _ => fun _ h => nomatch h
  | n + 1, v1, v2 => Owp.of (ray_part_floor.c1.eq_2 ..) (
   Owp.bif (fun e3 =>
   Owp.bnd fun y4 e5 =>
    Owp.bnd fun y6 e7 =>
    Owp.bnd fun y8 e9 =>
    Owp.bif (fun e10 =>
    fun y hy => loop_back (ray_part_floor.cok k) hmix 1 (ray_part_floor.c1p a0 (iquo .i64 (iadd .i64 v1 v2) (2 : Int)) v2) [.dec true, .res (.one (.dp T90)) y4, .res (.one (.dp T90)) y6, .res (.one (.dp T2)) y8, .dec true] [] [(0, 0)] (via (finP (And.intro (And.intro (And.intro (And.intro (And.intro (And.intro trivial e3) (by decide : nz (2 : Int))) e5) e7) e9) e10) .normal [(0, 0)] (ray_part_floor.c1p a0 (iquo .i64 (iadd .i64 v1 v2) (2 : Int)) v2)) (by kernel_rfl)) ((ray_part_floor.c1_ok k a0 n (iquo .i64 (iadd .i64 v1 v2) (2 : Int)) v2).ap hy)) (fun e10 =>
    fun y hy => loop_back (ray_part_floor.cok k) hmix 1 (ray_part_floor.c1p a0 v1 (iquo .i64 (iadd .i64 v1 v2) (2 : Int))) [.dec true, .res (.one (.dp T90)) y4, .res (.one (.dp T90)) y6, .res (.one (.dp T2)) y8, .dec false] [] [(0, 0)] (via (finP (And.intro (And.intro (And.intro (And.intro (And.intro (And.intro trivial e3) (by decide : nz (2 : Int))) e5) e7) e9) e10) .normal [(0, 0)] (ray_part_floor.c1p a0 v1 (iquo .i64 (iadd .i64 v1 v2) (2 : Int)))) (by kernel_rfl)) ((ray_part_floor.c1_ok k a0 n v1 (iquo .i64 (iadd .i64 v1 v2) (2 : Int))).ap hy))) (fun e3 =>
   Owp.some (loop_exit (ray_part_floor.cok k) hmix [.dec false] [] [] (exne 0) (via (finP (And.intro trivial e3) (.exit 0) [] (ray_part_floor.c1q v1)) (by kernel_rfl)))))
theorem ray_part_floor.way (k : Nat) (a0 : V22) : Owp (ray_part_floor k a0) fun y => ∃ answers cmds, exec PR (ray_part_floor.cx k) ray_part_floor.code 0 (entry (.pair T22 .unit) (a0, ())).st answers (Ret (ray_part_floor.cx k) Try.f176 cmds (.one (.dp T2)) y) := by
  unfold ray_part_floor; exact
   Owp.bnd fun o11 e12 =>
   Owp.some (⟨[.cut ⟨[], [(0, 0)], (ray_part_floor.c1p a0 (0 : Int) (65537 : Int)), 1, (.exit 0), (ray_part_floor.c1q o11), 0⟩], [], via (cutP trivial [(0, 0)] (ray_part_floor.c1p a0 (0 : Int) (65537 : Int)) (((ray_part_floor.c1_ok k a0 k (0 : Int) (65537 : Int)).ap e12).triple) (retP trivial (.one (.dp T2)) (o11 : Int))) (by kernel_rfl)⟩)
theorem ray_part_floor.ok (k : Nat) : FnOk PR 176 (ray_part_floor.sp k) :=
  fn_ok (ray_part_floor.cok k) hmix Try.func176 (code := ray_part_floor.code) (by kernel_rfl) (by kernel_rfl) (by kernel_rfl) rfl rfl (by kernel_rfl) (by kernel_rfl) (by kernel_rfl) (fun x => Nat.le_of_ble_eq_true (by kernel_rfl)) fun x y hy => (ray_part_floor.way k x.1).ap hy

/-! tourney/ray.line -/
noncomputable def ray_line.code : Code := Func.cd Try.f120
def ray_line.c2 (k : Nat) (a0 : (List V22)) (a1 : V22) (a2 : V22) (v1 : Int) : Option (Bool) :=
  bif' (ieq (iadd .i64 (imul .i64 (isub .i64 (el Z22 a0 (irem (iadd .i64 v1 1) (len a0))).2.1 (el Z22 a0 v1).2.1) a2.1) (imul .i64 (isub .i64 (el Z22 a0 v1).1 (el Z22 a0 (irem (iadd .i64 v1 1) (len a0))).1) a2.2.1)) 0)
  (some (ilt (iadd .i64 (imul .i64 (isub .i64 (el Z22 a0 (irem (iadd .i64 v1 1) (len a0))).2.1 (el Z22 a0 v1).2.1) (isub .i64 (el Z22 a0 v1).1 a1.1)) (imul .i64 (isub .i64 (el Z22 a0 v1).1 (el Z22 a0 (irem (iadd .i64 v1 1) (len a0))).1) (isub .i64 (el Z22 a0 v1).2.1 a1.2.1))) 0))
  (some false)
def ray_line.c3 (k : Nat) (a0 : (List V22)) (a1 : V22) (a2 : V22) (v1 : Int) (v4 : Int) (v5 : Int) : Option (Bool) :=
  bif' (igt (iadd .i64 (imul .i64 (isub .i64 (el Z22 a0 (irem (iadd .i64 v1 1) (len a0))).2.1 (el Z22 a0 v1).2.1) a2.1) (imul .i64 (isub .i64 (el Z22 a0 v1).1 (el Z22 a0 (irem (iadd .i64 v1 1) (len a0))).1) a2.2.1)) 0)
  (bnd (ray_part_cmp k ((iadd .i64 (imul .i64 (isub .i64 (el Z22 a0 (irem (iadd .i64 v1 1) (len a0))).2.1 (el Z22 a0 v1).2.1) (isub .i64 (el Z22 a0 v1).1 a1.1)) (imul .i64 (isub .i64 (el Z22 a0 v1).1 (el Z22 a0 (irem (iadd .i64 v1 1) (len a0))).1) (isub .i64 (el Z22 a0 v1).2.1 a1.2.1))), (iadd .i64 (imul .i64 (isub .i64 (el Z22 a0 (irem (iadd .i64 v1 1) (len a0))).2.1 (el Z22 a0 v1).2.1) a2.1) (imul .i64 (isub .i64 (el Z22 a0 v1).1 (el Z22 a0 (irem (iadd .i64 v1 1) (len a0))).1) a2.2.1)), ()) (v4, v5, ())) fun y15 =>
   some (ilt y15 0))
  (some false)
def ray_line.c4 (k : Nat) (a0 : (List V22)) (a1 : V22) (a2 : V22) (v1 : Int) (v2 : Int) (v3 : Int) : Option (Bool) :=
  bif' (ilt (iadd .i64 (imul .i64 (isub .i64 (el Z22 a0 (irem (iadd .i64 v1 1) (len a0))).2.1 (el Z22 a0 v1).2.1) a2.1) (imul .i64 (isub .i64 (el Z22 a0 v1).1 (el Z22 a0 (irem (iadd .i64 v1 1) (len a0))).1) a2.2.1)) 0)
  (bnd (ray_part_cmp k ((ineg .i64 (iadd .i64 (imul .i64 (isub .i64 (el Z22 a0 (irem (iadd .i64 v1 1) (len a0))).2.1 (el Z22 a0 v1).2.1) (isub .i64 (el Z22 a0 v1).1 a1.1)) (imul .i64 (isub .i64 (el Z22 a0 v1).1 (el Z22 a0 (irem (iadd .i64 v1 1) (len a0))).1) (isub .i64 (el Z22 a0 v1).2.1 a1.2.1)))), (ineg .i64 (iadd .i64 (imul .i64 (isub .i64 (el Z22 a0 (irem (iadd .i64 v1 1) (len a0))).2.1 (el Z22 a0 v1).2.1) a2.1) (imul .i64 (isub .i64 (el Z22 a0 v1).1 (el Z22 a0 (irem (iadd .i64 v1 1) (len a0))).1) a2.2.1))), ()) (v2, v3, ())) fun y21 =>
   some (igt y21 0))
  (some false)
def ray_line.c1 (k : Nat) (a0 : (List V22)) (a1 : V22) (a2 : V22) : Nat → Int → Int → Int → Int → Int → Option (Unit ⊕ (Int × (Int × (Int × Int))))
  | 0, _, _, _, _, _ => none
  | n + 1, v1, v2, v3, v4, v5 =>
   bif' (ilt v1 (len a0))
   (req (inL v1 a0) <|
    req (nz (len a0)) <|
    req (inL (irem (iadd .i64 v1 1) (len a0)) a0) <|
    bnd (ray_line.c2 k a0 a1 a2 v1) fun o11 =>
    bif' o11
    (some (.inl ()))
    (bnd (ray_line.c3 k a0 a1 a2 v1 v4 v5) fun o17 =>
     bif' o17
     (ray_line.c1 k a0 a1 a2 n (iadd .i64 v1 1) v2 v3 (iadd .i64 (imul .i64 (isub .i64 (el Z22 a0 (irem (iadd .i64 v1 1) (len a0))).2.1 (el Z22 a0 v1).2.1) (isub .i64 (el Z22 a0 v1).1 a1.1)) (imul .i64 (isub .i64 (el Z22 a0 v1).1 (el Z22 a0 (irem (iadd .i64 v1 1) (len a0))).1) (isub .i64 (el Z22 a0 v1).2.1 a1.2.1))) (iadd .i64 (imul .i64 (isub .i64 (el Z22 a0 (irem (iadd .i64 v1 1) (len a0))).2.1 (el Z22 a0 v1).2.1) a2.1) (imul .i64 (isub .i64 (el Z22 a0 v1).1 (el Z22 a0 (irem (iadd .i64 v1 1) (len a0))).1) a2.2.1)))
     (bnd (ray_line.c4 k a0 a1 a2 v1 v2 v3) fun o23 =>
      bif' o23
      (ray_line.c1 k a0 a1 a2 n (iadd .i64 v1 1) (ineg .i64 (iadd .i64 (imul .i64 (isub .i64 (el Z22 a0 (irem (iadd .i64 v1 1) (len a0))).2.1 (el Z22 a0 v1).2.1) (isub .i64 (el Z22 a0 v1).1 a1.1)) (imul .i64 (isub .i64 (el Z22 a0 v1).1 (el Z22 a0 (irem (iadd .i64 v1 1) (len a0))).1) (isub .i64 (el Z22 a0 v1).2.1 a1.2.1)))) (ineg .i64 (iadd .i64 (imul .i64 (isub .i64 (el Z22 a0 (irem (iadd .i64 v1 1) (len a0))).2.1 (el Z22 a0 v1).2.1) a2.1) (imul .i64 (isub .i64 (el Z22 a0 v1).1 (el Z22 a0 (irem (iadd .i64 v1 1) (len a0))).1) a2.2.1))) v4 v5)
      (ray_line.c1 k a0 a1 a2 n (iadd .i64 v1 1) v2 v3 v4 v5))))
   (some (.inr (v2, v3, v4, v5)))
def ray_line (k : Nat) (a0 : (List V22)) (a1 : V22) (a2 : V22) : Option (Int × Bool) :=
  bnd (ray_line.c1 k a0 a1 a2 k 0 0 1 1 1) fun o26 =>
  two o26 (fun y28 =>
  some (0, false)) (fun y30 =>
  bnd (ray_part_cmp k (y30.1, y30.2.1, ()) (y30.2.2.1, y30.2.2.2, ())) fun y32 =>
   bif' (igt y32 0)
   (some (0, false))
   (bnd (ray_part_floor k (y30.1, y30.2.1, ())) fun y35 =>
    some (y35, true)))
noncomputable def ray_line.sp (k : Nat) : Go.Sx.Spec := ⟨(.pair T24 T52), (.more (.dp T2) (.one (.dp T4))), fun x => ray_line k x.1 x.2.1 x.2.2.1, false⟩
noncomputable def ray_line.cx (k : Nat) : Go.Sx.Ctx := ⟨tys, [(175, ray_part_cmp.sp k), (176, ray_part_floor.sp k)], eqs, 118, 0, [], false⟩
theorem ray_line.cok (k : Nat) : CtxOk PR (ray_line.cx k) := ctx_ok tysOk eqsOk (FnsOk.cons (ray_part_cmp.ok k) (FnsOk.cons (ray_part_floor.ok k) FnsOk.nil)) HsOk.nil
noncomputable def ray_line.c2p (a0 : (List V22)) (a1 : V22) (a2 : V22) (v1 : Int) (v2 : Int) (v3 : Int) (v4 : Int) (v5 : Int) : SL := ⟨[(0, (.val T24 a0)), (4, (.val .ptr ⟨0, 0, (0 : Int), 0, 0⟩)), (5, (.val .ptr ⟨1, 0, (0 : Int), 0, 0⟩)), (8, (.val .ptr ⟨2, 0, (0 : Int), 0, 0⟩)), (9, (.val .ptr ⟨3, 0, (0 : Int), 0, 0⟩)), (14, (.val T2 (iadd .i64 (imul .i64 (isub .i64 (el Z22 a0 (irem (iadd .i64 v1 (1 : Int)) (len a0))).2.1 (el Z22 a0 v1).2.1) (isub .i64 (el Z22 a0 v1).1 a1.1)) (imul .i64 (isub .i64 (el Z22 a0 v1).1 (el Z22 a0 (irem (iadd .i64 v1 (1 : Int)) (len a0))).1) (isub .i64 (el Z22 a0 v1).2.1 a1.2.1))))), (15, (.val T2 (iadd .i64 (imul .i64 (isub .i64 (el Z22 a0 (irem (iadd .i64 v1 (1 : Int)) (len a0))).2.1 (el Z22 a0 v1).2.1) a2.1) (imul .i64 (isub .i64 (el Z22 a0 v1).1 (el Z22 a0 (irem (iadd .i64 v1 (1 : Int)) (len a0))).1) a2.2.1)))), (18, (.val T24 a0)), (19, (.val T2 (len a0))), (20, (.val T2 v1))], [(0, .cells T22 a1), (1, .cells T22 a2), (2, .cells T22 (v2, v3, ())), (3, .cells T22 (v4, v5, ()))]⟩
noncomputable def ray_line.c2q (a0 : (List V22)) (a1 : V22) (a2 : V22) (v1 : Int) (v2 : Int) (v3 : Int) (v4 : Int) (v5 : Int) (o : Bool) : SL := (fun v => ⟨[(0, (.val T24 a0)), (4, (.val .ptr ⟨0, 0, (0 : Int), 0, 0⟩)), (5, (.val .ptr ⟨1, 0, (0 : Int), 0, 0⟩)), (8, (.val .ptr ⟨2, 0, (0 : Int), 0, 0⟩)), (9, (.val .ptr ⟨3, 0, (0 : Int), 0, 0⟩)), (14, (.val T2 (iadd .i64 (imul .i64 (isub .i64 (el Z22 a0 (irem (iadd .i64 v1 (1 : Int)) (len a0))).2.1 (el Z22 a0 v1).2.1) (isub .i64 (el Z22 a0 v1).1 a1.1)) (imul .i64 (isub .i64 (el Z22 a0 v1).1 (el Z22 a0 (irem (iadd .i64 v1 (1 : Int)) (len a0))).1) (isub .i64 (el Z22 a0 v1).2.1 a1.2.1))))), (15, (.val T2 (iadd .i64 (imul .i64 (isub .i64 (el Z22 a0 (irem (iadd .i64 v1 (1 : Int)) (len a0))).2.1 (el Z22 a0 v1).2.1) a2.1) (imul .i64 (isub .i64 (el Z22 a0 v1).1 (el Z22 a0 (irem (iadd .i64 v1 (1 : Int)) (len a0))).1) a2.2.1)))), (18, (.val T24 a0)), (19, (.val T2 (len a0))), (20, (.val T2 v1)), (72, (.val T4 v))], [(0, .cells T22 a1), (1, .cells T22 a2), (2, .cells T22 (v2, v3, ())), (3, .cells T22 (v4, v5, ()))]⟩) o
noncomputable def ray_line.c2x (o : Bool) : Ex := (fun _ => .normal) o
noncomputable def ray_line.c2n (o : Bool) : Nat := (fun _ => 4) o
theorem ray_line.c2_ok (k : Nat) (a0 : (List V22)) (a1 : V22) (a2 : V22) (v1 : Int) (v2 : Int) (v3 : Int) (v4 : Int) (v5 : Int) : Owp (ray_line.c2 k a0 a1 a2 v1) fun o => Triple PR (ray_line.cx k) (sub ray_line.code [1, 1, 0, 1, 0, 0, 1, 1, 0, 0, 1, 1, 1, 1, 0, 0]) 4 (ray_line.c2p a0 a1 a2 v1 v2 v3 v4 v5) (ray_line.c2x o) (ray_line.c2n o) (ray_line.c2q a0 a1 a2 v1 v2 v3 v4 v5 o) := by
  unfold ray_line.c2; exact
   Owp.bif (fun e10 =>
   Owp.some (triple_way (ray_line.cok k) hmix [.dec true, .dec true, .dec true] [] [(0, 0), (1, 1), (2, 2), (3, 3)] (via (finP (And.intro (And.intro (And.intro trivial e10) e10) e10) .normal [(0, 0), (1, 1), (2, 2), (3, 3)] (ray_line.c2q a0 a1 a2 v1 v2 v3 v4 v5 (ilt (iadd .i64 (imul .i64 (isub .i64 (el Z22 a0 (irem (iadd .i64 v1 (1 : Int)) (len a0))).2.1 (el Z22 a0 v1).2.1) (isub .i64 (el Z22 a0 v1).1 a1.1)) (imul .i64 (isub .i64 (el Z22 a0 v1).1 (el Z22 a0 (irem (iadd .i64 v1 (1 : Int)) (len a0))).1) (isub .i64 (el Z22 a0 v1).2.1 a1.2.1))) (0 : Int)))) (by kernel_rfl)))) (fun e10 =>
   Owp.some (triple_way (ray_line.cok k) hmix [.dec false, .dec false, .dec false] [] [(0, 0), (1, 1), (2, 2), (3, 3)] (via (finP (And.intro (And.intro (And.intro trivial e10) e10) e10) .normal [(0, 0), (1, 1), (2, 2), (3, 3)] (ray_line.c2q a0 a1 a2 v1 v2 v3 v4 v5 false)) (by kernel_rfl))))
noncomputable def ray_line.c3p (a0 : (List V22)) (a1 : V22) (a2 : V22) (v1 : Int) (v2 : Int) (v3 : Int) (v4 : Int) (v5 : Int) : SL := ⟨[(0, (.val T24 a0)), (4, (.val .ptr ⟨0, 0, (0 : Int), 0, 0⟩)), (5, (.val .ptr ⟨1, 0, (0 : Int), 0, 0⟩)), (8, (.val .ptr ⟨2, 0, (0 : Int), 0, 0⟩)), (9, (.val .ptr ⟨3, 0, (0 : Int), 0, 0⟩)), (14, (.val T2 (iadd .i64 (imul .i64 (isub .i64 (el Z22 a0 (irem (iadd .i64 v1 (1 : Int)) (len a0))).2.1 (el Z22 a0 v1).2.1) (isub .i64 (el Z22 a0 v1).1 a1.1)) (imul .i64 (isub .i64 (el Z22 a0 v1).1 (el Z22 a0 (irem (iadd .i64 v1 (1 : Int)) (len a0))).1) (isub .i64 (el Z22 a0 v1).2.1 a1.2.1))))), (15, (.val T2 (iadd .i64 (imul .i64 (isub .i64 (el Z22 a0 (irem (iadd .i64 v1 (1 : Int)) (len a0))).2.1 (el Z22 a0 v1).2.1) a2.1) (imul .i64 (isub .i64 (el Z22 a0 v1).1 (el Z22 a0 (irem (iadd .i64 v1 (1 : Int)) (len a0))).1) a2.2.1)))), (18, (.val T24 a0)), (19, (.val T2 (len a0))), (20, (.val T2 v1))], [(0, .cells T22 a1), (1, .cells T22 a2), (2, .cells T22 (v2, v3, ())), (3, .cells T22 (v4, v5, ()))]⟩
noncomputable def ray_line.c3q (a0 : (List V22)) (a1 : V22) (a2 : V22) (v1 : Int) (v2 : Int) (v3 : Int) (v4 : Int) (v5 : Int) (o : Bool) : SL := (fun v => ⟨[(0, (.val T24 a0)), (4, (.val .ptr ⟨0, 0, (0 : Int), 0, 0⟩)), (5, (.val .ptr ⟨1, 0, (0 : Int), 0, 0⟩)), (8, (.val .ptr ⟨2, 0, (0 : Int), 0, 0⟩)), (9, (.val .ptr ⟨3, 0, (0 : Int), 0, 0⟩)), (14, (.val T2 (iadd .i64 (imul .i64 (isub .i64 (el Z22 a0 (irem (iadd .i64 v1 (1 : Int)) (len a0))).2.1 (el Z22 a0 v1).2.1) (isub .i64 (el Z22 a0 v1).1 a1.1)) (imul .i64 (isub .i64 (el Z22 a0 v1).1 (el Z22 a0 (irem (iadd .i64 v1 (1 : Int)) (len a0))).1) (isub .i64 (el Z22 a0 v1).2.1 a1.2.1))))), (15, (.val T2 (iadd .i64 (imul .i64 (isub .i64 (el Z22 a0 (irem (iadd .i64 v1 (1 : Int)) (len a0))).2.1 (el Z22 a0 v1).2.1) a2.1) (imul .i64 (isub .i64 (el Z22 a0 v1).1 (el Z22 a0 (irem (iadd .i64 v1 (1 : Int)) (len a0))).1) a2.2.1)))), (18, (.val T24 a0)), (19, (.val T2 (len a0))), (20, (.val T2 v1)), (79, (.val T4 v))], [(0, .cells T22 a1), (1, .cells T22 a2), (2, .cells T22 (v2, v3, ())), (3, .cells T22 (v4, v5, ()))]⟩) o
noncomputable def ray_line.c3x (o : Bool) : Ex := (fun _ => .normal) o
noncomputable def ray_line.c3n (o : Bool) : Nat := (fun _ => 4) o
theorem ray_line.c3_ok (k : Nat) (a0 : (List V22)) (a1 : V22) (a2 : V22) (v1 : Int) (v2 : Int) (v3 : Int) (v4 : Int) (v5 : Int) : Owp (ray_line.c3 k a0 a1 a2 v1 v4 v5) fun o => Triple PR (ray_line.cx k) (sub ray_line.code [1, 1, 0, 1, 0, 0, 1, 1, 0, 0, 1, 1, 1, 1, 0, 1, 1, 0]) 4 (ray_line.c3p a0 a1 a2 v1 v2 v3 v4 v5) (ray_line.c3x o) (ray_line.c3n o) (ray_line.c3q a0 a1 a2 v1 v2 v3 v4 v5 o) := by
  unfold ray_line.c3; exact
   Owp.bif (fun e14 =>
   Owp.bnd fun y15 e16 =>
    Owp.some (triple_way (ray_line.cok k) hmix [.dec true, .dec true, .dec true, .dec true, .dec true, .res (.one (.dp T2)) y15, .dec true, .dec true] [] [(0, 0), (1, 1), (2, 2), (3, 3)] (via (finP (And.intro (And.intro (And.intro (And.intro (And.intro (And.intro (And.intro trivial e14) e14) e14) e14) (And.intro e14 e16)) e14) e14) .normal [(0, 0), (1, 1), (2, 2), (3, 3)] (ray_line.c3q a0 a1 a2 v1 v2 v3 v4 v5 (ilt y15 (0 : Int)))) (by kernel_rfl)))) (fun e14 =>
   Owp.some (triple_way (ray_line.cok k) hmix [.dec false, .dec false, .dec false, .dec false, .dec false, .dec true, .dec false, .dec false] [] [(0, 0), (1, 1), (2, 2), (3, 3)] (via (finP (And.intro (And.intro (And.intro (And.intro (And.intro (And.intro (And.intro trivial e14) e14) e14) e14) e14) e14) e14) .normal [(0, 0), (1, 1), (2, 2), (3, 3)] (ray_line.c3q a0 a1 a2 v1 v2 v3 v4 v5 false)) (by kernel_rfl))))
noncomputable def ray_line.c4p (a0 : (List V22)) (a1 : V22) (a2 : V22) (v1 : Int) (v2 : Int) (v3 : Int) (v4 : Int) (v5 : Int) : SL := ⟨[(0, (.val T24 a0)), (4, (.val .ptr ⟨0, 0, (0 : Int), 0, 0⟩)), (5, (.val .ptr ⟨1, 0, (0 : Int), 0, 0⟩)), (8, (.val .ptr ⟨2, 0, (0 : Int), 0, 0⟩)), (9, (.val .ptr ⟨3, 0, (0 : Int), 0, 0⟩)), (14, (.val T2 (iadd .i64 (imul .i64 (isub .i64 (el Z22 a0 (irem (iadd .i64 v1 (1 : Int)) (len a0))).2.1 (el Z22 a0 v1).2.1) (isub .i64 (el Z22 a0 v1).1 a1.1)) (imul .i64 (isub .i64 (el Z22 a0 v1).1 (el Z22 a0 (irem (iadd .i64 v1 (1 : Int)) (len a0))).1) (isub .i64 (el Z22 a0 v1).2.1 a1.2.1))))), (15, (.val T2 (iadd .i64 (imul .i64 (isub .i64 (el Z22 a0 (irem (iadd .i64 v1 (1 : Int)) (len a0))).2.1 (el Z22 a0 v1).2.1) a2.1) (imul .i64 (isub .i64 (el Z22 a0 v1).1 (el Z22 a0 (irem (iadd .i64 v1 (1 : Int)) (len a0))).1) a2.2.1)))), (18, (.val T24 a0)), (19, (.val T2 (len a0))), (20, (.val T2 v1))], [(0, .cells T22 a1), (1, .cells T22 a2), (2, .cells T22 (v2, v3, ())), (3, .cells T22 (v4, v5, ()))]⟩
noncomputable def ray_line.c4q (a0 : (List V22)) (a1 : V22) (a2 : V22) (v1 : Int) (v2 : Int) (v3 : Int) (v4 : Int) (v5 : Int) (o : Bool) : SL := (fun v => ⟨[(0, (.val T24 a0)), (4, (.val .ptr ⟨0, 0, (0 : Int), 0, 0⟩)), (5, (.val .ptr ⟨1, 0, (0 : Int), 0, 0⟩)), (8, (.val .ptr ⟨2, 0, (0 : Int), 0, 0⟩)), (9, (.val .ptr ⟨3, 0, (0 : Int), 0, 0⟩)), (14, (.val T2 (iadd .i64 (imul .i64 (isub .i64 (el Z22 a0 (irem (iadd .i64 v1 (1 : Int)) (len a0))).2.1 (el Z22 a0 v1).2.1) (isub .i64 (el Z22 a0 v1).1 a1.1)) (imul .i64 (isub .i64 (el Z22 a0 v1).1 (el Z22 a0 (irem (iadd .i64 v1 (1 : Int)) (len a0))).1) (isub .i64 (el Z22 a0 v1).2.1 a1.2.1))))), (15, (.val T2 (iadd .i64 (imul .i64 (isub .i64 (el Z22 a0 (irem (iadd .i64 v1 (1 : Int)) (len a0))).2.1 (el Z22 a0 v1).2.1) a2.1) (imul .i64 (isub .i64 (el Z22 a0 v1).1 (el Z22 a0 (irem (iadd .i64 v1 (1 : Int)) (len a0))).1) a2.2.1)))), (18, (.val T24 a0)), (19, (.val T2 (len a0))), (20, (.val T2 v1)), (93, (.val T4 v))], [(0, .cells T22 a1), (1, .cells T22 a2), (2, .cells T22 (v2, v3, ())), (3, .cells T22 (v4, v5, ()))]⟩) o
noncomputable def ray_line.c4x (o : Bool) : Ex := (fun _ => .normal) o
noncomputable def ray_line.c4n (o : Bool) : Nat := (fun _ => 4) o
theorem ray_line.c4_ok (k : Nat) (a0 : (List V22)) (a1 : V22) (a2 : V22) (v1 : Int) (v2 : Int) (v3 : Int) (v4 : Int) (v5 : Int) : Owp (ray_line.c4 k a0 a1 a2 v1 v2 v3) fun o => Triple PR (ray_line.cx k) (sub ray_line.code [1, 1, 0, 1, 0, 0, 1, 1, 0, 0, 1, 1, 1, 1, 0, 1, 1, 1, 1, 0]) 4 (ray_line.c4p a0 a1 a2 v1 v2 v3 v4 v5) (ray_line.c4x o) (ray_line.c4n o) (ray_line.c4q a0 a1 a2 v1 v2 v3 v4 v5 o) := by
  unfold ray_line.c4; exact
   Owp.bif (fun e20 =>
   Owp.bnd fun y21 e22 =>
    Owp.some (triple_way (ray_line.cok k) hmix [.dec true, .dec true, .dec true, .dec true, .dec true, .dec true, .dec true, .res (.one (.dp T2)) y21, .dec true, .dec true] [] [(0, 0), (1, 1), (2, 2), (3, 3)] (via (finP (And.intro (And.intro (And.intro (And.intro (And.intro (And.intro (And.intro (And.intro (And.intro trivial e20) e20) e20) e20) e20) e20) (And.intro e20 e22)) e20) e20) .normal [(0, 0), (1, 1), (2, 2), (3, 3)] (ray_line.c4q a0 a1 a2 v1 v2 v3 v4 v5 (igt y21 (0 : Int)))) (by kernel_rfl)))) (fun e20 =>
   Owp.some (triple_way (ray_line.cok k) hmix [.dec false, .dec false, .dec false, .dec false, .dec false, .dec false, .dec false, .dec true, .dec false, .dec false] [] [(0, 0), (1, 1), (2, 2), (3, 3)] (via (finP (And.intro (And.intro (And.intro (And.intro (And.intro (And.intro (And.intro (And.intro (And.intro trivial e20) e20) e20) e20) e20) e20) e20) e20) e20) .normal [(0, 0), (1, 1), (2, 2), (3, 3)] (ray_line.c4q a0 a1 a2 v1 v2 v3 v4 v5 false)) (by kernel_rfl))))
noncomputable def ray_line.c1p (a0 : (List V22)) (a1 : V22) (a2 : V22) (v1 : Int) (v2 : Int) (v3 : Int) (v4 : Int) (v5 : Int) : SL := ⟨[(0, (.val T24 a0)), (4, (.val .ptr ⟨0, 0, (0 : Int), 0, 0⟩)), (5, (.val .ptr ⟨1, 0, (0 : Int), 0, 0⟩)), (8, (.val .ptr ⟨2, 0, (0 : Int), 0, 0⟩)), (9, (.val .ptr ⟨3, 0, (0 : Int), 0, 0⟩)), (18, (.val T24 a0)), (19, (.val T2 (len a0))), (20, (.val T2 v1))], [(0, .cells T22 a1), (1, .cells T22 a2), (2, .cells T22 (v2, v3, ())), (3, .cells T22 (v4, v5, ()))]⟩
noncomputable def ray_line.c1q (o : Unit ⊕ (Int × (Int × (Int × Int)))) : SL := (fun o => two o (fun v => ⟨[(6, (.val T2 (0 : Int))), (7, (.val T4 false))], []⟩) (fun v => ⟨[(8, (.val .ptr ⟨0, 0, (0 : Int), 0, 0⟩)), (9, (.val .ptr ⟨1, 0, (0 : Int), 0, 0⟩))], [(0, .cells T22 (v.1, v.2.1, ())), (1, .cells T22 (v.2.2.1, v.2.2.2, ()))]⟩)) o
noncomputable def ray_line.c1x (o : Unit ⊕ (Int × (Int × (Int × Int)))) : Ex := (fun o => two o (fun _ => .ret) (fun _ => (.exit 0))) o
noncomputable def ray_line.c1n (o : Unit ⊕ (Int × (Int × (Int × Int)))) : Nat := (fun o => two o (fun _ => 0) (fun _ => 2)) o
theorem ray_line.c1_ok (k : Nat) (a0 : (List V22)) (a1 : V22) (a2 : V22) : ∀ (n : Nat) (v1 : Int) (v2 : Int) (v3 : Int) (v4 : Int) (v5 : Int), Owp (ray_line.c1 k a0 a1 a2 n v1 v2 v3 v4 v5) fun o => LTriple PR (ray_line.cx k) (sub ray_line.code [1, 1, 0, 1, 0, 0]) 4 (ray_line.c1p a0 a1 a2 v1 v2 v3 v4 v5) (ray_line.c1x o) (ray_line.c1n o) (ray_line.c1q o)
  | 0, _, _, _, _, _ => fun _ h => nomatch h
  | n + 1, v1, v2, v3, v4, v5 => Owp.of (ray_line.c1.eq_2 ..) (
   Owp.bif (fun e6 =>
   Owp.req fun h7 =>
    Owp.req fun h8 =>
    Owp.req fun h9 =>
    Owp.bnd fun o11 e12 =>
    Owp.bif (fun e13 =>
    Owp.some (loop_exit (ray_line.cok k) hmix [.dec true, .cutR 8 ⟨[], [(0, 0), (1, 1), (2, 2), (3, 3)], (ray_line.c2p a0 a1 a2 v1 v2 v3 v4 v5), 4, .normal, (ray_line.c2q a0 a1 a2 v1 v2 v3 v4 v5 o11), 4⟩, .dec true] [] [] exne_ret (via (cutP (And.intro (And.intro (And.intro (And.intro trivial e6) h7) h8) h9) [(0, 0), (1, 1), (2, 2), (3, 3)] (ray_line.c2p a0 a1 a2 v1 v2 v3 v4 v5) (((ray_line.c2_ok k a0 a1 a2 v1 v2 v3 v4 v5).ap e12)) (finP (And.intro trivial e13) .ret [] (ray_line.c1q (.inl ())))) (by kernel_rfl)))) (fun e13 =>
    Owp.bnd fun o17 e18 =>
     Owp.bif (fun e19 =>
     fun y hy => loop_back (ray_line.cok k) hmix 4 (ray_line.c1p a0 a1 a2 (iadd .i64 v1 (1 : Int)) v2 v3 (iadd .i64 (imul .i64 (isub .i64 (el Z22 a0 (irem (iadd .i64 v1 (1 : Int)) (len a0))).2.1 (el Z22 a0 v1).2.1) (isub .i64 (el Z22 a0 v1).1 a1.1)) (imul .i64 (isub .i64 (el Z22 a0 v1).1 (el Z22 a0 (irem (iadd .i64 v1 (1 : Int)) (len a0))).1) (isub .i64 (el Z22 a0 v1).2.1 a1.2.1))) (iadd .i64 (imul .i64 (isub .i64 (el Z22 a0 (irem (iadd .i64 v1 (1 : Int)) (len a0))).2.1 (el Z22 a0 v1).2.1) a2.1) (imul .i64 (isub .i64 (el Z22 a0 v1).1 (el Z22 a0 (irem (iadd .i64 v1 (1 : Int)) (len a0))).1) a2.2.1))) [.dec true, .cutR 8 ⟨[], [(0, 0), (1, 1), (2, 2), (3, 3)], (ray_line.c2p a0 a1 a2 v1 v2 v3 v4 v5), 4, .normal, (ray_line.c2q a0 a1 a2 v1 v2 v3 v4 v5 o11), 4⟩, .dec false, .cutR 10 ⟨[], [(0, 0), (1, 1), (2, 2), (3, 3)], (ray_line.c3p a0 a1 a2 v1 v2 v3 v4 v5), 4, .normal, (ray_line.c3q a0 a1 a2 v1 v2 v3 v4 v5 o17), 4⟩, .dec true] [] [(0, 0), (1, 1), (2, 2), (3, 3)] (via (cutP (And.intro (And.intro (And.intro (And.intro trivial e6) h7) h8) h9) [(0, 0), (1, 1), (2, 2), (3, 3)] (ray_line.c2p a0 a1 a2 v1 v2 v3 v4 v5) (((ray_line.c2_ok k a0 a1 a2 v1 v2 v3 v4 v5).ap e12)) (cutP (And.intro trivial e13) [(0, 0), (1, 1), (2, 2), (3, 3)] (ray_line.c3p a0 a1 a2 v1 v2 v3 v4 v5) (((ray_line.c3_ok k a0 a1 a2 v1 v2 v3 v4 v5).ap e18)) (finP (And.intro trivial e19) .normal [(0, 0), (1, 1), (2, 2), (3, 3)] (ray_line.c1p a0 a1 a2 (iadd .i64 v1 (1 : Int)) v2 v3 (iadd .i64 (imul .i64 (isub .i64 (el Z22 a0 (irem (iadd .i64 v1 (1 : Int)) (len a0))).2.1 (el Z22 a0 v1).2.1) (isub .i64 (el Z22 a0 v1).1 a1.1)) (imul .i64 (isub .i64 (el Z22 a0 v1).1 (el Z22 a0 (irem (iadd .i64 v1 (1 : Int)) (len a0))).1) (isub .i64 (el Z22 a0 v1).2.1 a1.2.1))) (iadd .i64 (imul .i64 (isub .i64 (el Z22 a0 (irem (iadd .i64 v1 (1 : Int)) (len a0))).2.1 (el Z22 a0 v1).2.1) a2.1) (imul .i64 (isub .i64 (el Z22 a0 v1).1 (el Z22 a0 (irem (iadd .i64 v1 (1 : Int)) (len a0))).1) a2.2.1)))))) (by kernel_rfl)) ((ray_line.c1_ok k a0 a1 a2 n (iadd .i64 v1 (1 : Int)) v2 v3 (iadd .i64 (imul .i64 (isub .i64 (el Z22 a0 (irem (iadd .i64 v1 (1 : Int)) (len a0))).2.1 (el Z22 a0 v1).2.1) (isub .i64 (el Z22 a0 v1).1 a1.1)) (imul .i64 (isub .i64 (el Z22 a0 v1).1 (el Z22 a0 (irem (iadd .i64 v1 (1 : Int)) (len a0))).1) (isub .i64 (el Z22 a0 v1).2.1 a1.2.1))) (iadd .i64 (imul .i64 (isub .i64 (el Z22 a0 (irem (iadd .i64 v1 (1 : Int)) (len a0))).2.1 (el Z22 a0 v1).2.1) a2.1) (imul .i64 (isub .i64 (el Z22 a0 v1).1 (el Z22 a0 (irem (iadd .i64 v1 (1 : Int)) (len a0))).1) a2.2.1))).ap hy)) (fun e19 =>
     Owp.bnd fun o23 e24 =>
      Owp.bif (fun e25 =>
      fun y hy => loop_back (ray_line.cok k) hmix 4 (ray_line.c1p a0 a1 a2 (iadd .i64 v1 (1 : Int)) (ineg .i64 (iadd .i64 (imul .i64 (isub .i64 (el Z22 a0 (irem (iadd .i64 v1 (1 : Int)) (len a0))).2.1 (el Z22 a0 v1).2.1) (isub .i64 (el Z22 a0 v1).1 a1.1)) (imul .i64 (isub .i64 (el Z22 a0 v1).1 (el Z22 a0 (irem (iadd .i64 v1 (1 : Int)) (len a0))).1) (isub .i64 (el Z22 a0 v1).2.1 a1.2.1)))) (ineg .i64 (iadd .i64 (imul .i64 (isub .i64 (el Z22 a0 (irem (iadd .i64 v1 (1 : Int)) (len a0))).2.1 (el Z22 a0 v1).2.1) a2.1) (imul .i64 (isub .i64 (el Z22 a0 v1).1 (el Z22 a0 (irem (iadd .i64 v1 (1 : Int)) (len a0))).1) a2.2.1))) v4 v5) [.dec true, .cutR 8 ⟨[], [(0, 0), (1, 1), (2, 2), (3, 3)], (ray_line.c2p a0 a1 a2 v1 v2 v3 v4 v5), 4, .normal, (ray_line.c2q a0 a1 a2 v1 v2 v3 v4 v5 o11), 4⟩, .dec false, .cutR 10 ⟨[], [(0, 0), (1, 1), (2, 2), (3, 3)], (ray_line.c3p a0 a1 a2 v1 v2 v3 v4 v5), 4, .normal, (ray_line.c3q a0 a1 a2 v1 v2 v3 v4 v5 o17), 4⟩, .dec false, .cutR 12 ⟨[], [(0, 0), (1, 1), (2, 2), (3, 3)], (ray_line.c4p a0 a1 a2 v1 v2 v3 v4 v5), 4, .normal, (ray_line.c4q a0 a1 a2 v1 v2 v3 v4 v5 o23), 4⟩, .dec true] [] [(0, 0), (1, 1), (2, 2), (3, 3)] (via (cutP (And.intro (And.intro (And.intro (And.intro trivial e6) h7) h8) h9) [(0, 0), (1, 1), (2, 2), (3, 3)] (ray_line.c2p a0 a1 a2 v1 v2 v3 v4 v5) (((ray_line.c2_ok k a0 a1 a2 v1 v2 v3 v4 v5).ap e12)) (cutP (And.intro trivial e13) [(0, 0), (1, 1), (2, 2), (3, 3)] (ray_line.c3p a0 a1 a2 v1 v2 v3 v4 v5) (((ray_line.c3_ok k a0 a1 a2 v1 v2 v3 v4 v5).ap e18)) (cutP (And.intro trivial e19) [(0, 0), (1, 1), (2, 2), (3, 3)] (ray_line.c4p a0 a1 a2 v1 v2 v3 v4 v5) (((ray_line.c4_ok k a0 a1 a2 v1 v2 v3 v4 v5).ap e24)) (finP (And.intro trivial e25) .normal [(0, 0), (1, 1), (2, 2), (3, 3)] (ray_line.c1p a0 a1 a2 (iadd .i64 v1 (1 : Int)) (ineg .i64 (iadd .i64 (imul .i64 (isub .i64 (el Z22 a0 (irem (iadd .i64 v1 (1 : Int)) (len a0))).2.1 (el Z22 a0 v1).2.1) (isub .i64 (el Z22 a0 v1).1 a1.1)) (imul .i64 (isub .i64 (el Z22 a0 v1).1 (el Z22 a0 (irem (iadd .i64 v1 (1 : Int)) (len a0))).1) (isub .i64 (el Z22 a0 v1).2.1 a1.2.1)))) (ineg .i64 (iadd .i64 (imul .i64 (isub .i64 (el Z22 a0 (irem (iadd .i64 v1 (1 : Int)) (len a0))).2.1 (el Z22 a0 v1).2.1) a2.1) (imul .i64 (isub .i64 (el Z22 a0 v1).1 (el Z22 a0 (irem (iadd .i64 v1 (1 : Int)) (len a0))).1) a2.2.1))) v4 v5))))) (by kernel_rfl)) ((ray_line.c1_ok k a0 a1 a2 n (iadd .i64 v1 (1 : Int)) (ineg .i64 (iadd .i64 (imul .i64 (isub .i64 (el Z22 a0 (irem (iadd .i64 v1 (1 : Int)) (len a0))).2.1 (el Z22 a0 v1).2.1) (isub .i64 (el Z22 a0 v1).1 a1.1)) (imul .i64 (isub .i64 (el Z22 a0 v1).1 (el Z22 a0 (irem (iadd .i64 v1 (1 : Int)) (len a0))).1) (isub .i64 (el Z22 a0 v1).2.1 a1.2.1)))) (ineg .i64 (iadd .i64 (imul .i64 (isub .i64 (el Z22 a0 (irem (iadd .i64 v1 (1 : Int)) (len a0))).2.1 (el Z22 a0 v1).2.1) a2.1) (imul .i64 (isub .i64 (el Z22 a0 v1).1 (el Z22 a0 (irem (iadd .i64 v1 (1 : Int)) (len a0))).1) a2.2.1))) v4 v5).ap hy)) (fun e25 =>
      fun y hy => loop_back (ray_line.cok k) hmix 4 (ray_line.c1p a0 a1 a2 (iadd .i64 v1 (1 : Int)) v2 v3 v4 v5) [.dec true, .cutR 8 ⟨[], [(0, 0), (1, 1), (2, 2), (3, 3)], (ray_line.c2p a0 a1 a2 v1 v2 v3 v4 v5), 4, .normal, (ray_line.c2q a0 a1 a2 v1 v2 v3 v4 v5 o11), 4⟩, .dec false, .cutR 10 ⟨[], [(0, 0), (1, 1), (2, 2), (3, 3)], (ray_line.c3p a0 a1 a2 v1 v2 v3 v4 v5), 4, .normal, (ray_line.c3q a0 a1 a2 v1 v2 v3 v4 v5 o17), 4⟩, .dec false, .cutR 12 ⟨[], [(0, 0), (1, 1), (2, 2), (3, 3)], (ray_line.c4p a0 a1 a2 v1 v2 v3 v4 v5), 4, .normal, (ray_line.c4q a0 a1 a2 v1 v2 v3 v4 v5 o23), 4⟩, .dec false] [] [(0, 0), (1, 1), (2, 2), (3, 3)] (via (cutP (And.intro (And.intro (And.intro (And.intro trivial e6) h7) h8) h9) [(0, 0), (1, 1), (2, 2), (3, 3)] (ray_line.c2p a0 a1 a2 v1 v2 v3 v4 v5) (((ray_line.c2_ok k a0 a1 a2 v1 v2 v3 v4 v5).ap e12)) (cutP (And.intro trivial e13) [(0, 0), (1, 1), (2, 2), (3, 3)] (ray_line.c3p a0 a1 a2 v1 v2 v3 v4 v5) (((ray_line.c3_ok k a0 a1 a2 v1 v2 v3 v4 v5).ap e18)) (cutP (And.intro trivial e19) [(0, 0), (1, 1), (2, 2), (3, 3)] (ray_line.c4p a0 a1 a2 v1 v2 v3 v4 v5) (((ray_line.c4_ok k a0 a1 a2 v1 v2 v3 v4 v5).ap e24)) (finP (And.intro trivial e25) .normal [(0, 0), (1, 1), (2, 2), (3, 3)] (ray_line.c1p a0 a1 a2 (iadd .i64 v1 (1 : Int)) v2 v3 v4 v5))))) (by kernel_rfl)) ((ray_line.c1_ok k a0 a1 a2 n (iadd .i64 v1 (1 : Int)) v2 v3 v4 v5).ap hy))))) (fun e6 =>
   Owp.some (loop_exit (ray_line.cok k) hmix [.dec false] [] [(0, 2), (1, 3)] (exne 0) (via (finP (And.intro trivial e6) (.exit 0) [(0, 2), (1, 3)] (ray_line.c1q (.inr (v2, v3, v4, v5)))) (by kernel_rfl)))))
theorem ray_line.way (k : Nat) (a0 : (List V22)) (a1 : V22) (a2 : V22) : Owp (ray_line k a0 a1 a2) fun y => ∃ answers cmds, exec PR (ray_line.cx k) ray_line.code 0 (entry (.pair T24 T52) (a0, a1, a2, ())).st answers (Ret (ray_line.cx k) Try.f120 cmds (.more (.dp T2) (.one (.dp T4))) y) := by
  unfold ray_line; exact
   Owp.bnd fun o26 e27 =>
   Owp.two (fun y28 e29 =>
   Owp.some (⟨[.cut ⟨[], [(0, 0), (1, 1), (2, 6), (3, 7)], (ray_line.c1p a0 a1 a2 (0 : Int) (0 : Int) (1 : Int) (1 : Int) (1 : Int)), 4, .ret, (ray_line.c1q (.inl ())), 0⟩], [], via (cutP trivial [(0, 0), (1, 1), (2, 6), (3, 7)] (ray_line.c1p a0 a1 a2 (0 : Int) (0 : Int) (1 : Int) (1 : Int) (1 : Int)) (((ray_line.c1_ok k a0 a1 a2 k (0 : Int) (0 : Int) (1 : Int) (1 : Int) (1 : Int)).ap (e27.trans (congrArg some e29))).triple) (retP trivial (.more (.dp T2) (.one (.dp T4))) (((0 : Int), false) : (Int × Bool)))) (by kernel_rfl)⟩)) (fun y30 e31 =>
   Owp.bnd fun y32 e33 =>
    Owp.bif (fun e34 =>
    Owp.some (⟨[.cut ⟨[], [(0, 0), (1, 1), (2, 6), (3, 7)], (ray_line.c1p a0 a1 a2 (0 : Int) (0 : Int) (1 : Int) (1 : Int) (1 : Int)), 4, (.exit 0), (ray_line.c1q (.inr y30)), 2⟩, .res (.one (.dp T2)) y32, .dec true], [], via (cutP trivial [(0, 0), (1, 1), (2, 6), (3, 7)] (ray_line.c1p a0 a1 a2 (0 : Int) (0 : Int) (1 : Int) (1 : Int) (1 : Int)) (((ray_line.c1_ok k a0 a1 a2 k (0 : Int) (0 : Int) (1 : Int) (1 : Int) (1 : Int)).ap (e27.trans (congrArg some e31))).triple) (retP (And.intro (And.intro trivial e33) e34) (.more (.dp T2) (.one (.dp T4))) (((0 : Int), false) : (Int × Bool)))) (by kernel_rfl)⟩)) (fun e34 =>
    Owp.bnd fun y35 e36 =>
     Owp.some (⟨[.cut ⟨[], [(0, 0), (1, 1), (2, 6), (3, 7)], (ray_line.c1p a0 a1 a2 (0 : Int) (0 : Int) (1 : Int) (1 : Int) (1 : Int)), 4, (.exit 0), (ray_line.c1q (.inr y30)), 2⟩, .res (.one (.dp T2)) y32, .dec false, .res (.one (.dp T2)) y35], [], via (cutP trivial [(0, 0), (1, 1), (2, 6), (3, 7)] (ray_line.c1p a0 a1 a2 (0 : Int) (0 : Int) (1 : Int) (1 : Int) (1 : Int)) (((ray_line.c1_ok k a0 a1 a2 k (0 : Int) (0 : Int) (1 : Int) (1 : Int) (1 : Int)).ap (e27.trans (congrArg some e31))).triple) (retP (And.intro (And.intro (And.intro trivial e33) e34) e36) (.more (.dp T2) (.one (.dp T4))) ((y35, true) : (Int × Bool)))) (by kernel_rfl)⟩)))
theorem ray_line.ok (k : Nat) : FnOk PR 120 (ray_line.sp k) :=
  fn_ok (ray_line.cok k) hmix Try.func120 (code := ray_line.code) (by kernel_rfl) (by kernel_rfl) (by kernel_rfl) rfl rfl (by kernel_rfl) (by kernel_rfl) (by kernel_rfl) (fun x => Nat.le_of_ble_eq_true (by kernel_rfl)) fun x y hy => (ray_line.way k x.1 x.2.1 x.2.2.1).ap hy

/-! tourney/ray.Cast$1 -/
noncomputable def ray_Cast_1.code : Code := Func.cd Try.f123
def ray_Cast_1 (k : Nat) (a0 : (List V22)) (a1 : V22) (a2 : V22) : Option (Int × Bool) :=
  bnd (ray_line k a0 a1 a2) fun y1 =>
  some (y1.1, y1.2)
noncomputable def ray_Cast_1.sp (k : Nat) : Go.Sx.Spec := ⟨(.pair T24 (.pair (.ref T22) (.pair (.ref T22) .unit))), (.more (.dp T2) (.one (.dp T4))), fun x => ray_Cast_1 k x.1 x.2.1 x.2.2.1, false⟩
noncomputable def ray_Cast_1.cx (k : Nat) : Go.Sx.Ctx := ⟨tys, [(120, ray_line.sp k)], eqs, 12, 0, [], false⟩
theorem ray_Cast_1.cok (k : Nat) : CtxOk PR (ray_Cast_1.cx k) := ctx_ok tysOk eqsOk (FnsOk.cons (ray_line.ok k) FnsOk.nil) HsOk.nil
theorem ray_Cast_1.way (k : Nat) (a0 : (List V22)) (a1 : V22) (a2 : V22) : Owp (ray_Cast_1 k a0 a1 a2) fun y => ∃ answers cmds, exec PR (ray_Cast_1.cx k) ray_Cast_1.code 0 (entry (.pair T24 (.pair (.ref T22) (.pair (.ref T22) .unit))) (a0, a1, a2, ())).st answers (Ret (ray_Cast_1.cx k) Try.f123 cmds (.more (.dp T2) (.one (.dp T4))) y) := by
  unfold ray_Cast_1; exact
   Owp.bnd fun y1 e2 =>
   Owp.some (⟨[.res (.more (.dp T2) (.one (.dp T4))) y1], [], via (retP (And.intro trivial e2) (.more (.dp T2) (.one (.dp T4))) ((y1.1, y1.2) : (Int × Bool))) (by kernel_rfl)⟩)
theorem ray_Cast_1.ok (k : Nat) : FnOk PR 123 (ray_Cast_1.sp k) :=
  fn_ok (ray_Cast_1.cok k) hmix Try.func123 (code := ray_Cast_1.code) (by kernel_rfl) (by kernel_rfl) (by kernel_rfl) rfl rfl (by kernel_rfl) (by kernel_rfl) (by kernel_rfl) (fun x => Nat.le_of_ble_eq_true (by kernel_rfl)) fun x y hy => (ray_Cast_1.way k x.1 x.2.1 x.2.2.1).ap hy

/-! tourney/ray.Cast -/
noncomputable def ray_Cast.code : Code := Func.cd Try.f49
def ray_Cast.c1 (k : Nat) (a1 : V22) (a2 : V22) : Option (Bool) :=
  bnd (ray_within k a1) fun y4 =>
  bif' y4
  (bnd (ray_within k a2) fun y7 =>
   some (!y7))
  (some true)
def ray_Cast (k : Nat) (a0 : (List V25)) (a1 : V22) (a2 : V22) : Option (Int × (Int × Int)) :=
  bnd (keep_Check k a0) fun y1 =>
  bif' (ine y1 0)
  (some (0, 0, y1))
  (bnd (ray_Cast.c1 k a1 a2) fun o9 =>
   bif' o9
   (some (0, 0, 1))
   (bnd (ray_first k a0 (fun x : ((List V22) × Unit) => ray_Cast_1 k (x.1) a1 a2)) fun y12 =>
    some (y12.1, y12.2.1, y12.2.2)))
noncomputable def ray_Cast.sp (k : Nat) : Go.Sx.Spec := ⟨(.pair (.slice T25) T52), (.more (.dp T2) (.more (.dp T2) (.one (.dp T2)))), fun x => ray_Cast k x.1 x.2.1 x.2.2.1, false⟩
noncomputable def ray_Cast.cx (k : Nat) : Go.Sx.Ctx := ⟨tys, [(121, keep_Check.sp k), (119, ray_within.sp k), (122, ray_first.sp k), (123, ray_Cast_1.sp k)], eqs, 29, 0, [], false⟩
theorem ray_Cast.cok (k : Nat) : CtxOk PR (ray_Cast.cx k) := ctx_ok tysOk eqsOk (FnsOk.cons (keep_Check.ok k) (FnsOk.cons (ray_within.ok k) (FnsOk.cons (ray_first.ok k) (FnsOk.cons (ray_Cast_1.ok k) FnsOk.nil)))) HsOk.nil
noncomputable def ray_Cast.c1p (a0 : (List V25)) (a1 : V22) (a2 : V22) : SL := ⟨[(0, (.val (.slice T25) a0)), (4, (.val .ptr ⟨0, 0, (0 : Int), 0, 0⟩)), (5, (.val .ptr ⟨1, 0, (0 : Int), 0, 0⟩))], [(0, .cells T22 a1), (1, .cells T22 a2)]⟩
noncomputable def ray_Cast.c1q (a0 : (List V25)) (a1 : V22) (a2 : V22) (o : Bool) : SL := (fun v => ⟨[(0, (.val (.slice T25) a0)), (4, (.val .ptr ⟨0, 0, (0 : Int), 0, 0⟩)), (5, (.val .ptr ⟨1, 0, (0 : Int), 0, 0⟩)), (22, (.val T4 v))], [(0, .cells T22 a1), (1, .cells T22 a2)]⟩) o
noncomputable def ray_Cast.c1x (o : Bool) : Ex := (fun _ => .normal) o
noncomputable def ray_Cast.c1n (o : Bool) : Nat := (fun _ => 2) o
theorem ray_Cast.c1_ok (k : Nat) (a0 : (List V25)) (a1 : V22) (a2 : V22) : Owp (ray_Cast.c1 k a1 a2) fun o => Triple PR (ray_Cast.cx k) (sub ray_Cast.code [1, 1, 0, 0]) 2 (ray_Cast.c1p a0 a1 a2) (ray_Cast.c1x o) (ray_Cast.c1n o) (ray_Cast.c1q a0 a1 a2 o) := by
  unfold ray_Cast.c1; exact
   Owp.bnd fun y4 e5 =>
   Owp.bif (fun e6 =>
   Owp.bnd fun y7 e8 =>
    Owp.some (triple_way (ray_Cast.cok k) hmix [.res (.one (.dp T4)) y4, .dec false, .dec false, .res (.one (.dp T4)) y7, .dec false, .dec false] [] [(0, 0), (1, 1)] (via (finP (And.intro (And.intro (And.intro (And.intro (And.intro trivial e5) (congrArg not e6)) (And.intro (congrArg not e6) e8)) (congrArg not e6)) (congrArg not e6)) .normal [(0, 0), (1, 1)] (ray_Cast.c1q a0 a1 a2 (!y7))) (by kernel_rfl)))) (fun e6 =>
   Owp.some (triple_way (ray_Cast.cok k) hmix [.res (.one (.dp T4)) y4, .dec true, .dec true, .dec true, .dec true, .dec true] [] [(0, 0), (1, 1)] (via (finP (And.intro (And.intro (And.intro (And.intro (And.intro trivial e5) (congrArg not e6)) (congrArg not e6)) (congrArg not e6)) (congrArg not e6)) .normal [(0, 0), (1, 1)] (ray_Cast.c1q a0 a1 a2 true)) (by kernel_rfl))))
theorem ray_Cast.way (k : Nat) (a0 : (List V25)) (a1 : V22) (a2 : V22) : Owp (ray_Cast k a0 a1 a2) fun y => ∃ answers cmds, exec PR (ray_Cast.cx k) ray_Cast.code 0 (entry (.pair (.slice T25) T52) (a0, a1, a2, ())).st answers (Ret (ray_Cast.cx k) Try.f49 cmds (.more (.dp T2) (.more (.dp T2) (.one (.dp T2)))) y) := by
  unfold ray_Cast; exact
   Owp.bnd fun y1 e2 =>
   Owp.bif (fun e3 =>
   Owp.some (⟨[.res (.one (.dp T2)) y1, .dec true], [], via (retP (And.intro (And.intro trivial e2) e3) (.more (.dp T2) (.more (.dp T2) (.one (.dp T2)))) (((0 : Int), (0 : Int), y1) : (Int × (Int × Int)))) (by kernel_rfl)⟩)) (fun e3 =>
   Owp.bnd fun o9 e10 =>
    Owp.bif (fun e11 =>
    Owp.some (⟨[.res (.one (.dp T2)) y1, .dec false, .cutR 4 ⟨[], [(0, 0), (1, 1)], (ray_Cast.c1p a0 a1 a2), 2, .normal, (ray_Cast.c1q a0 a1 a2 o9), 2⟩, .dec true], [], via (cutP (And.intro (And.intro trivial e2) e3) [(0, 0), (1, 1)] (ray_Cast.c1p a0 a1 a2) (((ray_Cast.c1_ok k a0 a1 a2).ap e10)) (retP (And.intro trivial e11) (.more (.dp T2) (.more (.dp T2) (.one (.dp T2)))) (((0 : Int), (0 : Int), (1 : Int)) : (Int × (Int × Int))))) (by kernel_rfl)⟩)) (fun e11 =>
    Owp.bnd fun y12 e13 =>
     Owp.some (⟨[.res (.one (.dp T2)) y1, .dec false, .cutR 4 ⟨[], [(0, 0), (1, 1)], (ray_Cast.c1p a0 a1 a2), 2, .normal, (ray_Cast.c1q a0 a1 a2 o9), 2⟩, .dec false, .res (.more (.dp T2) (.more (.dp T2) (.one (.dp T2)))) y12], [], via (cutP (And.intro (And.intro trivial e2) e3) [(0, 0), (1, 1)] (ray_Cast.c1p a0 a1 a2) (((ray_Cast.c1_ok k a0 a1 a2).ap e10)) (retP (And.intro (And.intro trivial e11) e13) (.more (.dp T2) (.more (.dp T2) (.one (.dp T2)))) ((y12.1, y12.2.1, y12.2.2) : (Int × (Int × Int))))) (by kernel_rfl)⟩)))
theorem ray_Cast.ok (k : Nat) : FnOk PR 49 (ray_Cast.sp k) :=
  fn_ok (ray_Cast.cok k) hmix Try.func49 (code := ray_Cast.code) (by kernel_rfl) (by kernel_rfl) (by kernel_rfl) rfl rfl (by kernel_rfl) (by kernel_rfl) (by kernel_rfl) (fun x => Nat.le_of_ble_eq_true (by kernel_rfl)) fun x y hy => (ray_Cast.way k x.1 x.2.1 x.2.2.1).ap hy

/-! tourney/tourlaw2.rayBegun -/
noncomputable def tourlaw2_rayBegun.code : Code := Func.cd Try.f47
def tourlaw2_rayBegun (k : Nat) : Option Bool :=
  bnd (tourlaw2_block k 0 0 false) fun y1 =>
  bnd (ray_Cast k [y1] ((-262144), 0, ()) (524288, 0, ())) fun y3 =>
  bif' (ieq y3.2.2 0)
  (bif' (ieq y3.1 0)
   (some (ieq y3.2.1 24576))
   (some false))
  (some false)
noncomputable def tourlaw2_rayBegun.sp (k : Nat) : Go.Sx.Spec := ⟨.unit, (.one (.dp T4)), fun x => tourlaw2_rayBegun k, false⟩
noncomputable def tourlaw2_rayBegun.cx (k : Nat) : Go.Sx.Ctx := ⟨tys, [(118, tourlaw2_block.sp k), (49, ray_Cast.sp k)], eqs, 23, 0, [], false⟩
theorem tourlaw2_rayBegun.cok (k : Nat) : CtxOk PR (tourlaw2_rayBegun.cx k) := ctx_ok tysOk eqsOk (FnsOk.cons (tourlaw2_block.ok k) (FnsOk.cons (ray_Cast.ok k) FnsOk.nil)) HsOk.nil
theorem tourlaw2_rayBegun.way (k : Nat) : Owp (tourlaw2_rayBegun k) fun y => ∃ answers cmds, exec PR (tourlaw2_rayBegun.cx k) tourlaw2_rayBegun.code 0 (entry .unit ()).st answers (Ret (tourlaw2_rayBegun.cx k) Try.f47 cmds (.one (.dp T4)) y) := by
  unfold tourlaw2_rayBegun; exact
   Owp.bnd fun y1 e2 =>
   Owp.bnd fun y3 e4 =>
   Owp.bif (fun e5 =>
   Owp.bif (fun e6 =>
    Owp.some (⟨[.res (.one (.dp T25)) y1, .dec true, .res (.more (.dp T2) (.more (.dp T2) (.one (.dp T2)))) y3, .dec true, .dec true, .dec true, .dec true, .dec true, .dec true], [], via (retP (And.intro (And.intro (And.intro (And.intro (And.intro (And.intro (And.intro (And.intro trivial e2) e4) e5) e5) e5) e6) e6) e6) (.one (.dp T4)) ((ieq y3.2.1 (24576 : Int)) : Bool)) (by kernel_rfl)⟩)) (fun e6 =>
    Owp.some (⟨[.res (.one (.dp T25)) y1, .dec true, .res (.more (.dp T2) (.more (.dp T2) (.one (.dp T2)))) y3, .dec true, .dec true, .dec true, .dec false, .dec false, .dec false], [], via (retP (And.intro (And.intro (And.intro (And.intro (And.intro (And.intro (And.intro (And.intro trivial e2) e4) e5) e5) e5) e6) e6) e6) (.one (.dp T4)) (false : Bool)) (by kernel_rfl)⟩))) (fun e5 =>
   Owp.some (⟨[.res (.one (.dp T25)) y1, .dec true, .res (.more (.dp T2) (.more (.dp T2) (.one (.dp T2)))) y3, .dec false, .dec false, .dec false, .dec false, .dec false, .dec false], [], via (retP (And.intro (And.intro (And.intro (And.intro (And.intro (And.intro (And.intro (And.intro trivial e2) e4) e5) e5) e5) ff) ff) ff) (.one (.dp T4)) (false : Bool)) (by kernel_rfl)⟩))
theorem tourlaw2_rayBegun.ok (k : Nat) : FnOk PR 47 (tourlaw2_rayBegun.sp k) :=
  fn_ok (tourlaw2_rayBegun.cok k) hmix Try.func47 (code := tourlaw2_rayBegun.code) (by kernel_rfl) (by kernel_rfl) (by kernel_rfl) rfl rfl (by kernel_rfl) (by kernel_rfl) (by kernel_rfl) (fun x => Nat.le_of_ble_eq_true (by kernel_rfl)) fun x y hy => (tourlaw2_rayBegun.way k).ap hy

/-! tourney/ray.Line -/
noncomputable def ray_Line.code : Code := Func.cd Try.f48
def ray_Line.c1 (k : Nat) (a1 : V22) (a2 : V22) : Option (Bool) :=
  bnd (ray_within k a1) fun y4 =>
  bif' y4
  (bnd (ray_within k a2) fun y7 =>
   some (!y7))
  (some true)
def ray_Line (k : Nat) (a0 : (List V22)) (a1 : V22) (a2 : V22) : Option (Int × Int) :=
  bnd (poly_Check k a0) fun y1 =>
  bif' (ine y1 0)
  (some (0, y1))
  (bnd (ray_Line.c1 k a1 a2) fun o9 =>
   bif' o9
   (some (0, 1))
   (bnd (ray_line k a0 a1 a2) fun y12 =>
    bif' y12.2
    (some (y12.1, 0))
    (some (0, 4))))
noncomputable def ray_Line.sp (k : Nat) : Go.Sx.Spec := ⟨(.pair T24 T52), (.more (.dp T2) (.one (.dp T2))), fun x => ray_Line k x.1 x.2.1 x.2.2.1, false⟩
noncomputable def ray_Line.cx (k : Nat) : Go.Sx.Ctx := ⟨tys, [(39, poly_Check.sp k), (119, ray_within.sp k), (120, ray_line.sp k)], eqs, 34, 0, [], false⟩
theorem ray_Line.cok (k : Nat) : CtxOk PR (ray_Line.cx k) := ctx_ok tysOk eqsOk (FnsOk.cons (poly_Check.ok k) (FnsOk.cons (ray_within.ok k) (FnsOk.cons (ray_line.ok k) FnsOk.nil))) HsOk.nil
noncomputable def ray_Line.c1p (a0 : (List V22)) (a1 : V22) (a2 : V22) : SL := ⟨[(0, (.val T24 a0)), (4, (.val .ptr ⟨0, 0, (0 : Int), 0, 0⟩)), (5, (.val .ptr ⟨1, 0, (0 : Int), 0, 0⟩))], [(0, .cells T22 a1), (1, .cells T22 a2)]⟩
noncomputable def ray_Line.c1q (a0 : (List V22)) (a1 : V22) (a2 : V22) (o : Bool) : SL := (fun v => ⟨[(0, (.val T24 a0)), (4, (.val .ptr ⟨0, 0, (0 : Int), 0, 0⟩)), (5, (.val .ptr ⟨1, 0, (0 : Int), 0, 0⟩)), (23, (.val T4 v))], [(0, .cells T22 a1), (1, .cells T22 a2)]⟩) o
noncomputable def ray_Line.c1x (o : Bool) : Ex := (fun _ => .normal) o
noncomputable def ray_Line.c1n (o : Bool) : Nat := (fun _ => 2) o
theorem ray_Line.c1_ok (k : Nat) (a0 : (List V22)) (a1 : V22) (a2 : V22) : Owp (ray_Line.c1 k a1 a2) fun o => Triple PR (ray_Line.cx k) (sub ray_Line.code [1, 1, 0, 0]) 2 (ray_Line.c1p a0 a1 a2) (ray_Line.c1x o) (ray_Line.c1n o) (ray_Line.c1q a0 a1 a2 o) := by
  unfold ray_Line.c1; exact
   Owp.bnd fun y4 e5 =>
   Owp.bif (fun e6 =>
   Owp.bnd fun y7 e8 =>
    Owp.some (triple_way (ray_Line.cok k) hmix [.res (.one (.dp T4)) y4, .dec false, .dec false, .res (.one (.dp T4)) y7, .dec false, .dec false] [] [(0, 0), (1, 1)] (via (finP (And.intro (And.intro (And.intro (And.intro (And.intro trivial e5) (congrArg not e6)) (And.intro (congrArg not e6) e8)) (congrArg not e6)) (congrArg not e6)) .normal [(0, 0), (1, 1)] (ray_Line.c1q a0 a1 a2 (!y7))) (by kernel_rfl)))) (fun e6 =>
   Owp.some (triple_way (ray_Line.cok k) hmix [.res (.one (.dp T4)) y4, .dec true, .dec true, .dec true, .dec true, .dec true] [] [(0, 0), (1, 1)] (via (finP (And.intro (And.intro (And.intro (And.intro (And.intro trivial e5) (congrArg not e6)) (congrArg not e6)) (congrArg not e6)) (congrArg not e6)) .normal [(0, 0), (1, 1)] (ray_Line.c1q a0 a1 a2 true)) (by kernel_rfl))))
theorem ray_Line.way (k : Nat) (a0 : (List V22)) (a1 : V22) (a2 : V22) : Owp (ray_Line k a0 a1 a2) fun y => ∃ answers cmds, exec PR (ray_Line.cx k) ray_Line.code 0 (entry (.pair T24 T52) (a0, a1, a2, ())).st answers (Ret (ray_Line.cx k) Try.f48 cmds (.more (.dp T2) (.one (.dp T2))) y) := by
  unfold ray_Line; exact
   Owp.bnd fun y1 e2 =>
   Owp.bif (fun e3 =>
   Owp.some (⟨[.res (.one (.dp T2)) y1, .dec true], [], via (retP (And.intro (And.intro trivial e2) e3) (.more (.dp T2) (.one (.dp T2))) (((0 : Int), y1) : (Int × Int))) (by kernel_rfl)⟩)) (fun e3 =>
   Owp.bnd fun o9 e10 =>
    Owp.bif (fun e11 =>
    Owp.some (⟨[.res (.one (.dp T2)) y1, .dec false, .cutR 4 ⟨[], [(0, 0), (1, 1)], (ray_Line.c1p a0 a1 a2), 2, .normal, (ray_Line.c1q a0 a1 a2 o9), 2⟩, .dec true], [], via (cutP (And.intro (And.intro trivial e2) e3) [(0, 0), (1, 1)] (ray_Line.c1p a0 a1 a2) (((ray_Line.c1_ok k a0 a1 a2).ap e10)) (retP (And.intro trivial e11) (.more (.dp T2) (.one (.dp T2))) (((0 : Int), (1 : Int)) : (Int × Int)))) (by kernel_rfl)⟩)) (fun e11 =>
    Owp.bnd fun y12 e13 =>
     Owp.bif (fun e14 =>
     Owp.some (⟨[.res (.one (.dp T2)) y1, .dec false, .cutR 4 ⟨[], [(0, 0), (1, 1)], (ray_Line.c1p a0 a1 a2), 2, .normal, (ray_Line.c1q a0 a1 a2 o9), 2⟩, .dec false, .res (.more (.dp T2) (.one (.dp T4))) y12, .dec false], [], via (cutP (And.intro (And.intro trivial e2) e3) [(0, 0), (1, 1)] (ray_Line.c1p a0 a1 a2) (((ray_Line.c1_ok k a0 a1 a2).ap e10)) (retP (And.intro (And.intro (And.intro trivial e11) e13) (congrArg not e14)) (.more (.dp T2) (.one (.dp T2))) ((y12.1, (0 : Int)) : (Int × Int)))) (by kernel_rfl)⟩)) (fun e14 =>
     Owp.some (⟨[.res (.one (.dp T2)) y1, .dec false, .cutR 4 ⟨[], [(0, 0), (1, 1)], (ray_Line.c1p a0 a1 a2), 2, .normal, (ray_Line.c1q a0 a1 a2 o9), 2⟩, .dec false, .res (.more (.dp T2) (.one (.dp T4))) y12, .dec true], [], via (cutP (And.intro (And.intro trivial e2) e3) [(0, 0), (1, 1)] (ray_Line.c1p a0 a1 a2) (((ray_Line.c1_ok k a0 a1 a2).ap e10)) (retP (And.intro (And.intro (And.intro trivial e11) e13) (congrArg not e14)) (.more (.dp T2) (.one (.dp T2))) (((0 : Int), (4 : Int)) : (Int × Int)))) (by kernel_rfl)⟩))))
theorem ray_Line.ok (k : Nat) : FnOk PR 48 (ray_Line.sp k) :=
  fn_ok (ray_Line.cok k) hmix Try.func48 (code := ray_Line.code) (by kernel_rfl) (by kernel_rfl) (by kernel_rfl) rfl rfl (by kernel_rfl) (by kernel_rfl) (by kernel_rfl) (fun x => Nat.le_of_ble_eq_true (by kernel_rfl)) fun x y hy => (ray_Line.way k x.1 x.2.1 x.2.2.1).ap hy

/-! tourney/tourlaw2.near1000 -/
noncomputable def tourlaw2_near1000.code : Code := Func.cd Try.f52
def tourlaw2_near1000 (k : Nat) (a0 : V22) : Option Bool :=
  bif' (ile (imax a0.1 a0.2.1) 65536000)
  (some (ige (imin a0.1 a0.2.1) (-65536000)))
  (some false)
noncomputable def tourlaw2_near1000.sp (k : Nat) : Go.Sx.Spec := ⟨(.pair T22 .unit), (.one (.dp T4)), fun x => tourlaw2_near1000 k x.1, false⟩
noncomputable def tourlaw2_near1000.cx (k : Nat) : Go.Sx.Ctx := ⟨tys, [], eqs, 17, 0, [], false⟩
theorem tourlaw2_near1000.cok (k : Nat) : CtxOk PR (tourlaw2_near1000.cx k) := ctx_ok tysOk eqsOk FnsOk.nil HsOk.nil
theorem tourlaw2_near1000.way (k : Nat) (a0 : V22) : Owp (tourlaw2_near1000 k a0) fun y => ∃ answers cmds, exec PR (tourlaw2_near1000.cx k) tourlaw2_near1000.code 0 (entry (.pair T22 .unit) (a0, ())).st answers (Ret (tourlaw2_near1000.cx k) Try.f52 cmds (.one (.dp T4)) y) := by
  unfold tourlaw2_near1000; exact
   Owp.bif (fun e1 =>
   Owp.some (⟨[.dec true, .dec true, .dec true, .dec true, .dec true, .dec true, .dec true], [], via (retP (And.intro (And.intro (And.intro (And.intro (And.intro (And.intro (And.intro trivial e1) e1) e1) e1) e1) e1) e1) (.one (.dp T4)) ((ige (imin a0.1 a0.2.1) (-65536000 : Int)) : Bool)) (by kernel_rfl)⟩)) (fun e1 =>
   Owp.some (⟨[.dec false, .dec false, .dec false, .dec false, .dec false, .dec false, .dec false], [], via (retP (And.intro (And.intro (And.intro (And.intro (And.intro (And.intro (And.intro trivial e1) e1) e1) e1) e1) e1) e1) (.one (.dp T4)) (false : Bool)) (by kernel_rfl)⟩))
theorem tourlaw2_near1000.ok (k : Nat) : FnOk PR 52 (tourlaw2_near1000.sp k) :=
  fn_ok (tourlaw2_near1000.cok k) hmix Try.func52 (code := tourlaw2_near1000.code) (by kernel_rfl) (by kernel_rfl) (by kernel_rfl) rfl rfl (by kernel_rfl) (by kernel_rfl) (by kernel_rfl) (fun x => Nat.le_of_ble_eq_true (by kernel_rfl)) fun x y hy => (tourlaw2_near1000.way k x.1).ap hy

/-! tourney/tourref2.part -/
noncomputable def tourref2_part.code : Code := Func.cd Try.f127
def tourref2_part.c1 (k : Nat) (a0 : (List Int)) (a1 : (List Int)) (y1 : Bool) : Option (((List Int) × (List Int))) :=
  bif' y1
  (bnd (tourref2_Big_Neg k a0) fun y4 =>
   bnd (tourref2_Big_Neg k a1) fun y6 =>
   some (y4, y6))
  (some (a0, a1))
def tourref2_part.c3 (k : Nat) (v10 : Int) (v11 : Int) (y21 : Int) : Option (Int) :=
  bif' (ile y21 0)
  (some (iadd .i64 v10 v11))
  (some v10)
def tourref2_part.c2 (k : Nat) (o8 : ((List Int) × (List Int))) : Nat → Int → Int → Option (Int)
  | 0, _, _ => none
  | n + 1, v10, v11 =>
   bif' (igt v11 0)
   (bnd (tourref2_Of k (iadd .i64 v10 v11)) fun y13 =>
    bnd (tourref2_Big_Mul k y13 o8.2) fun y15 =>
    bnd (tourref2_Of k 65536) fun y17 =>
    bnd (tourref2_Big_Mul k o8.1 y17) fun y19 =>
    bnd (tourref2_Big_Cmp k y15 y19) fun y21 =>
    bnd (tourref2_part.c3 k v10 v11 y21) fun o24 =>
    tourref2_part.c2 k o8 n o24 (iquo .i64 v11 2))
   (some v10)
def tourref2_part (k : Nat) (a0 : (List Int)) (a1 : (List Int)) : Option Int :=
  bnd (tourref2_Big_Below k a1) fun y1 =>
  bnd (tourref2_part.c1 k a0 a1 y1) fun o8 =>
  bnd (tourref2_part.c2 k o8 k 0 65536) fun o26 =>
  some (imin o26 65536)
noncomputable def tourref2_part.sp (k : Nat) : Go.Sx.Spec := ⟨(.pair T134 (.pair T134 .unit)), (.one (.dp T2)), fun x => tourref2_part k x.1 x.2.1, false⟩
noncomputable def tourref2_part.cx (k : Nat) : Go.Sx.Ctx := ⟨tys, [(179, tourref2_Big_Below.sp k), (180, tourref2_Big_Neg.sp k), (159, tourref2_Of.sp k), (177, tourref2_Big_Mul.sp k), (126, tourref2_Big_Cmp.sp k)], eqs, 33, 0, [], false⟩
theorem tourref2_part.cok (k : Nat) : CtxOk PR (tourref2_part.cx k) := ctx_ok tysOk eqsOk (FnsOk.cons (tourref2_Big_Below.ok k) (FnsOk.cons (tourref2_Big_Neg.ok k) (FnsOk.cons (tourref2_Of.ok k) (FnsOk.cons (tourref2_Big_Mul.ok k) (FnsOk.cons (tourref2_Big_Cmp.ok k) FnsOk.nil))))) HsOk.nil
noncomputable def tourref2_part.c1p (a0 : (List Int)) (a1 : (List Int)) (y1 : Bool) : SL := ⟨[(2, (.val .ptr ⟨0, 0, (0 : Int), 0, 0⟩)), (3, (.val .ptr ⟨1, 0, (0 : Int), 0, 0⟩)), (8, (.val T4 y1))], [(0, .cells T134 a0), (1, .cells T134 a1)]⟩
noncomputable def tourref2_part.c1q (o : ((List Int) × (List Int))) : SL := (fun v => ⟨[(2, (.val .ptr ⟨0, 0, (0 : Int), 0, 0⟩)), (3, (.val .ptr ⟨1, 0, (0 : Int), 0, 0⟩))], [(0, .cells T134 v.1), (1, .cells T134 v.2)]⟩) o
noncomputable def tourref2_part.c1x (o : ((List Int) × (List Int))) : Ex := (fun _ => .normal) o
noncomputable def tourref2_part.c1n (o : ((List Int) × (List Int))) : Nat := (fun _ => 2) o
theorem tourref2_part.c1_ok (k : Nat) (a0 : (List Int)) (a1 : (List Int)) (y1 : Bool) : Owp (tourref2_part.c1 k a0 a1 y1) fun o => Triple PR (tourref2_part.cx k) (sub tourref2_part.code [1, 0, 1]) 2 (tourref2_part.c1p a0 a1 y1) (tourref2_part.c1x o) (tourref2_part.c1n o) (tourref2_part.c1q o) := by
  unfold tourref2_part.c1; exact
   Owp.bif (fun e3 =>
   Owp.bnd fun y4 e5 =>
    Owp.bnd fun y6 e7 =>
    Owp.some (triple_way (tourref2_part.cok k) hmix [.dec true, .res (.one (.dp T134)) y4, .res (.one (.dp T134)) y6] [] [(0, 0), (1, 1)] (via (finP (And.intro (And.intro (And.intro trivial e3) e5) e7) .normal [(0, 0), (1, 1)] (tourref2_part.c1q (y4, y6))) (by kernel_rfl)))) (fun e3 =>
   Owp.some (triple_way (tourref2_part.cok k) hmix [.dec false] [] [(0, 0), (1, 1)] (via (finP (And.intro trivial e3) .normal [(0, 0), (1, 1)] (tourref2_part.c1q (a0, a1))) (by kernel_rfl))))
noncomputable def tourref2_part.c3p (o8 : ((List Int) × (List Int))) (v10 : Int) (v11 : Int) (y21 : Int) : SL := ⟨[(2, (.val .ptr ⟨0, 0, (0 : Int), 0, 0⟩)), (3, (.val .ptr ⟨1, 0, (0 : Int), 0, 0⟩)), (5, (.val T2 v10)), (6, (.val T2 v11)), (27, (.val T4 (ile y21 (0 : Int))))], [(0, .cells T134 o8.1), (1, .cells T134 o8.2)]⟩
noncomputable def tourref2_part.c3q (o8 : ((List Int) × (List Int))) (v11 : Int) (o : Int) : SL := (fun v => ⟨[(2, (.val .ptr ⟨0, 0, (0 : Int), 0, 0⟩)), (3, (.val .ptr ⟨1, 0, (0 : Int), 0, 0⟩)), (5, (.val T2 v)), (6, (.val T2 v11))], [(0, .cells T134 o8.1), (1, .cells T134 o8.2)]⟩) o
noncomputable def tourref2_part.c3x (o : Int) : Ex := (fun _ => .normal) o
noncomputable def tourref2_part.c3n (o : Int) : Nat := (fun _ => 2) o
theorem tourref2_part.c3_ok (k : Nat) (o8 : ((List Int) × (List Int))) (v10 : Int) (v11 : Int) (y21 : Int) : Owp (tourref2_part.c3 k v10 v11 y21) fun o => Triple PR (tourref2_part.cx k) (sub tourref2_part.code [1, 1, 1, 0, 1, 0, 0, 1, 0, 0, 1]) 2 (tourref2_part.c3p o8 v10 v11 y21) (tourref2_part.c3x o) (tourref2_part.c3n o) (tourref2_part.c3q o8 v11 o) := by
  unfold tourref2_part.c3; exact
   Owp.bif (fun e23 =>
   Owp.some (triple_way (tourref2_part.cok k) hmix [.dec true] [] [(0, 0), (1, 1)] (via (finP (And.intro trivial e23) .normal [(0, 0), (1, 1)] (tourref2_part.c3q o8 v11 (iadd .i64 v10 v11))) (by kernel_rfl)))) (fun e23 =>
   Owp.some (triple_way (tourref2_part.cok k) hmix [.dec false] [] [(0, 0), (1, 1)] (via (finP (And.intro trivial e23) .normal [(0, 0), (1, 1)] (tourref2_part.c3q o8 v11 v10)) (by kernel_rfl))))
noncomputable def tourref2_part.c2p (o8 : ((List Int) × (List Int))) (v10 : Int) (v11 : Int) : SL := ⟨[(2, (.val .ptr ⟨0, 0, (0 : Int), 0, 0⟩)), (3, (.val .ptr ⟨1, 0, (0 : Int), 0, 0⟩)), (5, (.val T2 v10)), (6, (.val T2 v11))], [(0, .cells T134 o8.1), (1, .cells T134 o8.2)]⟩
noncomputable def tourref2_part.c2q (o : Int) : SL := (fun v => ⟨[(5, (.val T2 v))], []⟩) o
noncomputable def tourref2_part.c2x (o : Int) : Ex := (fun _ => (.exit 0)) o
noncomputable def tourref2_part.c2n (o : Int) : Nat := (fun _ => 0) o
theorem tourref2_part.c2_ok (k : Nat) (o8 : ((List Int) × (List Int))) : ∀ (n : Nat) (v10 : Int) (v11 : Int), Owp (tourref2_part.c2 k o8 n v10 v11) fun o => LTriple PR (tourref2_part.cx k) (sub tourref2_part.code [1, 1, 1, 0, 1, 0, 0]) 2 (tourref2_part.c2p o8 v10 v11) (tourref2_part.c2x o) (tourref2_part.c2n o) (tourref2_part.c2q o)
  | 0, _, _ => fun _ h => nomatch h
  | n + 1, v10, v11 => Owp.of (tourref2_part.c2.eq_2 ..) (
   Owp.bif (fun e12 =>
   Owp.bnd fun y13 e14 =>
    Owp.bnd fun y15 e16 =>
    Owp.bnd fun y17 e18 =>
    Owp.bnd fun y19 e20 =>
    Owp.bnd fun y21 e22 =>
    Owp.bnd fun o24 e25 =>
    fun y hy => loop_back (tourref2_part.cok k) hmix 2 (tourref2_part.c2p o8 o24 (iquo .i64 v11 (2 : Int))) [.dec true, .res (.one (.dp T134)) y13, .res (.one (.dp T134)) y15, .res (.one (.dp T134)) y17, .res (.one (.dp T134)) y19, .res (.one (.dp T2)) y21, .cut ⟨[], [(0, 0), (1, 1)], (tourref2_part.c3p o8 v10 v11 y21), 2, .normal, (tourref2_part.c3q o8 v11 o24), 2⟩] [] [(0, 0), (1, 1)] (via (cutP (And.intro (And.intro (And.intro (And.intro (And.intro (And.intro trivial e12) e14) e16) e18) e20) e22) [(0, 0), (1, 1)] (tourref2_part.c3p o8 v10 v11 y21) (((tourref2_part.c3_ok k o8 v10 v11 y21).ap e25)) (finP (And.intro trivial (by decide : nz (2 : Int))) .normal [(0, 0), (1, 1)] (tourref2_part.c2p o8 o24 (iquo .i64 v11 (2 : Int))))) (by kernel_rfl)) ((tourref2_part.c2_ok k o8 n o24 (iquo .i64 v11 (2 : Int))).ap hy)) (fun e12 =>
   Owp.some (loop_exit (tourref2_part.cok k) hmix [.dec false] [] [] (exne 0) (via (finP (And.intro trivial e12) (.exit 0) [] (tourref2_part.c2q v10)) (by kernel_rfl)))))
theorem tourref2_part.way (k : Nat) (a0 : (List Int)) (a1 : (List Int)) : Owp (tourref2_part k a0 a1) fun y => ∃ answers cmds, exec PR (tourref2_part.cx k) tourref2_part.code 0 (entry (.pair T134 (.pair T134 .unit)) (a0, a1, ())).st answers (Ret (tourref2_part.cx k) Try.f127 cmds (.one (.dp T2)) y) := by
  unfold tourref2_part; exact
   Owp.bnd fun y1 e2 =>
   Owp.bnd fun o8 e9 =>
   Owp.bnd fun o26 e27 =>
   Owp.some (⟨[.res (.one (.dp T4)) y1, .cut ⟨[], [(0, 0), (1, 1)], (tourref2_part.c1p a0 a1 y1), 2, .normal, (tourref2_part.c1q o8), 2⟩, .cut ⟨[], [(0, 0), (1, 1)], (tourref2_part.c2p o8 (0 : Int) (65536 : Int)), 2, (.exit 0), (tourref2_part.c2q o26), 0⟩], [], via (cutP (And.intro trivial e2) [(0, 0), (1, 1)] (tourref2_part.c1p a0 a1 y1) (((tourref2_part.c1_ok k a0 a1 y1).ap e9)) (cutP trivial [(0, 0), (1, 1)] (tourref2_part.c2p o8 (0 : Int) (65536 : Int)) (((tourref2_part.c2_ok k o8 k (0 : Int) (65536 : Int)).ap e27).triple) (retP trivial (.one (.dp T2)) ((imin o26 (65536 : Int)) : Int)))) (by kernel_rfl)⟩)
theorem tourref2_part.ok (k : Nat) : FnOk PR 127 (tourref2_part.sp k) :=
  fn_ok (tourref2_part.cok k) hmix Try.func127 (code := tourref2_part.code) (by kernel_rfl) (by kernel_rfl) (by kernel_rfl) rfl rfl (by kernel_rfl) (by kernel_rfl) (by kernel_rfl) (fun x => Nat.le_of_ble_eq_true (by kernel_rfl)) fun x y hy => (tourref2_part.way k x.1 x.2.1).ap hy

end Go.Proofs.T1
