import Derived.Test.YtcgcnojpcgjnmaaG0
import Derived.Test.YtcgcnojpcgjnmaaG2
import Derived.Test.YtcgcnojpcgjnmaaG3
import Derived.Test.YtcgcnojpcgjnmaaG6
import Derived.Test.YtcgcnojpcgjnmaaG7
import Derived.Test.YtcgcnojpcgjnmaaG9
import Derived.Test.YtcgcnojpcgjnmaaG10
namespace Go.Proofs.T1
open Go Go.Sx Go.Proofs
set_option maxRecDepth 100000
set_option linter.unusedVariables false
/-! tourney/solve.Run -/
noncomputable def solve_Run_h.code : Code := Func.cd Try.f58
def solve_Run_h.c1 (k : Nat) (a2 : Int) (a3 : Int) : Option (Bool) :=
  bif' (ilt a2 1)
  (some true)
  (bif' (igt a2 65536)
   (some true)
   (bif' (ilt a3 0)
    (some true)
    (some (igt a3 32))))
def solve_Run_h.c2 (k : Nat) (r0 : (List V25)) : Nat → Int → (List V25) → Option ((List V25))
  | 0, _, _ => none
  | n + 1, v12, v13 =>
   bif' (ilt v12 (len r0))
   (req (inL v12 r0) <|
    bnd (slices_Clone_129 k (el Z25 r0 v12).2.2.2.2.2.2.2.2.1) fun y16 =>
    req (room 120 v13 [((el Z25 r0 v12).1, (el Z25 r0 v12).2.1, (el Z25 r0 v12).2.2.1, (el Z25 r0 v12).2.2.2.1, (el Z25 r0 v12).2.2.2.2.1, (el Z25 r0 v12).2.2.2.2.2.1, (el Z25 r0 v12).2.2.2.2.2.2.1, (el Z25 r0 v12).2.2.2.2.2.2.2.1, y16, (el Z25 r0 v12).2.2.2.2.2.2.2.2.2)]) <|
    solve_Run_h.c2 k r0 n (iadd .i64 v12 1) (v13 ++ [((el Z25 r0 v12).1, (el Z25 r0 v12).2.1, (el Z25 r0 v12).2.2.1, (el Z25 r0 v12).2.2.2.1, (el Z25 r0 v12).2.2.2.2.1, (el Z25 r0 v12).2.2.2.2.2.1, (el Z25 r0 v12).2.2.2.2.2.2.1, (el Z25 r0 v12).2.2.2.2.2.2.2.1, y16, (el Z25 r0 v12).2.2.2.2.2.2.2.2.2)]))
   (some v13)
def solve_Run_h.c3 (k : Nat) (a2 : Int) (o19 : (List V25)) (y10 : (List V78)) : Nat → Int → (List V145) → Option ((List V145))
  | 0, _, _ => none
  | n + 1, v21, v22 =>
   bif' (ilt v21 (len y10))
   (req (inL v21 y10) <|
    bnd (solve_solver_row_2 k (el Z78 y10 v21) a2 o19 y10 v22) fun y25 =>
    req (room 48 v22 [y25]) <|
    solve_Run_h.c3 k a2 o19 y10 n (iadd .i64 v21 1) (v22 ++ [y25]))
   (some v22)
def solve_Run_h.c4 (k : Nat) (o28 : (List V145)) (y10 : (List V78)) : Nat → Int → (List V25) → Option ((List V25))
  | 0, _, _ => none
  | n + 1, v30, v31 =>
   bif' (ilt v30 (len y10))
   (req (inL v30 y10) <|
    bnd (vec_Scale k (el Z78 y10 v30).2.2.2.2.1 (el Z78 y10 v30).2.2.2.2.2.2.1) fun y34 =>
    req (inL v30 o28) <|
    bnd (vec_Scale k (el Z145 o28 v30).1 (el Z78 y10 v30).2.2.2.2.2.2.2.1) fun y37 =>
    bnd (vec_Add k y34 y37) fun y39 =>
    bnd (solve_solver_push k (el Z78 y10 v30) y39 v31 y10 o28) fun y41 =>
    solve_Run_h.c4 k o28 y10 n (iadd .i64 v30 1) y41)
   (some v31)
def solve_Run_h.c6 (k : Nat) (o28 : (List V145)) (v47 : (List V78)) : Nat → Int → (List V25) → (List V78) → Option (((List V25) × (List V78)))
  | 0, _, _, _ => none
  | n + 1, v49, v50, v51 =>
   bif' (ilt v49 (len v47))
   (bnd (solve_solver_round k v49 v50 v51 o28) fun y53 =>
    solve_Run_h.c6 k o28 v47 n (iadd .i64 v49 1) y53.1 y53.2)
   (some (v50, v51))
def solve_Run_h.c5 (k : Nat) (a3 : Int) (o28 : (List V145)) : Nat → Int → (List V25) → (List V78) → Option (((List V25) × (List V78)))
  | 0, _, _, _ => none
  | n + 1, v45, v46, v47 =>
   bif' (ilt v45 a3)
   (bnd (solve_Run_h.c6 k o28 v47 k 0 v46 v47) fun o55 =>
    solve_Run_h.c5 k a3 o28 n (iadd .i64 v45 1) o55.1 o55.2)
   (some (v46, v47))
def solve_Run_h (k : Nat) (a1 : (List V78)) (a2 : Int) (a3 : Int) (r0 : (List V25)) : Option ((List V25) × ((List V78) × Int)) :=
  bnd (solve_Check k r0 a1) fun y1 =>
  bif' (ine y1 0)
  (some ([], [], y1))
  (bnd (solve_Run_h.c1 k a2 a3) fun o7 =>
   bif' o7
   (some ([], [], 1))
   (bnd (slices_Clone k a1) fun y10 =>
    bnd (solve_Run_h.c2 k r0 k 0 []) fun o19 =>
    bnd (solve_Run_h.c3 k a2 o19 y10 k 0 []) fun o28 =>
    bnd (solve_Run_h.c4 k o28 y10 k 0 o19) fun o43 =>
    bnd (solve_Run_h.c5 k a3 o28 k 0 o43 y10) fun o57 =>
    some (o57.1, o57.2, 0)))
noncomputable def solve_Run_h.h (k : Nat) : Go.Sx.HSp := ⟨(.pair (.slice T78) (.pair T2 (.pair T2 (.pair (.slice T25) .unit)))), (.pair (.slice T25) (.pair (.slice T78) T2)), 1, fun x => [.lent (.val .own (0 : Nat)), .dat (.slice T78) x.1, .dat T2 x.2.1, .dat T2 x.2.2.1], fun x => [(0, .row T25 x.2.2.2.1 26)], fun x => solve_Run_h k x.1 x.2.1 x.2.2.1 x.2.2.2.1, fun x y => [(0, .row T25 x.2.2.2.1 26)], (.more (.dp (.slice T25)) (.more (.dp (.slice T78)) (.one (.dp T2)))), fun y => y, true⟩
noncomputable def solve_Run_h.cx (k : Nat) : Go.Sx.Ctx := ⟨tys, [(76, solve_Check.sp k), (128, slices_Clone.sp k), (129, (slices_Clone_129.sp k).frz), (132, vec_Scale.sp k), (105, vec_Add.sp k)], eqs, 143, 1, [(130, solve_solver_row_2.h k), (131, solve_solver_push.h k), (133, solve_solver_round.h k)], true⟩
theorem solve_Run_h.cok (k : Nat) : CtxOk PR (solve_Run_h.cx k) := ctx_ok tysOk eqsOk (FnsOk.cons (solve_Check.ok k) (FnsOk.cons (slices_Clone.ok k) (FnsOk.cons (FnOk.frz rfl (slices_Clone_129.ok k)) (FnsOk.cons (vec_Scale.ok k) (FnsOk.cons (vec_Add.ok k) FnsOk.nil))))) (HsOk.cons (solve_solver_row_2.ok k) (HsOk.cons (solve_solver_push.ok k) (HsOk.cons (solve_solver_round.ok k) HsOk.nil)))
noncomputable def solve_Run_h.c1p (a1 : (List V78)) (a2 : Int) (a3 : Int) (r0 : (List V25)) : SL := ⟨[(0, (.val .own (0 : Nat))), (1, (.val (.slice T78) a1)), (2, (.val T2 a2)), (3, (.val T2 a3))], [(0, .row T25 r0 26)]⟩
noncomputable def solve_Run_h.c1q (a1 : (List V78)) (a2 : Int) (a3 : Int) (r0 : (List V25)) (o : Bool) : SL := (fun v => ⟨[(0, (.val .own (0 : Nat))), (1, (.val (.slice T78) a1)), (2, (.val T2 a2)), (3, (.val T2 a3)), (39, (.val T4 v))], [(0, .row T25 r0 26)]⟩) o
noncomputable def solve_Run_h.c1x (o : Bool) : Ex := (fun _ => .normal) o
noncomputable def solve_Run_h.c1n (o : Bool) : Nat := (fun _ => 1) o
theorem solve_Run_h.c1_ok (k : Nat) (a1 : (List V78)) (a2 : Int) (a3 : Int) (r0 : (List V25)) : Owp (solve_Run_h.c1 k a2 a3) fun o => Triple PR (solve_Run_h.cx k) (sub solve_Run_h.code [1, 1, 0, 0]) 1 (solve_Run_h.c1p a1 a2 a3 r0) (solve_Run_h.c1x o) (solve_Run_h.c1n o) (solve_Run_h.c1q a1 a2 a3 r0 o) := by
  unfold solve_Run_h.c1; exact
   Owp.bif (fun e4 =>
   Owp.some (triple_way (solve_Run_h.cok k) hmix [.dec true, .dec true, .dec true, .dec true, .dec true, .dec true, .dec true, .dec true, .dec true] [] [(0, 0)] (via (finP (And.intro (And.intro (And.intro (And.intro (And.intro (And.intro (And.intro (And.intro (And.intro trivial e4) e4) e4) tt) tt) tt) tt) tt) tt) .normal [(0, 0)] (solve_Run_h.c1q a1 a2 a3 r0 true)) (by kernel_rfl)))) (fun e4 =>
   Owp.bif (fun e5 =>
    Owp.some (triple_way (solve_Run_h.cok k) hmix [.dec false, .dec false, .dec false, .dec true, .dec true, .dec true, .dec true, .dec true, .dec true] [] [(0, 0)] (via (finP (And.intro (And.intro (And.intro (And.intro (And.intro (And.intro (And.intro (And.intro (And.intro trivial e4) e4) e4) e5) e5) e5) tt) tt) tt) .normal [(0, 0)] (solve_Run_h.c1q a1 a2 a3 r0 true)) (by kernel_rfl)))) (fun e5 =>
    Owp.bif (fun e6 =>
     Owp.some (triple_way (solve_Run_h.cok k) hmix [.dec false, .dec false, .dec false, .dec false, .dec false, .dec false, .dec true, .dec true, .dec true] [] [(0, 0)] (via (finP (And.intro (And.intro (And.intro (And.intro (And.intro (And.intro (And.intro (And.intro (And.intro trivial e4) e4) e4) e5) e5) e5) e6) e6) e6) .normal [(0, 0)] (solve_Run_h.c1q a1 a2 a3 r0 true)) (by kernel_rfl)))) (fun e6 =>
     Owp.some (triple_way (solve_Run_h.cok k) hmix [.dec false, .dec false, .dec false, .dec false, .dec false, .dec false, .dec false, .dec false, .dec false] [] [(0, 0)] (via (finP (And.intro (And.intro (And.intro (And.intro (And.intro (And.intro (And.intro (And.intro (And.intro trivial e4) e4) e4) e5) e5) e5) e6) e6) e6) .normal [(0, 0)] (solve_Run_h.c1q a1 a2 a3 r0 (igt a3 (32 : Int)))) (by kernel_rfl))))))
noncomputable def solve_Run_h.c2p (a2 : Int) (a3 : Int) (r0 : (List V25)) (y10 : (List V78)) (v12 : Int) (v13 : (List V25)) : SL := ⟨[(2, (.val T2 a2)), (3, (.val T2 a3)), (12, (.val .ptr ⟨1, 0, (0 : Int), 0, 0⟩)), (44, (.val .own (0 : Nat))), (45, (.val T2 (len r0))), (46, (.val T2 v12))], [(0, .row T25 r0 26), (1, .cells (.pair .own (.pair .own (.pair .nil .unit))) ((2 : Nat), (3 : Nat), ((), ()))), (2, .row T25 v13 26), (3, .row T78 y10 79)]⟩
noncomputable def solve_Run_h.c2q (a2 : Int) (a3 : Int) (r0 : (List V25)) (y10 : (List V78)) (o : (List V25)) : SL := (fun v => ⟨[(2, (.val T2 a2)), (3, (.val T2 a3)), (12, (.val .ptr ⟨1, 0, (0 : Int), 0, 0⟩))], [(0, .row T25 r0 26), (1, .cells (.pair .own (.pair .own (.pair .nil .unit))) ((2 : Nat), (3 : Nat), ((), ()))), (2, .row T25 v 26), (3, .row T78 y10 79)]⟩) o
noncomputable def solve_Run_h.c2x (o : (List V25)) : Ex := (fun _ => (.exit 0)) o
noncomputable def solve_Run_h.c2n (o : (List V25)) : Nat := (fun _ => 4) o
theorem solve_Run_h.c2_ok (k : Nat) (a2 : Int) (a3 : Int) (r0 : (List V25)) (y10 : (List V78)) : ∀ (n : Nat) (v12 : Int) (v13 : (List V25)), Owp (solve_Run_h.c2 k r0 n v12 v13) fun o => LTriple PR (solve_Run_h.cx k) (sub solve_Run_h.code [1, 1, 1, 1, 0, 1, 0, 0]) 4 (solve_Run_h.c2p a2 a3 r0 y10 v12 v13) (solve_Run_h.c2x o) (solve_Run_h.c2n o) (solve_Run_h.c2q a2 a3 r0 y10 o)
  | 0, _, _ => fun _ h => nomatch h
  | n + 1, v12, v13 => Owp.of (solve_Run_h.c2.eq_2 ..) (
   Owp.bif (fun e14 =>
   Owp.req fun h15 =>
    Owp.bnd fun y16 e17 =>
    Owp.req fun h18 =>
    fun y hy => loop_back (solve_Run_h.cok k) hmix 4 (solve_Run_h.c2p a2 a3 r0 y10 (iadd .i64 v12 (1 : Int)) (v13 ++ [((el Z25 r0 v12).1, (el Z25 r0 v12).2.1, (el Z25 r0 v12).2.2.1, (el Z25 r0 v12).2.2.2.1, (el Z25 r0 v12).2.2.2.2.1, (el Z25 r0 v12).2.2.2.2.2.1, (el Z25 r0 v12).2.2.2.2.2.2.1, (el Z25 r0 v12).2.2.2.2.2.2.2.1, y16, (el Z25 r0 v12).2.2.2.2.2.2.2.2.2)])) [.dec true, .res (.one (.dp T24)) y16, .dec true] [] [(0, 0), (1, 1), (2, 21), (3, 3)] (via (finP (And.intro (And.intro (And.intro (And.intro (And.intro trivial e14) h15) h15) e17) h18) .normal [(0, 0), (1, 1), (2, 21), (3, 3)] (solve_Run_h.c2p a2 a3 r0 y10 (iadd .i64 v12 (1 : Int)) (v13 ++ [((el Z25 r0 v12).1, (el Z25 r0 v12).2.1, (el Z25 r0 v12).2.2.1, (el Z25 r0 v12).2.2.2.1, (el Z25 r0 v12).2.2.2.2.1, (el Z25 r0 v12).2.2.2.2.2.1, (el Z25 r0 v12).2.2.2.2.2.2.1, (el Z25 r0 v12).2.2.2.2.2.2.2.1, y16, (el Z25 r0 v12).2.2.2.2.2.2.2.2.2)]))) (by kernel_rfl)) ((solve_Run_h.c2_ok k a2 a3 r0 y10 n (iadd .i64 v12 (1 : Int)) (v13 ++ [((el Z25 r0 v12).1, (el Z25 r0 v12).2.1, (el Z25 r0 v12).2.2.1, (el Z25 r0 v12).2.2.2.1, (el Z25 r0 v12).2.2.2.2.1, (el Z25 r0 v12).2.2.2.2.2.1, (el Z25 r0 v12).2.2.2.2.2.2.1, (el Z25 r0 v12).2.2.2.2.2.2.2.1, y16, (el Z25 r0 v12).2.2.2.2.2.2.2.2.2)])).ap hy)) (fun e14 =>
   Owp.some (loop_exit (solve_Run_h.cok k) hmix [.dec false] [] [(0, 0), (1, 1), (2, 2), (3, 3)] (exne 0) (via (finP (And.intro trivial e14) (.exit 0) [(0, 0), (1, 1), (2, 2), (3, 3)] (solve_Run_h.c2q a2 a3 r0 y10 v13)) (by kernel_rfl)))))
noncomputable def solve_Run_h.c3p (a2 : Int) (a3 : Int) (o19 : (List V25)) (r0 : (List V25)) (y10 : (List V78)) (v21 : Int) (v22 : (List V145)) : SL := ⟨[(2, (.val T2 a2)), (3, (.val T2 a3)), (12, (.val .ptr ⟨1, 0, (0 : Int), 0, 0⟩)), (68, (.val .own (2 : Nat))), (69, (.val T2 (len y10))), (70, (.val T2 v21))], [(0, .row T25 r0 26), (1, .cells (.pair .own (.pair .own (.pair .own .unit))) ((3 : Nat), (2 : Nat), (4 : Nat), ())), (2, .row T78 y10 79), (3, .row T25 o19 26), (4, .row T145 v22 146)]⟩
noncomputable def solve_Run_h.c3q (a3 : Int) (o19 : (List V25)) (r0 : (List V25)) (y10 : (List V78)) (o : (List V145)) : SL := (fun v => ⟨[(3, (.val T2 a3)), (12, (.val .ptr ⟨1, 0, (0 : Int), 0, 0⟩))], [(0, .row T25 r0 26), (1, .cells (.pair .own (.pair .own (.pair .own .unit))) ((2 : Nat), (3 : Nat), (4 : Nat), ())), (2, .row T25 o19 26), (3, .row T78 y10 79), (4, .row T145 v 146)]⟩) o
noncomputable def solve_Run_h.c3x (o : (List V145)) : Ex := (fun _ => (.exit 2)) o
noncomputable def solve_Run_h.c3n (o : (List V145)) : Nat := (fun _ => 5) o
theorem solve_Run_h.c3_ok (k : Nat) (a2 : Int) (a3 : Int) (o19 : (List V25)) (r0 : (List V25)) (y10 : (List V78)) : ∀ (n : Nat) (v21 : Int) (v22 : (List V145)), Owp (solve_Run_h.c3 k a2 o19 y10 n v21 v22) fun o => LTriple PR (solve_Run_h.cx k) (sub solve_Run_h.code [1, 1, 1, 1, 1, 0, 1, 0, 0]) 5 (solve_Run_h.c3p a2 a3 o19 r0 y10 v21 v22) (solve_Run_h.c3x o) (solve_Run_h.c3n o) (solve_Run_h.c3q a3 o19 r0 y10 o)
  | 0, _, _ => fun _ h => nomatch h
  | n + 1, v21, v22 => Owp.of (solve_Run_h.c3.eq_2 ..) (
   Owp.bif (fun e23 =>
   Owp.req fun h24 =>
    Owp.bnd fun y25 e26 =>
    Owp.req fun h27 =>
    fun y hy => loop_back (solve_Run_h.cok k) hmix 5 (solve_Run_h.c3p a2 a3 o19 r0 y10 (iadd .i64 v21 (1 : Int)) (v22 ++ [y25])) [.dec true, .hres [(0, 1), (1, 3), (2, 2), (3, 4)] (.pair T78 (.pair T2 (.pair (.slice T25) (.pair (.slice T78) (.pair (.slice T145) .unit))))) ((el Z78 y10 v21), a2, o19, y10, v22, ()) T145 y25, .dec true] [] [(0, 0), (1, 1), (2, 2), (3, 3), (4, 20)] (via (finP (And.intro (And.intro (And.intro (And.intro (And.intro trivial e23) h24) h24) (callHP (solve_solver_row_2.h k) [(0, 1), (1, 3), (2, 2), (3, 4)] ((el Z78 y10 v21), a2, o19, y10, v22, ()) e26)) h27) .normal [(0, 0), (1, 1), (2, 2), (3, 3), (4, 20)] (solve_Run_h.c3p a2 a3 o19 r0 y10 (iadd .i64 v21 (1 : Int)) (v22 ++ [y25]))) (by kernel_rfl)) ((solve_Run_h.c3_ok k a2 a3 o19 r0 y10 n (iadd .i64 v21 (1 : Int)) (v22 ++ [y25])).ap hy)) (fun e23 =>
   Owp.some (loop_exit (solve_Run_h.cok k) hmix [.dec false] [] [(0, 0), (1, 1), (2, 3), (3, 2), (4, 4)] (exne 2) (via (finP (And.intro trivial e23) (.exit 2) [(0, 0), (1, 1), (2, 3), (3, 2), (4, 4)] (solve_Run_h.c3q a3 o19 r0 y10 v22)) (by kernel_rfl)))))
noncomputable def solve_Run_h.c4p (a3 : Int) (o28 : (List V145)) (r0 : (List V25)) (y10 : (List V78)) (v30 : Int) (v31 : (List V25)) : SL := ⟨[(3, (.val T2 a3)), (12, (.val .ptr ⟨1, 0, (0 : Int), 0, 0⟩)), (91, (.val .own (2 : Nat))), (92, (.val T2 (len y10))), (93, (.val T2 v30))], [(0, .row T25 r0 26), (1, .cells (.pair .own (.pair .own (.pair .own .unit))) ((3 : Nat), (2 : Nat), (4 : Nat), ())), (2, .row T78 y10 79), (3, .row T25 v31 26), (4, .row T145 o28 146)]⟩
noncomputable def solve_Run_h.c4q (a3 : Int) (o28 : (List V145)) (r0 : (List V25)) (y10 : (List V78)) (o : (List V25)) : SL := (fun v => ⟨[(3, (.val T2 a3)), (12, (.val .ptr ⟨1, 0, (0 : Int), 0, 0⟩))], [(0, .row T25 r0 26), (1, .cells (.pair .own (.pair .own (.pair .own .unit))) ((2 : Nat), (3 : Nat), (4 : Nat), ())), (2, .row T25 v 26), (3, .row T78 y10 79), (4, .row T145 o28 146)]⟩) o
noncomputable def solve_Run_h.c4x (o : (List V25)) : Ex := (fun _ => (.exit 4)) o
noncomputable def solve_Run_h.c4n (o : (List V25)) : Nat := (fun _ => 5) o
theorem solve_Run_h.c4_ok (k : Nat) (a3 : Int) (o28 : (List V145)) (r0 : (List V25)) (y10 : (List V78)) : ∀ (n : Nat) (v30 : Int) (v31 : (List V25)), Owp (solve_Run_h.c4 k o28 y10 n v30 v31) fun o => LTriple PR (solve_Run_h.cx k) (sub solve_Run_h.code [1, 1, 1, 1, 1, 1, 0, 1, 0, 0]) 5 (solve_Run_h.c4p a3 o28 r0 y10 v30 v31) (solve_Run_h.c4x o) (solve_Run_h.c4n o) (solve_Run_h.c4q a3 o28 r0 y10 o)
  | 0, _, _ => fun _ h => nomatch h
  | n + 1, v30, v31 => Owp.of (solve_Run_h.c4.eq_2 ..) (
   Owp.bif (fun e32 =>
   Owp.req fun h33 =>
    Owp.bnd fun y34 e35 =>
    Owp.req fun h36 =>
    Owp.bnd fun y37 e38 =>
    Owp.bnd fun y39 e40 =>
    Owp.bnd fun y41 e42 =>
    fun y hy => loop_back (solve_Run_h.cok k) hmix 5 (solve_Run_h.c4p a3 o28 r0 y10 (iadd .i64 v30 (1 : Int)) y41) [.dec true, .res (.one (.dp T22)) y34, .res (.one (.dp T22)) y37, .res (.one (.dp T22)) y39, .hres [(0, 1), (1, 3), (2, 2), (3, 4)] (.pair T78 (.pair T22 (.pair (.slice T25) (.pair (.slice T78) (.pair (.slice T145) .unit))))) ((el Z78 y10 v30), y39, v31, y10, o28, ()) (.slice T25) y41] [] [(0, 0), (1, 1), (2, 2), (3, 3), (4, 4)] (via (finP (And.intro (And.intro (And.intro (And.intro (And.intro (And.intro (And.intro (And.intro (And.intro trivial e32) h33) h33) e35) h36) h36) e38) e40) (callHP (solve_solver_push.h k) [(0, 1), (1, 3), (2, 2), (3, 4)] ((el Z78 y10 v30), y39, v31, y10, o28, ()) e42)) .normal [(0, 0), (1, 1), (2, 2), (3, 3), (4, 4)] (solve_Run_h.c4p a3 o28 r0 y10 (iadd .i64 v30 (1 : Int)) y41)) (by kernel_rfl)) ((solve_Run_h.c4_ok k a3 o28 r0 y10 n (iadd .i64 v30 (1 : Int)) y41).ap hy)) (fun e32 =>
   Owp.some (loop_exit (solve_Run_h.cok k) hmix [.dec false] [] [(0, 0), (1, 1), (2, 3), (3, 2), (4, 4)] (exne 4) (via (finP (And.intro trivial e32) (.exit 4) [(0, 0), (1, 1), (2, 3), (3, 2), (4, 4)] (solve_Run_h.c4q a3 o28 r0 y10 v31)) (by kernel_rfl)))))
noncomputable def solve_Run_h.c6p (a3 : Int) (o28 : (List V145)) (r0 : (List V25)) (v45 : Int) (v47 : (List V78)) (v49 : Int) (v50 : (List V25)) (v51 : (List V78)) : SL := ⟨[(12, (.val .ptr ⟨1, 0, (0 : Int), 0, 0⟩)), (119, (.val T2 a3)), (120, (.val T2 v45)), (126, (.val T2 (len v47))), (127, (.val T2 v49))], [(0, .row T25 r0 26), (1, .cells (.pair .own (.pair .own (.pair .own .unit))) ((2 : Nat), (3 : Nat), (4 : Nat), ())), (2, .row T25 v50 26), (3, .row T78 v51 79), (4, .row T145 o28 146)]⟩
noncomputable def solve_Run_h.c6q (a3 : Int) (o28 : (List V145)) (r0 : (List V25)) (v45 : Int) (o : ((List V25) × (List V78))) : SL := (fun v => ⟨[(12, (.val .ptr ⟨1, 0, (0 : Int), 0, 0⟩)), (119, (.val T2 a3)), (120, (.val T2 v45))], [(0, .row T25 r0 26), (1, .cells (.pair .own (.pair .own (.pair .own .unit))) ((2 : Nat), (3 : Nat), (4 : Nat), ())), (2, .row T25 v.1 26), (3, .row T78 v.2 79), (4, .row T145 o28 146)]⟩) o
noncomputable def solve_Run_h.c6x (o : ((List V25) × (List V78))) : Ex := (fun _ => (.exit 8)) o
noncomputable def solve_Run_h.c6n (o : ((List V25) × (List V78))) : Nat := (fun _ => 5) o
theorem solve_Run_h.c6_ok (k : Nat) (a3 : Int) (o28 : (List V145)) (r0 : (List V25)) (v45 : Int) (v47 : (List V78)) : ∀ (n : Nat) (v49 : Int) (v50 : (List V25)) (v51 : (List V78)), Owp (solve_Run_h.c6 k o28 v47 n v49 v50 v51) fun o => LTriple PR (solve_Run_h.cx k) (sub solve_Run_h.code [1, 1, 1, 1, 1, 1, 1, 0, 1, 0, 0, 1, 1, 0, 0, 1, 0, 0]) 5 (solve_Run_h.c6p a3 o28 r0 v45 v47 v49 v50 v51) (solve_Run_h.c6x o) (solve_Run_h.c6n o) (solve_Run_h.c6q a3 o28 r0 v45 o)
  | 0, _, _, _ => fun _ h => nomatch h
  | n + 1, v49, v50, v51 => Owp.of (solve_Run_h.c6.eq_2 ..) (
   Owp.bif (fun e52 =>
   Owp.bnd fun y53 e54 =>
    fun y hy => loop_back (solve_Run_h.cok k) hmix 5 (solve_Run_h.c6p a3 o28 r0 v45 v47 (iadd .i64 v49 (1 : Int)) y53.1 y53.2) [.dec true, .hres [(0, 1), (1, 2), (2, 3), (3, 4)] (.pair T2 (.pair (.slice T25) (.pair (.slice T78) (.pair (.slice T145) .unit)))) (v49, v50, v51, o28, ()) (.pair (.slice T25) (.slice T78)) y53] [] [(0, 0), (1, 1), (2, 2), (3, 3), (4, 4)] (via (finP (And.intro (And.intro trivial e52) (callHP (solve_solver_round.h k) [(0, 1), (1, 2), (2, 3), (3, 4)] (v49, v50, v51, o28, ()) e54)) .normal [(0, 0), (1, 1), (2, 2), (3, 3), (4, 4)] (solve_Run_h.c6p a3 o28 r0 v45 v47 (iadd .i64 v49 (1 : Int)) y53.1 y53.2)) (by kernel_rfl)) ((solve_Run_h.c6_ok k a3 o28 r0 v45 v47 n (iadd .i64 v49 (1 : Int)) y53.1 y53.2).ap hy)) (fun e52 =>
   Owp.some (loop_exit (solve_Run_h.cok k) hmix [.dec false] [] [(0, 0), (1, 1), (2, 2), (3, 3), (4, 4)] (exne 8) (via (finP (And.intro trivial e52) (.exit 8) [(0, 0), (1, 1), (2, 2), (3, 3), (4, 4)] (solve_Run_h.c6q a3 o28 r0 v45 (v50, v51))) (by kernel_rfl)))))
noncomputable def solve_Run_h.c5p (a3 : Int) (o28 : (List V145)) (r0 : (List V25)) (v45 : Int) (v46 : (List V25)) (v47 : (List V78)) : SL := ⟨[(12, (.val .ptr ⟨1, 0, (0 : Int), 0, 0⟩)), (119, (.val T2 a3)), (120, (.val T2 v45))], [(0, .row T25 r0 26), (1, .cells (.pair .own (.pair .own (.pair .own .unit))) ((2 : Nat), (3 : Nat), (4 : Nat), ())), (2, .row T25 v46 26), (3, .row T78 v47 79), (4, .row T145 o28 146)]⟩
noncomputable def solve_Run_h.c5q (o28 : (List V145)) (r0 : (List V25)) (o : ((List V25) × (List V78))) : SL := (fun v => ⟨[(12, (.val .ptr ⟨1, 0, (0 : Int), 0, 0⟩))], [(0, .row T25 r0 26), (1, .cells (.pair .own (.pair .own (.pair .own .unit))) ((2 : Nat), (3 : Nat), (4 : Nat), ())), (2, .row T25 v.1 26), (3, .row T78 v.2 79), (4, .row T145 o28 146)]⟩) o
noncomputable def solve_Run_h.c5x (o : ((List V25) × (List V78))) : Ex := (fun _ => (.exit 6)) o
noncomputable def solve_Run_h.c5n (o : ((List V25) × (List V78))) : Nat := (fun _ => 5) o
theorem solve_Run_h.c5_ok (k : Nat) (a3 : Int) (o28 : (List V145)) (r0 : (List V25)) : ∀ (n : Nat) (v45 : Int) (v46 : (List V25)) (v47 : (List V78)), Owp (solve_Run_h.c5 k a3 o28 n v45 v46 v47) fun o => LTriple PR (solve_Run_h.cx k) (sub solve_Run_h.code [1, 1, 1, 1, 1, 1, 1, 0, 1, 0, 0]) 5 (solve_Run_h.c5p a3 o28 r0 v45 v46 v47) (solve_Run_h.c5x o) (solve_Run_h.c5n o) (solve_Run_h.c5q o28 r0 o)
  | 0, _, _, _ => fun _ h => nomatch h
  | n + 1, v45, v46, v47 => Owp.of (solve_Run_h.c5.eq_2 ..) (
   Owp.bif (fun e48 =>
   Owp.bnd fun o55 e56 =>
    fun y hy => loop_back (solve_Run_h.cok k) hmix 5 (solve_Run_h.c5p a3 o28 r0 (iadd .i64 v45 (1 : Int)) o55.1 o55.2) [.dec true, .cut ⟨[], [(0, 0), (1, 1), (2, 2), (3, 3), (4, 4)], (solve_Run_h.c6p a3 o28 r0 v45 v47 (0 : Int) v46 v47), 5, (.exit 8), (solve_Run_h.c6q a3 o28 r0 v45 o55), 5⟩] [] [(0, 0), (1, 1), (2, 2), (3, 3), (4, 4)] (via (cutP (And.intro trivial e48) [(0, 0), (1, 1), (2, 2), (3, 3), (4, 4)] (solve_Run_h.c6p a3 o28 r0 v45 v47 (0 : Int) v46 v47) (((solve_Run_h.c6_ok k a3 o28 r0 v45 v47 k (0 : Int) v46 v47).ap e56).triple) (finP trivial .normal [(0, 0), (1, 1), (2, 2), (3, 3), (4, 4)] (solve_Run_h.c5p a3 o28 r0 (iadd .i64 v45 (1 : Int)) o55.1 o55.2))) (by kernel_rfl)) ((solve_Run_h.c5_ok k a3 o28 r0 n (iadd .i64 v45 (1 : Int)) o55.1 o55.2).ap hy)) (fun e48 =>
   Owp.some (loop_exit (solve_Run_h.cok k) hmix [.dec false] [] [(0, 0), (1, 1), (2, 2), (3, 3), (4, 4)] (exne 6) (via (finP (And.intro trivial e48) (.exit 6) [(0, 0), (1, 1), (2, 2), (3, 3), (4, 4)] (solve_Run_h.c5q o28 r0 (v46, v47))) (by kernel_rfl)))))
@[irreducible] noncomputable def solve_Run_h.P (k : Nat) (a1 : (List V78)) (a2 : Int) (a3 : Int) (r0 : (List V25)) (y : ((List V25) × ((List V78) × Int))) (answers : List Ans) (cmds : List Cmd) : Prop := exec PR (solve_Run_h.cx k) solve_Run_h.code 1 (entryH (solve_Run_h.h k) (a1, a2, a3, r0, ())).st answers (RetH (solve_Run_h.cx k) Try.f58 cmds (solve_Run_h.h k) (a1, a2, a3, r0, ()) y)
theorem solve_Run_h.way (k : Nat) (a1 : (List V78)) (a2 : Int) (a3 : Int) (r0 : (List V25)) : Owp (solve_Run_h k a1 a2 a3 r0) fun y => ∃ answers cmds, solve_Run_h.P k a1 a2 a3 r0 y answers cmds := by
  unfold solve_Run_h; exact
   Owp.bnd fun y1 e2 =>
   Owp.bif (fun e3 =>
   Owp.some (⟨[.res (.one (.dp T2)) y1, .dec true], [.deep 8 T25, .deep 9 T78], via (rethP (And.intro (And.intro trivial e2) e3) [(0, .row T25 r0 26)] (.more (.dp (.slice T25)) (.more (.dp (.slice T78)) (.one (.dp T2)))) (([], [], y1) : ((List V25) × ((List V78) × Int)))) (by kernel_rfl)⟩)) (fun e3 =>
   Owp.bnd fun o7 e8 =>
    Owp.bif (fun e9 =>
    Owp.some (⟨[.res (.one (.dp T2)) y1, .dec false, .cutR 4 ⟨[], [(0, 0)], (solve_Run_h.c1p a1 a2 a3 r0), 1, .normal, (solve_Run_h.c1q a1 a2 a3 r0 o7), 1⟩, .dec true], [.deep 8 T25, .deep 9 T78], via (cutP (And.intro (And.intro trivial e2) e3) [(0, 0)] (solve_Run_h.c1p a1 a2 a3 r0) (((solve_Run_h.c1_ok k a1 a2 a3 r0).ap e8)) (rethP (And.intro trivial e9) [(0, .row T25 r0 26)] (.more (.dp (.slice T25)) (.more (.dp (.slice T78)) (.one (.dp T2)))) (([], [], (1 : Int)) : ((List V25) × ((List V78) × Int))))) (by kernel_rfl)⟩)) (fun e9 =>
    Owp.bnd fun y10 e11 =>
     Owp.bnd fun o19 e20 =>
     Owp.bnd fun o28 e29 =>
     Owp.bnd fun o43 e44 =>
     Owp.bnd fun o57 e58 =>
     Owp.some (⟨[.res (.one (.dp T2)) y1, .dec false, .cutR 4 ⟨[], [(0, 0)], (solve_Run_h.c1p a1 a2 a3 r0), 1, .normal, (solve_Run_h.c1q a1 a2 a3 r0 o7), 1⟩, .dec false, .res (.one (.ow T78 79)) y10, .cut ⟨[.ownF 4 0 T25 26], [(0, 0), (1, 4), (2, 9), (3, 2)], (solve_Run_h.c2p a2 a3 r0 y10 (0 : Int) []), 4, (.exit 0), (solve_Run_h.c2q a2 a3 r0 y10 o19), 4⟩, .cut ⟨[.ownF 1 2 T145 146], [(0, 0), (1, 1), (2, 3), (3, 2), (4, 10)], (solve_Run_h.c3p a2 a3 o19 r0 y10 (0 : Int) []), 5, (.exit 2), (solve_Run_h.c3q a3 o19 r0 y10 o28), 5⟩, .cut ⟨[], [(0, 0), (1, 1), (2, 3), (3, 2), (4, 4)], (solve_Run_h.c4p a3 o28 r0 y10 (0 : Int) o19), 5, (.exit 4), (solve_Run_h.c4q a3 o28 r0 y10 o43), 5⟩, .cut ⟨[], [(0, 0), (1, 1), (2, 2), (3, 3), (4, 4)], (solve_Run_h.c5p a3 o28 r0 (0 : Int) o43 y10), 5, (.exit 6), (solve_Run_h.c5q o28 r0 o57), 5⟩], [.freeze 8, .freeze 9], via (cutP (And.intro (And.intro trivial e2) e3) [(0, 0)] (solve_Run_h.c1p a1 a2 a3 r0) (((solve_Run_h.c1_ok k a1 a2 a3 r0).ap e8)) (cutP (And.intro (And.intro trivial e9) e11) [(0, 0), (1, 4), (2, 9), (3, 2)] (solve_Run_h.c2p a2 a3 r0 y10 (0 : Int) []) (((solve_Run_h.c2_ok k a2 a3 r0 y10 k (0 : Int) []).ap e20).triple) (cutP trivial [(0, 0), (1, 1), (2, 3), (3, 2), (4, 10)] (solve_Run_h.c3p a2 a3 o19 r0 y10 (0 : Int) []) (((solve_Run_h.c3_ok k a2 a3 o19 r0 y10 k (0 : Int) []).ap e29).triple) (cutP trivial [(0, 0), (1, 1), (2, 3), (3, 2), (4, 4)] (solve_Run_h.c4p a3 o28 r0 y10 (0 : Int) o19) (((solve_Run_h.c4_ok k a3 o28 r0 y10 k (0 : Int) o19).ap e44).triple) (cutP trivial [(0, 0), (1, 1), (2, 2), (3, 3), (4, 4)] (solve_Run_h.c5p a3 o28 r0 (0 : Int) o43 y10) (((solve_Run_h.c5_ok k a3 o28 r0 k (0 : Int) o43 y10).ap e58).triple) (rethP trivial [(0, .row T25 r0 26)] (.more (.dp (.slice T25)) (.more (.dp (.slice T78)) (.one (.dp T2)))) ((o57.1, o57.2, (0 : Int)) : ((List V25) × ((List V78) × Int))))))))) (by kernel_rfl)⟩)))
theorem solve_Run_h.ok (k : Nat) : HOk PR 58 (solve_Run_h.h k) :=
  fnH_ok (solve_Run_h.cok k) hmix Try.func58 (code := solve_Run_h.code) (by kernel_rfl) (by kernel_rfl) (by kernel_rfl) (by kernel_rfl) (by kernel_rfl) (fun x => Nat.le_of_ble_eq_true (by kernel_rfl)) fun x y hy => match (solve_Run_h.way k x.1 x.2.1 x.2.2.1 x.2.2.2.1).ap hy with | ⟨ans, cmds, h⟩ => ⟨ans, cmds, via h (by kernel_rfl)⟩

/-! tourney/tourlaw2.solveBegun -/
noncomputable def tourlaw2_solveBegun.code : Code := Func.cd Try.f74
def tourlaw2_solveBegun (k : Nat) : Option Bool :=
  bnd (tourlaw2_block k 0 0 false) fun y1 =>
  bnd (tourlaw2_block k 0 2 true) fun y3 =>
  req (inL 1 [y1, y3]) <|
  bnd (solve_Run_h k [(0, 1, 0, (0, 65536, ()), (0, 65536, ()), 0, 0, 0, ())] 8192 1 (st [y1, y3] 1 ((el Z25 [y1, y3] 1).1, ((el Z25 [y1, y3] 1).2.1.1, (-131072), ()), (el Z25 [y1, y3] 1).2.2))) fun y6 =>
  bif' (ieq y6.2.2 0)
  (bif' (ieq (len y6.1) 2)
   (bif' (ieq (len y6.2.1) 1)
    (req (inL 1 y6.1) <|
     bif' (Ty.eqb T22 (el Z25 y6.1 (1 : Int)).2.1 ((0 : Int), (0 : Int), ()))
     (req (inL 0 y6.2.1) <|
      some (ieq (el Z78 y6.2.1 0).2.2.2.2.2.2.1 131072))
     (some false))
    (some false))
   (some false))
  (some false)
noncomputable def tourlaw2_solveBegun.sp (k : Nat) : Go.Sx.Spec := ⟨.unit, (.one (.dp T4)), fun x => tourlaw2_solveBegun k, false⟩
noncomputable def tourlaw2_solveBegun.cx (k : Nat) : Go.Sx.Ctx := ⟨tys, [(118, tourlaw2_block.sp k)], eqs, 49, 0, [(58, solve_Run_h.h k)], false⟩
theorem tourlaw2_solveBegun.cok (k : Nat) : CtxOk PR (tourlaw2_solveBegun.cx k) := ctx_ok tysOk eqsOk (FnsOk.cons (tourlaw2_block.ok k) FnsOk.nil) (HsOk.cons (solve_Run_h.ok k) HsOk.nil)
theorem tourlaw2_solveBegun.way (k : Nat) : Owp (tourlaw2_solveBegun k) fun y => ∃ answers cmds, exec PR (tourlaw2_solveBegun.cx k) tourlaw2_solveBegun.code 0 (entry .unit ()).st answers (Ret (tourlaw2_solveBegun.cx k) Try.f74 cmds (.one (.dp T4)) y) := by
  unfold tourlaw2_solveBegun; exact
   Owp.bnd fun y1 e2 =>
   Owp.bnd fun y3 e4 =>
   Owp.req fun h5 =>
   Owp.bnd fun y6 e7 =>
   Owp.bif (fun e8 =>
   Owp.bif (fun e9 =>
    Owp.bif (fun e10 =>
     Owp.req fun h11 =>
      Owp.bif (fun e12 =>
      Owp.req fun h13 =>
       Owp.some (⟨[.res (.one (.dp T25)) y1, .res (.one (.dp T25)) y3, .dec true, .dec false, .hres [(0, 3)] (.pair (.slice T78) (.pair T2 (.pair T2 (.pair (.slice T25) .unit)))) ([((0 : Int), (1 : Int), (0 : Int), ((0 : Int), (65536 : Int), ()), ((0 : Int), (65536 : Int), ()), (0 : Int), (0 : Int), (0 : Int), ())], (8192 : Int), (1 : Int), (st [y1, y3] (1 : Int) ((el Z25 [y1, y3] (1 : Int)).1, ((el Z25 [y1, y3] (1 : Int)).2.1.1, (-131072 : Int), ()), (el Z25 [y1, y3] (1 : Int)).2.2)), ()) (.pair (.slice T25) (.pair (.slice T78) T2)) y6, .dec true, .dec true, .dec true, .dec true, .dec true, .dec true, .dec true, .dec true, .dec true, .dec true, .dec true, .dec true, .dec true, .dec true, .dec true, .dec true, .dec true, .dec true, .dec true, .dec true, .dec true], [], via (retP (And.intro (And.intro (And.intro (And.intro (And.intro (And.intro (And.intro (And.intro (And.intro (And.intro (And.intro (And.intro (And.intro (And.intro (And.intro (And.intro (And.intro (And.intro (And.intro (And.intro (And.intro (And.intro (And.intro (And.intro (And.intro (And.intro trivial e2) e4) h5) h5) (callHP (solve_Run_h.h k) [(0, 3)] ([((0 : Int), (1 : Int), (0 : Int), ((0 : Int), (65536 : Int), ()), ((0 : Int), (65536 : Int), ()), (0 : Int), (0 : Int), (0 : Int), ())], (8192 : Int), (1 : Int), (st [y1, y3] (1 : Int) ((el Z25 [y1, y3] (1 : Int)).1, ((el Z25 [y1, y3] (1 : Int)).2.1.1, (-131072 : Int), ()), (el Z25 [y1, y3] (1 : Int)).2.2)), ()) e7)) e8) e8) e8) e8) e9) e9) e9) e9) e10) (And.intro e10 h11)) e10) e10) e10) e10) e10) e12) (And.intro e12 h13)) e12) e12) e12) e12) (.one (.dp T4)) ((ieq (el Z78 y6.2.1 (0 : Int)).2.2.2.2.2.2.1 (131072 : Int)) : Bool)) (by kernel_rfl)⟩)) (fun e12 =>
      Owp.some (⟨[.res (.one (.dp T25)) y1, .res (.one (.dp T25)) y3, .dec true, .dec false, .hres [(0, 3)] (.pair (.slice T78) (.pair T2 (.pair T2 (.pair (.slice T25) .unit)))) ([((0 : Int), (1 : Int), (0 : Int), ((0 : Int), (65536 : Int), ()), ((0 : Int), (65536 : Int), ()), (0 : Int), (0 : Int), (0 : Int), ())], (8192 : Int), (1 : Int), (st [y1, y3] (1 : Int) ((el Z25 [y1, y3] (1 : Int)).1, ((el Z25 [y1, y3] (1 : Int)).2.1.1, (-131072 : Int), ()), (el Z25 [y1, y3] (1 : Int)).2.2)), ()) (.pair (.slice T25) (.pair (.slice T78) T2)) y6, .dec true, .dec true, .dec true, .dec true, .dec true, .dec true, .dec true, .dec true, .dec true, .dec true, .dec true, .dec true, .dec true, .dec true, .dec true, .dec false, .dec false, .dec false, .dec false, .dec false, .dec false], [], via (retP (And.intro (And.intro (And.intro (And.intro (And.intro (And.intro (And.intro (And.intro (And.intro (And.intro (And.intro (And.intro (And.intro (And.intro (And.intro (And.intro (And.intro (And.intro (And.intro (And.intro (And.intro (And.intro (And.intro (And.intro (And.intro (And.intro trivial e2) e4) h5) h5) (callHP (solve_Run_h.h k) [(0, 3)] ([((0 : Int), (1 : Int), (0 : Int), ((0 : Int), (65536 : Int), ()), ((0 : Int), (65536 : Int), ()), (0 : Int), (0 : Int), (0 : Int), ())], (8192 : Int), (1 : Int), (st [y1, y3] (1 : Int) ((el Z25 [y1, y3] (1 : Int)).1, ((el Z25 [y1, y3] (1 : Int)).2.1.1, (-131072 : Int), ()), (el Z25 [y1, y3] (1 : Int)).2.2)), ()) e7)) e8) e8) e8) e8) e9) e9) e9) e9) e10) (And.intro e10 h11)) e10) e10) e10) e10) e10) e12) e12) e12) e12) e12) e12) (.one (.dp T4)) (false : Bool)) (by kernel_rfl)⟩))) (fun e10 =>
     Owp.some (⟨[.res (.one (.dp T25)) y1, .res (.one (.dp T25)) y3, .dec true, .dec false, .hres [(0, 3)] (.pair (.slice T78) (.pair T2 (.pair T2 (.pair (.slice T25) .unit)))) ([((0 : Int), (1 : Int), (0 : Int), ((0 : Int), (65536 : Int), ()), ((0 : Int), (65536 : Int), ()), (0 : Int), (0 : Int), (0 : Int), ())], (8192 : Int), (1 : Int), (st [y1, y3] (1 : Int) ((el Z25 [y1, y3] (1 : Int)).1, ((el Z25 [y1, y3] (1 : Int)).2.1.1, (-131072 : Int), ()), (el Z25 [y1, y3] (1 : Int)).2.2)), ()) (.pair (.slice T25) (.pair (.slice T78) T2)) y6, .dec true, .dec true, .dec true, .dec true, .dec true, .dec true, .dec true, .dec true, .dec false, .dec false, .dec false, .dec false, .dec false, .dec false, .dec false, .dec false, .dec false, .dec false, .dec false, .dec false, .dec false], [], via (retP (And.intro (And.intro (And.intro (And.intro (And.intro (And.intro (And.intro (And.intro (And.intro (And.intro (And.intro (And.intro (And.intro (And.intro (And.intro (And.intro (And.intro (And.intro (And.intro (And.intro (And.intro (And.intro (And.intro (And.intro (And.intro (And.intro trivial e2) e4) h5) h5) (callHP (solve_Run_h.h k) [(0, 3)] ([((0 : Int), (1 : Int), (0 : Int), ((0 : Int), (65536 : Int), ()), ((0 : Int), (65536 : Int), ()), (0 : Int), (0 : Int), (0 : Int), ())], (8192 : Int), (1 : Int), (st [y1, y3] (1 : Int) ((el Z25 [y1, y3] (1 : Int)).1, ((el Z25 [y1, y3] (1 : Int)).2.1.1, (-131072 : Int), ()), (el Z25 [y1, y3] (1 : Int)).2.2)), ()) e7)) e8) e8) e8) e8) e9) e9) e9) e9) e10) e10) e10) e10) e10) e10) e10) ff) ff) ff) ff) ff) ff) (.one (.dp T4)) (false : Bool)) (by kernel_rfl)⟩))) (fun e9 =>
    Owp.some (⟨[.res (.one (.dp T25)) y1, .res (.one (.dp T25)) y3, .dec true, .dec false, .hres [(0, 3)] (.pair (.slice T78) (.pair T2 (.pair T2 (.pair (.slice T25) .unit)))) ([((0 : Int), (1 : Int), (0 : Int), ((0 : Int), (65536 : Int), ()), ((0 : Int), (65536 : Int), ()), (0 : Int), (0 : Int), (0 : Int), ())], (8192 : Int), (1 : Int), (st [y1, y3] (1 : Int) ((el Z25 [y1, y3] (1 : Int)).1, ((el Z25 [y1, y3] (1 : Int)).2.1.1, (-131072 : Int), ()), (el Z25 [y1, y3] (1 : Int)).2.2)), ()) (.pair (.slice T25) (.pair (.slice T78) T2)) y6, .dec true, .dec true, .dec true, .dec true, .dec false, .dec false, .dec false, .dec false, .dec false, .dec false, .dec false, .dec false, .dec false, .dec false, .dec false, .dec false, .dec false, .dec false, .dec false, .dec false, .dec false], [], via (retP (And.intro (And.intro (And.intro (And.intro (And.intro (And.intro (And.intro (And.intro (And.intro (And.intro (And.intro (And.intro (And.intro (And.intro (And.intro (And.intro (And.intro (And.intro (And.intro (And.intro (And.intro (And.intro (And.intro (And.intro (And.intro (And.intro trivial e2) e4) h5) h5) (callHP (solve_Run_h.h k) [(0, 3)] ([((0 : Int), (1 : Int), (0 : Int), ((0 : Int), (65536 : Int), ()), ((0 : Int), (65536 : Int), ()), (0 : Int), (0 : Int), (0 : Int), ())], (8192 : Int), (1 : Int), (st [y1, y3] (1 : Int) ((el Z25 [y1, y3] (1 : Int)).1, ((el Z25 [y1, y3] (1 : Int)).2.1.1, (-131072 : Int), ()), (el Z25 [y1, y3] (1 : Int)).2.2)), ()) e7)) e8) e8) e8) e8) e9) e9) e9) e9) ff) ff) ff) ff) ff) ff) ff) ff) ff) ff) ff) ff) ff) (.one (.dp T4)) (false : Bool)) (by kernel_rfl)⟩))) (fun e8 =>
   Owp.some (⟨[.res (.one (.dp T25)) y1, .res (.one (.dp T25)) y3, .dec true, .dec false, .hres [(0, 3)] (.pair (.slice T78) (.pair T2 (.pair T2 (.pair (.slice T25) .unit)))) ([((0 : Int), (1 : Int), (0 : Int), ((0 : Int), (65536 : Int), ()), ((0 : Int), (65536 : Int), ()), (0 : Int), (0 : Int), (0 : Int), ())], (8192 : Int), (1 : Int), (st [y1, y3] (1 : Int) ((el Z25 [y1, y3] (1 : Int)).1, ((el Z25 [y1, y3] (1 : Int)).2.1.1, (-131072 : Int), ()), (el Z25 [y1, y3] (1 : Int)).2.2)), ()) (.pair (.slice T25) (.pair (.slice T78) T2)) y6, .dec false, .dec false, .dec false, .dec false, .dec false, .dec false, .dec false, .dec false, .dec false, .dec false, .dec false, .dec false, .dec false, .dec false, .dec false, .dec false, .dec false, .dec false, .dec false, .dec false, .dec false], [], via (retP (And.intro (And.intro (And.intro (And.intro (And.intro (And.intro (And.intro (And.intro (And.intro (And.intro (And.intro (And.intro (And.intro (And.intro (And.intro (And.intro (And.intro (And.intro (And.intro (And.intro (And.intro (And.intro (And.intro (And.intro (And.intro (And.intro trivial e2) e4) h5) h5) (callHP (solve_Run_h.h k) [(0, 3)] ([((0 : Int), (1 : Int), (0 : Int), ((0 : Int), (65536 : Int), ()), ((0 : Int), (65536 : Int), ()), (0 : Int), (0 : Int), (0 : Int), ())], (8192 : Int), (1 : Int), (st [y1, y3] (1 : Int) ((el Z25 [y1, y3] (1 : Int)).1, ((el Z25 [y1, y3] (1 : Int)).2.1.1, (-131072 : Int), ()), (el Z25 [y1, y3] (1 : Int)).2.2)), ()) e7)) e8) e8) e8) e8) ff) ff) ff) ff) ff) ff) ff) ff) ff) ff) ff) ff) ff) ff) ff) ff) ff) (.one (.dp T4)) (false : Bool)) (by kernel_rfl)⟩))
theorem tourlaw2_solveBegun.ok (k : Nat) : FnOk PR 74 (tourlaw2_solveBegun.sp k) :=
  fn_ok (tourlaw2_solveBegun.cok k) hmix Try.func74 (code := tourlaw2_solveBegun.code) (by kernel_rfl) (by kernel_rfl) (by kernel_rfl) rfl rfl (by kernel_rfl) (by kernel_rfl) (by kernel_rfl) (fun x => Nat.le_of_ble_eq_true (by kernel_rfl)) fun x y hy => (tourlaw2_solveBegun.way k).ap hy

/-! tourney/tourref2.Contacts -/
noncomputable def tourref2_Contacts.code : Code := Func.cd Try.f75
def tourref2_Contacts.c2 (k : Nat) (a0 : (List V25)) (a1 : (List V78)) (v5 : Int) : Option (Bool) :=
  bif' (ige (el Z78 a1 v5).1 0)
  (bif' (ilt (el Z78 a1 v5).1 (el Z78 a1 v5).2.1)
   (bif' (ilt (el Z78 a1 v5).2.1 (len a0))
    (some (ige (el Z78 a1 v5).2.2.1 0))
    (some false))
   (some false))
  (some false)
def tourref2_Contacts.c3 (k : Nat) (a1 : (List V78)) (o11 : Bool) (v5 : Int) : Option (Bool) :=
  bif' o11
  (bnd (tourref2_coord k (el Z78 a1 v5).2.2.2.1 65536000) fun y14 =>
   bif' y14
   (bnd (tourref2_coord k (el Z78 a1 v5).2.2.2.2.1 65536) fun y17 =>
    some y17)
   (some false))
  (some false)
def tourref2_Contacts.c4 (k : Nat) (a1 : (List V78)) (o19 : Bool) (v5 : Int) : Option (Bool) :=
  bif' o19
  (bnd (tourref2_between k (el Z78 a1 v5).2.2.2.2.2.1 0 65536000) fun y22 =>
   bif' y22
   (bnd (tourref2_between k (el Z78 a1 v5).2.2.2.2.2.2.1 0 1099511627776) fun y25 =>
    bif' y25
    (bnd (tourref2_between k (el Z78 a1 v5).2.2.2.2.2.2.2.1 (-1099511627776) 1099511627776) fun y28 =>
     some y28)
    (some false))
   (some false))
  (some false)
def tourref2_Contacts.c1 (k : Nat) (a0 : (List V25)) (a1 : (List V78)) : Nat → Int → Option (Unit ⊕ Unit)
  | 0, _ => none
  | n + 1, v5 =>
   bif' (ilt v5 (len a1))
   (req (inL v5 a1) <|
    bnd (tourref2_Contacts.c2 k a0 a1 v5) fun o11 =>
    bnd (tourref2_Contacts.c3 k a1 o11 v5) fun o19 =>
    bnd (tourref2_Contacts.c4 k a1 o19 v5) fun o30 =>
    bif' o30
    (tourref2_Contacts.c1 k a0 a1 n (iadd .i64 v5 1))
    (some (.inl ())))
   (some (.inr ()))
def tourref2_Contacts (k : Nat) (a0 : (List V25)) (a1 : (List V78)) : Option Int :=
  bnd (tourref2_Bodies k a0) fun y1 =>
  bif' (ine y1 0)
  (some y1)
  (bif' (igt (len a1) 4096)
   (some 2)
   (bnd (tourref2_Contacts.c1 k a0 a1 k 0) fun o33 =>
    two o33 (fun y35 =>
    some 1) (fun y37 =>
    some 0)))
noncomputable def tourref2_Contacts.sp (k : Nat) : Go.Sx.Spec := ⟨(.pair (.slice T25) (.pair (.slice T78) .unit)), (.one (.dp T2)), fun x => tourref2_Contacts k x.1 x.2.1, false⟩
noncomputable def tourref2_Contacts.cx (k : Nat) : Go.Sx.Ctx := ⟨tys, [(51, tourref2_Bodies.sp k), (87, tourref2_coord.sp k), (88, tourref2_between.sp k)], eqs, 75, 0, [], false⟩
theorem tourref2_Contacts.cok (k : Nat) : CtxOk PR (tourref2_Contacts.cx k) := ctx_ok tysOk eqsOk (FnsOk.cons (tourref2_Bodies.ok k) (FnsOk.cons (tourref2_coord.ok k) (FnsOk.cons (tourref2_between.ok k) FnsOk.nil))) HsOk.nil
noncomputable def tourref2_Contacts.c2p (a0 : (List V25)) (a1 : (List V78)) (v5 : Int) : SL := ⟨[(0, (.val (.slice T25) a0)), (7, (.val .ptr ⟨0, 0, (0 : Int), 0, 0⟩)), (17, (.val (.slice T78) a1)), (18, (.val T2 (len a1))), (19, (.val T2 v5))], [(0, .cells T78 (el Z78 a1 v5))]⟩
noncomputable def tourref2_Contacts.c2q (a0 : (List V25)) (a1 : (List V78)) (v5 : Int) (o : Bool) : SL := (fun v => ⟨[(0, (.val (.slice T25) a0)), (7, (.val .ptr ⟨0, 0, (0 : Int), 0, 0⟩)), (8, (.val T4 v)), (17, (.val (.slice T78) a1)), (18, (.val T2 (len a1))), (19, (.val T2 v5))], [(0, .cells T78 (el Z78 a1 v5))]⟩) o
noncomputable def tourref2_Contacts.c2x (o : Bool) : Ex := (fun _ => .normal) o
noncomputable def tourref2_Contacts.c2n (o : Bool) : Nat := (fun _ => 1) o
theorem tourref2_Contacts.c2_ok (k : Nat) (a0 : (List V25)) (a1 : (List V78)) (v5 : Int) : Owp (tourref2_Contacts.c2 k a0 a1 v5) fun o => Triple PR (tourref2_Contacts.cx k) (sub tourref2_Contacts.code [1, 1, 1, 0, 1, 0, 0, 1, 1, 0, 0, 1, 0]) 1 (tourref2_Contacts.c2p a0 a1 v5) (tourref2_Contacts.c2x o) (tourref2_Contacts.c2n o) (tourref2_Contacts.c2q a0 a1 v5 o) := by
  unfold tourref2_Contacts.c2; exact
   Owp.bif (fun e8 =>
   Owp.bif (fun e9 =>
    Owp.bif (fun e10 =>
     Owp.some (triple_way (tourref2_Contacts.cok k) hmix [.dec true, .dec true, .dec true, .dec true, .dec true, .dec true, .dec true, .dec true, .dec true, .dec true, .dec true, .dec true, .dec true, .dec true, .dec true, .dec true] [] [(0, 0)] (via (finP (And.intro (And.intro (And.intro (And.intro (And.intro (And.intro (And.intro (And.intro (And.intro (And.intro (And.intro (And.intro (And.intro (And.intro (And.intro (And.intro trivial e8) e8) e8) e8) e8) e8) e9) e9) e9) e9) e9) e9) e10) e10) e10) e10) .normal [(0, 0)] (tourref2_Contacts.c2q a0 a1 v5 (ige (el Z78 a1 v5).2.2.1 (0 : Int)))) (by kernel_rfl)))) (fun e10 =>
     Owp.some (triple_way (tourref2_Contacts.cok k) hmix [.dec true, .dec true, .dec true, .dec true, .dec true, .dec true, .dec true, .dec true, .dec true, .dec true, .dec true, .dec true, .dec false, .dec false, .dec false, .dec false] [] [(0, 0)] (via (finP (And.intro (And.intro (And.intro (And.intro (And.intro (And.intro (And.intro (And.intro (And.intro (And.intro (And.intro (And.intro (And.intro (And.intro (And.intro (And.intro trivial e8) e8) e8) e8) e8) e8) e9) e9) e9) e9) e9) e9) e10) e10) e10) e10) .normal [(0, 0)] (tourref2_Contacts.c2q a0 a1 v5 false)) (by kernel_rfl))))) (fun e9 =>
    Owp.some (triple_way (tourref2_Contacts.cok k) hmix [.dec true, .dec true, .dec true, .dec true, .dec true, .dec true, .dec false, .dec false, .dec false, .dec false, .dec false, .dec false, .dec false, .dec false, .dec false, .dec false] [] [(0, 0)] (via (finP (And.intro (And.intro (And.intro (And.intro (And.intro (And.intro (And.intro (And.intro (And.intro (And.intro (And.intro (And.intro (And.intro (And.intro (And.intro (And.intro trivial e8) e8) e8) e8) e8) e8) e9) e9) e9) e9) e9) e9) ff) ff) ff) ff) .normal [(0, 0)] (tourref2_Contacts.c2q a0 a1 v5 false)) (by kernel_rfl))))) (fun e8 =>
   Owp.some (triple_way (tourref2_Contacts.cok k) hmix [.dec false, .dec false, .dec false, .dec false, .dec false, .dec false, .dec false, .dec false, .dec false, .dec false, .dec false, .dec false, .dec false, .dec false, .dec false, .dec false] [] [(0, 0)] (via (finP (And.intro (And.intro (And.intro (And.intro (And.intro (And.intro (And.intro (And.intro (And.intro (And.intro (And.intro (And.intro (And.intro (And.intro (And.intro (And.intro trivial e8) e8) e8) e8) e8) e8) ff) ff) ff) ff) ff) ff) ff) ff) ff) ff) .normal [(0, 0)] (tourref2_Contacts.c2q a0 a1 v5 false)) (by kernel_rfl))))
noncomputable def tourref2_Contacts.c3p (a0 : (List V25)) (a1 : (List V78)) (o11 : Bool) (v5 : Int) : SL := ⟨[(0, (.val (.slice T25) a0)), (7, (.val .ptr ⟨0, 0, (0 : Int), 0, 0⟩)), (8, (.val T4 o11)), (17, (.val (.slice T78) a1)), (18, (.val T2 (len a1))), (19, (.val T2 v5))], [(0, .cells T78 (el Z78 a1 v5))]⟩
noncomputable def tourref2_Contacts.c3q (a0 : (List V25)) (a1 : (List V78)) (v5 : Int) (o : Bool) : SL := (fun v => ⟨[(0, (.val (.slice T25) a0)), (7, (.val .ptr ⟨0, 0, (0 : Int), 0, 0⟩)), (8, (.val T4 v)), (17, (.val (.slice T78) a1)), (18, (.val T2 (len a1))), (19, (.val T2 v5))], [(0, .cells T78 (el Z78 a1 v5))]⟩) o
noncomputable def tourref2_Contacts.c3x (o : Bool) : Ex := (fun _ => .normal) o
noncomputable def tourref2_Contacts.c3n (o : Bool) : Nat := (fun _ => 1) o
theorem tourref2_Contacts.c3_ok (k : Nat) (a0 : (List V25)) (a1 : (List V78)) (o11 : Bool) (v5 : Int) : Owp (tourref2_Contacts.c3 k a1 o11 v5) fun o => Triple PR (tourref2_Contacts.cx k) (sub tourref2_Contacts.code [1, 1, 1, 0, 1, 0, 0, 1, 1, 0, 0, 1, 1, 0]) 1 (tourref2_Contacts.c3p a0 a1 o11 v5) (tourref2_Contacts.c3x o) (tourref2_Contacts.c3n o) (tourref2_Contacts.c3q a0 a1 v5 o) := by
  unfold tourref2_Contacts.c3; exact
   Owp.bif (fun e13 =>
   Owp.bnd fun y14 e15 =>
    Owp.bif (fun e16 =>
    Owp.bnd fun y17 e18 =>
     Owp.some (triple_way (tourref2_Contacts.cok k) hmix [.dec true, .dec true, .dec true, .res (.one (.dp T4)) y14, .dec true, .dec true, .dec true, .dec true, .res (.one (.dp T4)) y17, .dec true] [] [(0, 0)] (via (finP (And.intro (And.intro (And.intro (And.intro (And.intro (And.intro (And.intro (And.intro trivial e13) e13) (And.intro e13 e15)) e13) e16) e16) (And.intro e16 e18)) e16) .normal [(0, 0)] (tourref2_Contacts.c3q a0 a1 v5 y17)) (by kernel_rfl)))) (fun e16 =>
    Owp.some (triple_way (tourref2_Contacts.cok k) hmix [.dec true, .dec true, .dec true, .res (.one (.dp T4)) y14, .dec true, .dec false, .dec false, .dec false, .dec true, .dec false] [] [(0, 0)] (via (finP (And.intro (And.intro (And.intro (And.intro (And.intro (And.intro (And.intro (And.intro trivial e13) e13) (And.intro e13 e15)) e13) e16) e16) e16) e16) .normal [(0, 0)] (tourref2_Contacts.c3q a0 a1 v5 false)) (by kernel_rfl))))) (fun e13 =>
   Owp.some (triple_way (tourref2_Contacts.cok k) hmix [.dec false, .dec false, .dec false, .dec true, .dec false, .dec false, .dec false, .dec false, .dec true, .dec false] [] [(0, 0)] (via (finP (And.intro (And.intro (And.intro (And.intro (And.intro (And.intro (And.intro (And.intro trivial e13) e13) e13) e13) ff) ff) ff) ff) .normal [(0, 0)] (tourref2_Contacts.c3q a0 a1 v5 false)) (by kernel_rfl))))
noncomputable def tourref2_Contacts.c4p (a0 : (List V25)) (a1 : (List V78)) (o19 : Bool) (v5 : Int) : SL := ⟨[(0, (.val (.slice T25) a0)), (7, (.val .ptr ⟨0, 0, (0 : Int), 0, 0⟩)), (8, (.val T4 o19)), (17, (.val (.slice T78) a1)), (18, (.val T2 (len a1))), (19, (.val T2 v5))], [(0, .cells T78 (el Z78 a1 v5))]⟩
noncomputable def tourref2_Contacts.c4q (a0 : (List V25)) (a1 : (List V78)) (v5 : Int) (o : Bool) : SL := (fun v => ⟨[(0, (.val (.slice T25) a0)), (8, (.val T4 v)), (17, (.val (.slice T78) a1)), (18, (.val T2 (len a1))), (19, (.val T2 v5))], []⟩) o
noncomputable def tourref2_Contacts.c4x (o : Bool) : Ex := (fun _ => .normal) o
noncomputable def tourref2_Contacts.c4n (o : Bool) : Nat := (fun _ => 0) o
theorem tourref2_Contacts.c4_ok (k : Nat) (a0 : (List V25)) (a1 : (List V78)) (o19 : Bool) (v5 : Int) : Owp (tourref2_Contacts.c4 k a1 o19 v5) fun o => Triple PR (tourref2_Contacts.cx k) (sub tourref2_Contacts.code [1, 1, 1, 0, 1, 0, 0, 1, 1, 0, 0, 1, 1, 1, 0]) 1 (tourref2_Contacts.c4p a0 a1 o19 v5) (tourref2_Contacts.c4x o) (tourref2_Contacts.c4n o) (tourref2_Contacts.c4q a0 a1 v5 o) := by
  unfold tourref2_Contacts.c4; exact
   Owp.bif (fun e21 =>
   Owp.bnd fun y22 e23 =>
    Owp.bif (fun e24 =>
    Owp.bnd fun y25 e26 =>
     Owp.bif (fun e27 =>
     Owp.bnd fun y28 e29 =>
      Owp.some (triple_way (tourref2_Contacts.cok k) hmix [.dec true, .dec true, .dec true, .res (.one (.dp T4)) y22, .dec true, .dec true, .dec true, .dec true, .res (.one (.dp T4)) y25, .dec true, .dec true, .dec true, .dec true, .res (.one (.dp T4)) y28, .dec true] [] [] (via (finP (And.intro (And.intro (And.intro (And.intro (And.intro (And.intro (And.intro (And.intro (And.intro (And.intro (And.intro (And.intro trivial e21) e21) (And.intro e21 e23)) e21) e24) e24) (And.intro e24 e26)) e24) e27) e27) (And.intro e27 e29)) e27) .normal [] (tourref2_Contacts.c4q a0 a1 v5 y28)) (by kernel_rfl)))) (fun e27 =>
     Owp.some (triple_way (tourref2_Contacts.cok k) hmix [.dec true, .dec true, .dec true, .res (.one (.dp T4)) y22, .dec true, .dec true, .dec true, .dec true, .res (.one (.dp T4)) y25, .dec true, .dec false, .dec false, .dec false, .dec true, .dec false] [] [] (via (finP (And.intro (And.intro (And.intro (And.intro (And.intro (And.intro (And.intro (And.intro (And.intro (And.intro (And.intro (And.intro trivial e21) e21) (And.intro e21 e23)) e21) e24) e24) (And.intro e24 e26)) e24) e27) e27) e27) e27) .normal [] (tourref2_Contacts.c4q a0 a1 v5 false)) (by kernel_rfl))))) (fun e24 =>
    Owp.some (triple_way (tourref2_Contacts.cok k) hmix [.dec true, .dec true, .dec true, .res (.one (.dp T4)) y22, .dec true, .dec false, .dec false, .dec false, .dec true, .dec false, .dec false, .dec false, .dec false, .dec true, .dec false] [] [] (via (finP (And.intro (And.intro (And.intro (And.intro (And.intro (And.intro (And.intro (And.intro (And.intro (And.intro (And.intro (And.intro trivial e21) e21) (And.intro e21 e23)) e21) e24) e24) e24) e24) ff) ff) ff) ff) .normal [] (tourref2_Contacts.c4q a0 a1 v5 false)) (by kernel_rfl))))) (fun e21 =>
   Owp.some (triple_way (tourref2_Contacts.cok k) hmix [.dec false, .dec false, .dec false, .dec true, .dec false, .dec false, .dec false, .dec false, .dec true, .dec false, .dec false, .dec false, .dec false, .dec true, .dec false] [] [] (via (finP (And.intro (And.intro (And.intro (And.intro (And.intro (And.intro (And.intro (And.intro (And.intro (And.intro (And.intro (And.intro trivial e21) e21) e21) e21) ff) ff) ff) ff) ff) ff) ff) ff) .normal [] (tourref2_Contacts.c4q a0 a1 v5 false)) (by kernel_rfl))))
noncomputable def tourref2_Contacts.c1p (a0 : (List V25)) (a1 : (List V78)) (v5 : Int) : SL := ⟨[(0, (.val (.slice T25) a0)), (17, (.val (.slice T78) a1)), (18, (.val T2 (len a1))), (19, (.val T2 v5))], []⟩
noncomputable def tourref2_Contacts.c1q (o : Unit ⊕ Unit) : SL := (fun o => two o (fun v => ⟨[(4, (.val T2 (1 : Int)))], []⟩) (fun v => ⟨[], []⟩)) o
noncomputable def tourref2_Contacts.c1x (o : Unit ⊕ Unit) : Ex := (fun o => two o (fun _ => .ret) (fun _ => (.exit 0))) o
noncomputable def tourref2_Contacts.c1n (o : Unit ⊕ Unit) : Nat := (fun o => two o (fun _ => 0) (fun _ => 0)) o
theorem tourref2_Contacts.c1_ok (k : Nat) (a0 : (List V25)) (a1 : (List V78)) : ∀ (n : Nat) (v5 : Int), Owp (tourref2_Contacts.c1 k a0 a1 n v5) fun o => LTriple PR (tourref2_Contacts.cx k) (sub tourref2_Contacts.code [1, 1, 1, 0, 1, 0, 0]) 0 (tourref2_Contacts.c1p a0 a1 v5) (tourref2_Contacts.c1x o) (tourref2_Contacts.c1n o) (tourref2_Contacts.c1q o)
  | 0, _ => fun _ h => nomatch h
  | n + 1, v5 => Owp.of (tourref2_Contacts.c1.eq_2 ..) (
   Owp.bif (fun e6 =>
   Owp.req fun h7 =>
    Owp.bnd fun o11 e12 =>
    Owp.bnd fun o19 e20 =>
    Owp.bnd fun o30 e31 =>
    Owp.bif (fun e32 =>
    fun y hy => loop_back (tourref2_Contacts.cok k) hmix 0 (tourref2_Contacts.c1p a0 a1 (iadd .i64 v5 (1 : Int))) [.dec true, .cutR 9 ⟨[], [(0, 3)], (tourref2_Contacts.c2p a0 a1 v5), 1, .normal, (tourref2_Contacts.c2q a0 a1 v5 o11), 1⟩, .cutR 10 ⟨[], [(0, 0)], (tourref2_Contacts.c3p a0 a1 o11 v5), 1, .normal, (tourref2_Contacts.c3q a0 a1 v5 o19), 1⟩, .cutR 11 ⟨[], [(0, 0)], (tourref2_Contacts.c4p a0 a1 o19 v5), 1, .normal, (tourref2_Contacts.c4q a0 a1 v5 o30), 0⟩, .dec false] [] [] (via (cutP (And.intro (And.intro trivial e6) h7) [(0, 3)] (tourref2_Contacts.c2p a0 a1 v5) (((tourref2_Contacts.c2_ok k a0 a1 v5).ap e12)) (cutP trivial [(0, 0)] (tourref2_Contacts.c3p a0 a1 o11 v5) (((tourref2_Contacts.c3_ok k a0 a1 o11 v5).ap e20)) (cutP trivial [(0, 0)] (tourref2_Contacts.c4p a0 a1 o19 v5) (((tourref2_Contacts.c4_ok k a0 a1 o19 v5).ap e31)) (finP (And.intro trivial (congrArg not e32)) .normal [] (tourref2_Contacts.c1p a0 a1 (iadd .i64 v5 (1 : Int))))))) (by kernel_rfl)) ((tourref2_Contacts.c1_ok k a0 a1 n (iadd .i64 v5 (1 : Int))).ap hy)) (fun e32 =>
    Owp.some (loop_exit (tourref2_Contacts.cok k) hmix [.dec true, .cutR 9 ⟨[], [(0, 3)], (tourref2_Contacts.c2p a0 a1 v5), 1, .normal, (tourref2_Contacts.c2q a0 a1 v5 o11), 1⟩, .cutR 10 ⟨[], [(0, 0)], (tourref2_Contacts.c3p a0 a1 o11 v5), 1, .normal, (tourref2_Contacts.c3q a0 a1 v5 o19), 1⟩, .cutR 11 ⟨[], [(0, 0)], (tourref2_Contacts.c4p a0 a1 o19 v5), 1, .normal, (tourref2_Contacts.c4q a0 a1 v5 o30), 0⟩, .dec true] [] [] exne_ret (via (cutP (And.intro (And.intro trivial e6) h7) [(0, 3)] (tourref2_Contacts.c2p a0 a1 v5) (((tourref2_Contacts.c2_ok k a0 a1 v5).ap e12)) (cutP trivial [(0, 0)] (tourref2_Contacts.c3p a0 a1 o11 v5) (((tourref2_Contacts.c3_ok k a0 a1 o11 v5).ap e20)) (cutP trivial [(0, 0)] (tourref2_Contacts.c4p a0 a1 o19 v5) (((tourref2_Contacts.c4_ok k a0 a1 o19 v5).ap e31)) (finP (And.intro trivial (congrArg not e32)) .ret [] (tourref2_Contacts.c1q (.inl ())))))) (by kernel_rfl))))) (fun e6 =>
   Owp.some (loop_exit (tourref2_Contacts.cok k) hmix [.dec false] [] [] (exne 0) (via (finP (And.intro trivial e6) (.exit 0) [] (tourref2_Contacts.c1q (.inr ()))) (by kernel_rfl)))))
theorem tourref2_Contacts.way (k : Nat) (a0 : (List V25)) (a1 : (List V78)) : Owp (tourref2_Contacts k a0 a1) fun y => ∃ answers cmds, exec PR (tourref2_Contacts.cx k) tourref2_Contacts.code 0 (entry (.pair (.slice T25) (.pair (.slice T78) .unit)) (a0, a1, ())).st answers (Ret (tourref2_Contacts.cx k) Try.f75 cmds (.one (.dp T2)) y) := by
  unfold tourref2_Contacts; exact
   Owp.bnd fun y1 e2 =>
   Owp.bif (fun e3 =>
   Owp.some (⟨[.res (.one (.dp T2)) y1, .dec true], [], via (retP (And.intro (And.intro trivial e2) e3) (.one (.dp T2)) (y1 : Int)) (by kernel_rfl)⟩)) (fun e3 =>
   Owp.bif (fun e4 =>
    Owp.some (⟨[.res (.one (.dp T2)) y1, .dec false, .dec true], [], via (retP (And.intro (And.intro (And.intro trivial e2) e3) e4) (.one (.dp T2)) ((2 : Int) : Int)) (by kernel_rfl)⟩)) (fun e4 =>
    Owp.bnd fun o33 e34 =>
     Owp.two (fun y35 e36 =>
     Owp.some (⟨[.res (.one (.dp T2)) y1, .dec false, .dec false, .cut ⟨[], [], (tourref2_Contacts.c1p a0 a1 (0 : Int)), 0, .ret, (tourref2_Contacts.c1q (.inl ())), 0⟩], [], via (cutP (And.intro (And.intro (And.intro trivial e2) e3) e4) [] (tourref2_Contacts.c1p a0 a1 (0 : Int)) (((tourref2_Contacts.c1_ok k a0 a1 k (0 : Int)).ap (e34.trans (congrArg some e36))).triple) (retP trivial (.one (.dp T2)) ((1 : Int) : Int))) (by kernel_rfl)⟩)) (fun y37 e38 =>
     Owp.some (⟨[.res (.one (.dp T2)) y1, .dec false, .dec false, .cut ⟨[], [], (tourref2_Contacts.c1p a0 a1 (0 : Int)), 0, (.exit 0), (tourref2_Contacts.c1q (.inr ())), 0⟩], [], via (cutP (And.intro (And.intro (And.intro trivial e2) e3) e4) [] (tourref2_Contacts.c1p a0 a1 (0 : Int)) (((tourref2_Contacts.c1_ok k a0 a1 k (0 : Int)).ap (e34.trans (congrArg some e38))).triple) (retP trivial (.one (.dp T2)) ((0 : Int) : Int))) (by kernel_rfl)⟩))))
theorem tourref2_Contacts.ok (k : Nat) : FnOk PR 75 (tourref2_Contacts.sp k) :=
  fn_ok (tourref2_Contacts.cok k) hmix Try.func75 (code := tourref2_Contacts.code) (by kernel_rfl) (by kernel_rfl) (by kernel_rfl) rfl rfl (by kernel_rfl) (by kernel_rfl) (by kernel_rfl) (fun x => Nat.le_of_ble_eq_true (by kernel_rfl)) fun x y hy => (tourref2_Contacts.way k x.1 x.2.1).ap hy

/-! tourney/tourref2.along -/
noncomputable def tourref2_along.code : Code := Func.cd Try.f154
def tourref2_along (k : Nat) (a0 : (List V25)) (a1 : Int) (a2 : Int) (a3 : V22) (a4 : V22) (a5 : V22) : Option Int :=
  req (inL a2 a0) <|
  bnd (tourref2_Speed k (el Z25 a0 a2) a4) fun y2 =>
  req (inL a1 a0) <|
  bnd (tourref2_Speed k (el Z25 a0 a1) a3) fun y5 =>
  bnd (vec_Sub k y2 y5) fun y7 =>
  bnd (vec_Dot k y7 a5) fun y9 =>
  some y9
noncomputable def tourref2_along.sp (k : Nat) : Go.Sx.Spec := ⟨(.pair (.slice T25) (.pair T2 (.pair T2 (.pair T22 T52)))), (.one (.dp T2)), fun x => tourref2_along k x.1 x.2.1 x.2.2.1 x.2.2.2.1 x.2.2.2.2.1 x.2.2.2.2.2.1, false⟩
noncomputable def tourref2_along.cx (k : Nat) : Go.Sx.Ctx := ⟨tys, [(22, tourref2_Speed.sp k), (83, vec_Sub.sp k), (182, vec_Dot.sp k)], eqs, 28, 0, [], false⟩
theorem tourref2_along.cok (k : Nat) : CtxOk PR (tourref2_along.cx k) := ctx_ok tysOk eqsOk (FnsOk.cons (tourref2_Speed.ok k) (FnsOk.cons (vec_Sub.ok k) (FnsOk.cons (vec_Dot.ok k) FnsOk.nil))) HsOk.nil
theorem tourref2_along.way (k : Nat) (a0 : (List V25)) (a1 : Int) (a2 : Int) (a3 : V22) (a4 : V22) (a5 : V22) : Owp (tourref2_along k a0 a1 a2 a3 a4 a5) fun y => ∃ answers cmds, exec PR (tourref2_along.cx k) tourref2_along.code 0 (entry (.pair (.slice T25) (.pair T2 (.pair T2 (.pair T22 T52)))) (a0, a1, a2, a3, a4, a5, ())).st answers (Ret (tourref2_along.cx k) Try.f154 cmds (.one (.dp T2)) y) := by
  unfold tourref2_along; exact
   Owp.req fun h1 =>
   Owp.bnd fun y2 e3 =>
   Owp.req fun h4 =>
   Owp.bnd fun y5 e6 =>
   Owp.bnd fun y7 e8 =>
   Owp.bnd fun y9 e10 =>
   Owp.some (⟨[.res (.one (.dp T22)) y2, .res (.one (.dp T22)) y5, .res (.one (.dp T22)) y7, .res (.one (.dp T2)) y9], [], via (retP (And.intro (And.intro (And.intro (And.intro (And.intro (And.intro trivial h1) e3) h4) e6) e8) e10) (.one (.dp T2)) (y9 : Int)) (by kernel_rfl)⟩)
theorem tourref2_along.ok (k : Nat) : FnOk PR 154 (tourref2_along.sp k) :=
  fn_ok (tourref2_along.cok k) hmix Try.func154 (code := tourref2_along.code) (by kernel_rfl) (by kernel_rfl) (by kernel_rfl) rfl rfl (by kernel_rfl) (by kernel_rfl) (by kernel_rfl) (fun x => Nat.le_of_ble_eq_true (by kernel_rfl)) fun x y hy => (tourref2_along.way k x.1 x.2.1 x.2.2.1 x.2.2.2.1 x.2.2.2.2.1 x.2.2.2.2.2.1).ap hy

/-! tourney/tourref2.pushed -/
noncomputable def tourref2_pushed.code : Code := Func.cd Try.f155
def tourref2_pushed (k : Nat) (a1 : Int) (a2 : Int) (a3 : V22) (a4 : V22) (a5 : V22) (r0 : (List V25)) : Option (List V25) :=
  req (inL a1 r0) <|
  bnd (tourref2_Pushed k (el Z25 r0 a1) ((ineg .i64 a5.1), (ineg .i64 a5.2.1), ()) a3) fun y2 =>
  req (inL a2 (st r0 a1 y2)) <|
  bnd (tourref2_Pushed k (el Z25 (st r0 a1 y2) a2) a5 a4) fun y5 =>
  some (st (st r0 a1 y2) a2 y5)
noncomputable def tourref2_pushed.h (k : Nat) : Go.Sx.HSp := ⟨(.pair T2 (.pair T2 (.pair T22 (.pair T22 (.pair T22 (.pair (.slice T25) .unit)))))), (.slice T25), 1, fun x => [.lent (.val .own (0 : Nat)), .dat T2 x.1, .dat T2 x.2.1, .dat T22 x.2.2.1, .dat T22 x.2.2.2.1, .dat T22 x.2.2.2.2.1], fun x => [(0, .row T25 x.2.2.2.2.2.1 26)], fun x => tourref2_pushed k x.1 x.2.1 x.2.2.1 x.2.2.2.1 x.2.2.2.2.1 x.2.2.2.2.2.1, fun x y => [(0, .row T25 y 26)], .none, fun y => (), false⟩
noncomputable def tourref2_pushed.cx (k : Nat) : Go.Sx.Ctx := ⟨tys, [(21, tourref2_Pushed.sp k)], eqs, 38, 1, [], false⟩
theorem tourref2_pushed.cok (k : Nat) : CtxOk PR (tourref2_pushed.cx k) := ctx_ok tysOk eqsOk (FnsOk.cons (tourref2_Pushed.ok k) FnsOk.nil) HsOk.nil
@[irreducible] noncomputable def tourref2_pushed.P (k : Nat) (a1 : Int) (a2 : Int) (a3 : V22) (a4 : V22) (a5 : V22) (r0 : (List V25)) (y : (List V25)) (answers : List Ans) (cmds : List Cmd) : Prop := exec PR (tourref2_pushed.cx k) tourref2_pushed.code 1 (entryH (tourref2_pushed.h k) (a1, a2, a3, a4, a5, r0, ())).st answers (RetH (tourref2_pushed.cx k) Try.f155 cmds (tourref2_pushed.h k) (a1, a2, a3, a4, a5, r0, ()) y)
theorem tourref2_pushed.way (k : Nat) (a1 : Int) (a2 : Int) (a3 : V22) (a4 : V22) (a5 : V22) (r0 : (List V25)) : Owp (tourref2_pushed k a1 a2 a3 a4 a5 r0) fun y => ∃ answers cmds, tourref2_pushed.P k a1 a2 a3 a4 a5 r0 y answers cmds := by
  unfold tourref2_pushed; exact
   Owp.req fun h1 =>
   Owp.bnd fun y2 e3 =>
   Owp.req fun h4 =>
   Owp.bnd fun y5 e6 =>
   Owp.some (⟨[.res (.one (.dp T25)) y2, .res (.one (.dp T25)) y5], [], via (rethP (And.intro (And.intro (And.intro (And.intro (And.intro (And.intro (And.intro (And.intro (And.intro (And.intro trivial h1) h1) e3) h1) h1) h4) h4) e6) h4) h4) [(0, .row T25 (st (st r0 a1 y2) a2 y5) 26)] .none (() : Unit)) (by kernel_rfl)⟩)
theorem tourref2_pushed.ok (k : Nat) : HOk PR 155 (tourref2_pushed.h k) :=
  fnH_ok (tourref2_pushed.cok k) hmix Try.func155 (code := tourref2_pushed.code) (by kernel_rfl) (by kernel_rfl) (by kernel_rfl) (by kernel_rfl) (by kernel_rfl) (fun x => Nat.le_of_ble_eq_true (by kernel_rfl)) fun x y hy => match (tourref2_pushed.way k x.1 x.2.1 x.2.2.1 x.2.2.2.1 x.2.2.2.2.1 x.2.2.2.2.2.1).ap hy with | ⟨ans, cmds, h⟩ => ⟨ans, cmds, via h (by kernel_rfl)⟩

end Go.Proofs.T1
