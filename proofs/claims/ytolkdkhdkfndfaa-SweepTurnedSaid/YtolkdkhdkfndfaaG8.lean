import Derived.Test.YtolkdkhdkfndfaaG0
import Derived.Test.YtolkdkhdkfndfaaG1
import Derived.Test.YtolkdkhdkfndfaaG2
import Derived.Test.YtolkdkhdkfndfaaG3
import Derived.Test.YtolkdkhdkfndfaaG5
import Derived.Test.YtolkdkhdkfndfaaG6
import Derived.Test.YtolkdkhdkfndfaaG7
namespace Go.Proofs.T1
open Go Go.Sx Go.Proofs
set_option maxRecDepth 100000
set_option linter.unusedVariables false
/-! tourney/tourkeep2.SweepTurned -/
noncomputable def tourkeep2_SweepTurned.code : Code := Func.cd Try.f6
noncomputable def tourkeep2_SweepTurned.c1 (k : Nat) (y1 : (List V41)) (y11 : (List (List Int))) : Nat → Int → (List (List Int)) → Option ((List (List Int)))
  | 0, _, _ => none
  | n + 1, v13, v14 =>
   bif' (ilt v13 (len y11))
   (req (inL v13 y11) <|
    req (room 16 v14 [[(isub .i64 (isub .i64 (len y1) 1) (el 0 (el (List.replicate 2 0) y11 v13) 1)), (isub .i64 (isub .i64 (len y1) 1) (el 0 (el (List.replicate 2 0) y11 v13) 0))]]) <|
    tourkeep2_SweepTurned.c1 k y1 y11 n (iadd .i64 v13 1) (v14 ++ [[(isub .i64 (isub .i64 (len y1) 1) (el 0 (el (List.replicate 2 0) y11 v13) 1)), (isub .i64 (isub .i64 (len y1) 1) (el 0 (el (List.replicate 2 0) y11 v13) 0))]]))
   (some v14)
noncomputable def tourkeep2_SweepTurned.c2 (k : Nat) (y22 : (List (List Int))) : Nat → Int → (List (List Int)) → Option ((List (List Int)))
  | 0, _, _ => none
  | n + 1, v24, v25 =>
   bif' (ilt v24 (len y22))
   (req (inL v24 y22) <|
    req (room 16 v25 [[(el 0 (el (List.replicate 2 0) y22 v24) 1), (el 0 (el (List.replicate 2 0) y22 v24) 0)]]) <|
    tourkeep2_SweepTurned.c2 k y22 n (iadd .i64 v24 1) (v25 ++ [[(el 0 (el (List.replicate 2 0) y22 v24) 1), (el 0 (el (List.replicate 2 0) y22 v24) 0)]]))
   (some v25)
noncomputable def tourkeep2_SweepTurned (k : Nat) (a0 : (List Int)) (a1 : (List Int)) : Option Bool :=
  bnd (tourkeep2_boxes k a0) fun y1 =>
  bnd (tourkeep2_boxes k a1) fun y3 =>
  bnd (sweep_Pairs k y1) fun y5 =>
  bnd (slices_Clone_31 k y1) fun y7 =>
  bnd (slices_Reverse_32 k y7) fun y9 =>
  bnd (sweep_Pairs k y9) fun y11 =>
  bnd (tourkeep2_SweepTurned.c1 k y1 y11 k 0 []) fun o18 =>
  bnd (slices_SortFunc_35_2 k o18) fun y20 =>
  bnd (sweep_Between k y3 y1) fun y22 =>
  bnd (tourkeep2_SweepTurned.c2 k y22 k 0 []) fun o29 =>
  bnd (slices_SortFunc_35_2 k o29) fun y31 =>
  bnd (tourkeep2_sweeps k) fun y33 =>
  bif' y33
  (bnd (slices_Equal_37 k y5 y20) fun y36 =>
   bif' y36
   (bnd (sweep_Between k y1 y3) fun y39 =>
    bnd (slices_Equal_37 k y39 y31) fun y41 =>
    some y41)
   (some false))
  (some false)
noncomputable def tourkeep2_SweepTurned.sp (k : Nat) : Go.Sx.Spec := ⟨(.pair T31 (.pair T31 .unit)), (.one (.dp T4)), fun x => tourkeep2_SweepTurned k x.1 x.2.1, false⟩
noncomputable def tourkeep2_SweepTurned.cx (k : Nat) : Go.Sx.Ctx := ⟨tys, [(26, tourkeep2_boxes.sp k), (30, sweep_Pairs.sp k), (31, slices_Clone_31.sp k), (36, sweep_Between.sp k), (27, tourkeep2_sweeps.sp k), (37, slices_Equal_37.sp k)], eqs, 86, 0, [(32, slices_Reverse_32.h k), (35, slices_SortFunc_35_2.h k)], false⟩
theorem tourkeep2_SweepTurned.cok (k : Nat) : CtxOk PR (tourkeep2_SweepTurned.cx k) := ctx_ok tysOk eqsOk (FnsOk.cons (tourkeep2_boxes.ok k) (FnsOk.cons (sweep_Pairs.ok k) (FnsOk.cons (slices_Clone_31.ok k) (FnsOk.cons (sweep_Between.ok k) (FnsOk.cons (tourkeep2_sweeps.ok k) (FnsOk.cons (slices_Equal_37.ok k) FnsOk.nil)))))) (HsOk.cons (slices_Reverse_32.ok k) (HsOk.cons (slices_SortFunc_35_2.ok k) HsOk.nil))
noncomputable def tourkeep2_SweepTurned.c1p (y1 : (List V41)) (y3 : (List V41)) (y5 : (List (List Int))) (y11 : (List (List Int))) (v13 : Int) (v14 : (List (List Int))) : SL := ⟨[(5, (.val .own (0 : Nat))), (6, (.val .own (1 : Nat))), (7, (.val .own (2 : Nat))), (9, (.val .own (3 : Nat))), (27, (.val .own (4 : Nat))), (28, (.val T2 (len y11))), (29, (.val T2 v13))], [(0, .row T41 y1 42), (1, .row T41 y3 42), (2, .row (.arr 2 T2) y5 49), (3, .row (.arr 2 T2) v14 49), (4, .row (.arr 2 T2) y11 49)]⟩
noncomputable def tourkeep2_SweepTurned.c1q (y1 : (List V41)) (y3 : (List V41)) (y5 : (List (List Int))) (o : (List (List Int))) : SL := (fun v => ⟨[(5, (.val .own (0 : Nat))), (6, (.val .own (1 : Nat))), (7, (.val .own (2 : Nat))), (9, (.val .own (3 : Nat)))], [(0, .row T41 y1 42), (1, .row T41 y3 42), (2, .row (.arr 2 T2) y5 49), (3, .row (.arr 2 T2) v 49)]⟩) o
noncomputable def tourkeep2_SweepTurned.c1x (o : (List (List Int))) : Ex := (fun _ => (.exit 0)) o
noncomputable def tourkeep2_SweepTurned.c1n (o : (List (List Int))) : Nat := (fun _ => 4) o
theorem tourkeep2_SweepTurned.c1_ok (k : Nat) (y1 : (List V41)) (y3 : (List V41)) (y5 : (List (List Int))) (y11 : (List (List Int))) : ∀ (n : Nat) (v13 : Int) (v14 : (List (List Int))), Owp (tourkeep2_SweepTurned.c1 k y1 y11 n v13 v14) fun o => LTriple PR (tourkeep2_SweepTurned.cx k) (sub tourkeep2_SweepTurned.code [1, 1, 1, 1, 1, 1, 0, 1, 0, 0]) 5 (tourkeep2_SweepTurned.c1p y1 y3 y5 y11 v13 v14) (tourkeep2_SweepTurned.c1x o) (tourkeep2_SweepTurned.c1n o) (tourkeep2_SweepTurned.c1q y1 y3 y5 o)
  | 0, _, _ => fun _ h => nomatch h
  | n + 1, v13, v14 => Owp.of (tourkeep2_SweepTurned.c1.eq_2 ..) (
   Owp.bif (fun e15 =>
   Owp.req fun h16 =>
    Owp.req fun h17 =>
    fun y hy => loop_back (tourkeep2_SweepTurned.cok k) hmix 5 (tourkeep2_SweepTurned.c1p y1 y3 y5 y11 (iadd .i64 v13 (1 : Int)) (v14 ++ [[(isub .i64 (isub .i64 (len y1) (1 : Int)) (el (0 : Int) (el (List.replicate 2 (0 : Int)) y11 v13) (1 : Int))), (isub .i64 (isub .i64 (len y1) (1 : Int)) (el (0 : Int) (el (List.replicate 2 (0 : Int)) y11 v13) (0 : Int)))]])) [.dec true, .dec true] [] [(0, 0), (1, 1), (2, 2), (3, 25), (4, 4)] (via (finP (And.intro (And.intro (And.intro (And.intro (And.intro (And.intro (And.intro (And.intro trivial e15) h16) h16) (by decide : inR (1 : Int) 2)) (by decide : inR (1 : Int) 2)) (by decide : inR (0 : Int) 2)) (by decide : inR (0 : Int) 2)) h17) .normal [(0, 0), (1, 1), (2, 2), (3, 25), (4, 4)] (tourkeep2_SweepTurned.c1p y1 y3 y5 y11 (iadd .i64 v13 (1 : Int)) (v14 ++ [[(isub .i64 (isub .i64 (len y1) (1 : Int)) (el (0 : Int) (el (List.replicate 2 (0 : Int)) y11 v13) (1 : Int))), (isub .i64 (isub .i64 (len y1) (1 : Int)) (el (0 : Int) (el (List.replicate 2 (0 : Int)) y11 v13) (0 : Int)))]]))) (by kernel_rfl)) ((tourkeep2_SweepTurned.c1_ok k y1 y3 y5 y11 n (iadd .i64 v13 (1 : Int)) (v14 ++ [[(isub .i64 (isub .i64 (len y1) (1 : Int)) (el (0 : Int) (el (List.replicate 2 (0 : Int)) y11 v13) (1 : Int))), (isub .i64 (isub .i64 (len y1) (1 : Int)) (el (0 : Int) (el (List.replicate 2 (0 : Int)) y11 v13) (0 : Int)))]])).ap hy)) (fun e15 =>
   Owp.some (loop_exit (tourkeep2_SweepTurned.cok k) hmix [.dec false] [] [(0, 0), (1, 1), (2, 2), (3, 3)] (exne 0) (via (finP (And.intro trivial e15) (.exit 0) [(0, 0), (1, 1), (2, 2), (3, 3)] (tourkeep2_SweepTurned.c1q y1 y3 y5 v14)) (by kernel_rfl)))))
noncomputable def tourkeep2_SweepTurned.c2p (y1 : (List V41)) (y3 : (List V41)) (y5 : (List (List Int))) (y20 : (List (List Int))) (y22 : (List (List Int))) (v24 : Int) (v25 : (List (List Int))) : SL := ⟨[(5, (.val .own (0 : Nat))), (6, (.val .own (1 : Nat))), (7, (.val .own (2 : Nat))), (9, (.val .own (3 : Nat))), (12, (.val .clo (33, []))), (13, (.val .own (4 : Nat))), (55, (.val .own (5 : Nat))), (56, (.val T2 (len y22))), (57, (.val T2 v24))], [(0, .row T41 y1 42), (1, .row T41 y3 42), (2, .row (.arr 2 T2) y5 49), (3, .row (.arr 2 T2) y20 49), (4, .row (.arr 2 T2) v25 49), (5, .row (.arr 2 T2) y22 49)]⟩
noncomputable def tourkeep2_SweepTurned.c2q (y1 : (List V41)) (y3 : (List V41)) (y5 : (List (List Int))) (y20 : (List (List Int))) (o : (List (List Int))) : SL := (fun v => ⟨[(5, (.val .own (0 : Nat))), (6, (.val .own (1 : Nat))), (7, (.val .own (2 : Nat))), (9, (.val .own (3 : Nat))), (12, (.val .clo (33, []))), (13, (.val .own (4 : Nat)))], [(0, .row T41 y1 42), (1, .row T41 y3 42), (2, .row (.arr 2 T2) y5 49), (3, .row (.arr 2 T2) y20 49), (4, .row (.arr 2 T2) v 49)]⟩) o
noncomputable def tourkeep2_SweepTurned.c2x (o : (List (List Int))) : Ex := (fun _ => (.exit 2)) o
noncomputable def tourkeep2_SweepTurned.c2n (o : (List (List Int))) : Nat := (fun _ => 5) o
theorem tourkeep2_SweepTurned.c2_ok (k : Nat) (y1 : (List V41)) (y3 : (List V41)) (y5 : (List (List Int))) (y20 : (List (List Int))) (y22 : (List (List Int))) : ∀ (n : Nat) (v24 : Int) (v25 : (List (List Int))), Owp (tourkeep2_SweepTurned.c2 k y22 n v24 v25) fun o => LTriple PR (tourkeep2_SweepTurned.cx k) (sub tourkeep2_SweepTurned.code [1, 1, 1, 1, 1, 1, 1, 1, 1, 1, 0, 1, 0, 0]) 6 (tourkeep2_SweepTurned.c2p y1 y3 y5 y20 y22 v24 v25) (tourkeep2_SweepTurned.c2x o) (tourkeep2_SweepTurned.c2n o) (tourkeep2_SweepTurned.c2q y1 y3 y5 y20 o)
  | 0, _, _ => fun _ h => nomatch h
  | n + 1, v24, v25 => Owp.of (tourkeep2_SweepTurned.c2.eq_2 ..) (
   Owp.bif (fun e26 =>
   Owp.req fun h27 =>
    Owp.req fun h28 =>
    fun y hy => loop_back (tourkeep2_SweepTurned.cok k) hmix 6 (tourkeep2_SweepTurned.c2p y1 y3 y5 y20 y22 (iadd .i64 v24 (1 : Int)) (v25 ++ [[(el (0 : Int) (el (List.replicate 2 (0 : Int)) y22 v24) (1 : Int)), (el (0 : Int) (el (List.replicate 2 (0 : Int)) y22 v24) (0 : Int))]])) [.dec true, .dec true] [] [(0, 0), (1, 1), (2, 2), (3, 3), (4, 18), (5, 5)] (via (finP (And.intro (And.intro (And.intro (And.intro (And.intro (And.intro (And.intro (And.intro trivial e26) h27) h27) (by decide : inR (1 : Int) 2)) (by decide : inR (1 : Int) 2)) (by decide : inR (0 : Int) 2)) (by decide : inR (0 : Int) 2)) h28) .normal [(0, 0), (1, 1), (2, 2), (3, 3), (4, 18), (5, 5)] (tourkeep2_SweepTurned.c2p y1 y3 y5 y20 y22 (iadd .i64 v24 (1 : Int)) (v25 ++ [[(el (0 : Int) (el (List.replicate 2 (0 : Int)) y22 v24) (1 : Int)), (el (0 : Int) (el (List.replicate 2 (0 : Int)) y22 v24) (0 : Int))]]))) (by kernel_rfl)) ((tourkeep2_SweepTurned.c2_ok k y1 y3 y5 y20 y22 n (iadd .i64 v24 (1 : Int)) (v25 ++ [[(el (0 : Int) (el (List.replicate 2 (0 : Int)) y22 v24) (1 : Int)), (el (0 : Int) (el (List.replicate 2 (0 : Int)) y22 v24) (0 : Int))]])).ap hy)) (fun e26 =>
   Owp.some (loop_exit (tourkeep2_SweepTurned.cok k) hmix [.dec false] [] [(0, 0), (1, 1), (2, 2), (3, 3), (4, 4)] (exne 2) (via (finP (And.intro trivial e26) (.exit 2) [(0, 0), (1, 1), (2, 2), (3, 3), (4, 4)] (tourkeep2_SweepTurned.c2q y1 y3 y5 y20 v25)) (by kernel_rfl)))))
theorem tourkeep2_SweepTurned.way (k : Nat) (a0 : (List Int)) (a1 : (List Int)) : Owp (tourkeep2_SweepTurned k a0 a1) fun y => ∃ answers cmds, exec PR (tourkeep2_SweepTurned.cx k) tourkeep2_SweepTurned.code 0 (entry (.pair T31 (.pair T31 .unit)) (a0, a1, ())).st answers (Ret (tourkeep2_SweepTurned.cx k) Try.f6 cmds (.one (.dp T4)) y) := by
  unfold tourkeep2_SweepTurned; exact
   Owp.bnd fun y1 e2 =>
   Owp.bnd fun y3 e4 =>
   Owp.bnd fun y5 e6 =>
   Owp.bnd fun y7 e8 =>
   Owp.bnd fun y9 e10 =>
   Owp.bnd fun y11 e12 =>
   Owp.bnd fun o18 e19 =>
   Owp.bnd fun y20 e21 =>
   Owp.bnd fun y22 e23 =>
   Owp.bnd fun o29 e30 =>
   Owp.bnd fun y31 e32 =>
   Owp.bnd fun y33 e34 =>
   Owp.bif (fun e35 =>
   Owp.bnd fun y36 e37 =>
    Owp.bif (fun e38 =>
    Owp.bnd fun y39 e40 =>
     Owp.bnd fun y41 e42 =>
     Owp.some (⟨[.res (.one (.ow T41 42)) y1, .res (.one (.ow T41 42)) y3, .res (.one (.ow (.arr 2 T2) 49)) y5, .res (.one (.ow T41 42)) y7, .hres [(0, 11)] (.pair (.slice T41) .unit) (y7, ()) (.slice T41) y9, .res (.one (.ow (.arr 2 T2) 49)) y11, .cut ⟨[.own 9 (.arr 2 T2) 49], [(0, 2), (1, 4), (2, 8), (3, 20), (4, 17)], (tourkeep2_SweepTurned.c1p y1 y3 y5 y11 (0 : Int) []), 5, (.exit 0), (tourkeep2_SweepTurned.c1q y1 y3 y5 o18), 4⟩, .hres [(0, 3)] (.pair (.slice (.arr 2 T2)) .unit) (o18, ()) (.slice (.arr 2 T2)) y20, .res (.one (.ow (.arr 2 T2) 49)) y22, .cut ⟨[.own 13 (.arr 2 T2) 49], [(0, 0), (1, 1), (2, 2), (3, 3), (4, 14), (5, 11)], (tourkeep2_SweepTurned.c2p y1 y3 y5 y20 y22 (0 : Int) []), 6, (.exit 2), (tourkeep2_SweepTurned.c2q y1 y3 y5 y20 o29), 5⟩, .hres [(0, 4)] (.pair (.slice (.arr 2 T2)) .unit) (o29, ()) (.slice (.arr 2 T2)) y31, .res (.one (.dp T4)) y33, .dec true, .dec true, .dec true, .res (.one (.dp T4)) y36, .dec true, .dec true, .dec true, .dec true, .res (.one (.ow (.arr 2 T2) 49)) y39, .dec true, .dec true, .res (.one (.dp T4)) y41, .dec true], [], via (cutP (And.intro (And.intro (And.intro (And.intro (And.intro (And.intro trivial e2) e4) e6) e8) (callHP (slices_Reverse_32.h k) [(0, 11)] (y7, ()) e10)) e12) [(0, 2), (1, 4), (2, 8), (3, 20), (4, 17)] (tourkeep2_SweepTurned.c1p y1 y3 y5 y11 (0 : Int) []) (((tourkeep2_SweepTurned.c1_ok k y1 y3 y5 y11 k (0 : Int) []).ap e19).triple) (cutP (And.intro (And.intro trivial (callHP (slices_SortFunc_35_2.h k) [(0, 3)] (o18, ()) e21)) e23) [(0, 0), (1, 1), (2, 2), (3, 3), (4, 14), (5, 11)] (tourkeep2_SweepTurned.c2p y1 y3 y5 y20 y22 (0 : Int) []) (((tourkeep2_SweepTurned.c2_ok k y1 y3 y5 y20 y22 k (0 : Int) []).ap e30).triple) (retP (And.intro (And.intro (And.intro (And.intro (And.intro (And.intro (And.intro (And.intro (And.intro (And.intro (And.intro (And.intro trivial (callHP (slices_SortFunc_35_2.h k) [(0, 4)] (o29, ()) e32)) e34) e35) e35) (And.intro e35 e37)) e35) e38) e38) (And.intro e38 e40)) e38) (And.intro e38 e42)) e38) (.one (.dp T4)) (y41 : Bool)))) (by kernel_rfl)⟩)) (fun e38 =>
    Owp.some (⟨[.res (.one (.ow T41 42)) y1, .res (.one (.ow T41 42)) y3, .res (.one (.ow (.arr 2 T2) 49)) y5, .res (.one (.ow T41 42)) y7, .hres [(0, 11)] (.pair (.slice T41) .unit) (y7, ()) (.slice T41) y9, .res (.one (.ow (.arr 2 T2) 49)) y11, .cut ⟨[.own 9 (.arr 2 T2) 49], [(0, 2), (1, 4), (2, 8), (3, 20), (4, 17)], (tourkeep2_SweepTurned.c1p y1 y3 y5 y11 (0 : Int) []), 5, (.exit 0), (tourkeep2_SweepTurned.c1q y1 y3 y5 o18), 4⟩, .hres [(0, 3)] (.pair (.slice (.arr 2 T2)) .unit) (o18, ()) (.slice (.arr 2 T2)) y20, .res (.one (.ow (.arr 2 T2) 49)) y22, .cut ⟨[.own 13 (.arr 2 T2) 49], [(0, 0), (1, 1), (2, 2), (3, 3), (4, 14), (5, 11)], (tourkeep2_SweepTurned.c2p y1 y3 y5 y20 y22 (0 : Int) []), 6, (.exit 2), (tourkeep2_SweepTurned.c2q y1 y3 y5 y20 o29), 5⟩, .hres [(0, 4)] (.pair (.slice (.arr 2 T2)) .unit) (o29, ()) (.slice (.arr 2 T2)) y31, .res (.one (.dp T4)) y33, .dec true, .dec true, .dec true, .res (.one (.dp T4)) y36, .dec true, .dec false, .dec false, .dec false, .dec true, .dec false, .dec false, .dec true, .dec false], [], via (cutP (And.intro (And.intro (And.intro (And.intro (And.intro (And.intro trivial e2) e4) e6) e8) (callHP (slices_Reverse_32.h k) [(0, 11)] (y7, ()) e10)) e12) [(0, 2), (1, 4), (2, 8), (3, 20), (4, 17)] (tourkeep2_SweepTurned.c1p y1 y3 y5 y11 (0 : Int) []) (((tourkeep2_SweepTurned.c1_ok k y1 y3 y5 y11 k (0 : Int) []).ap e19).triple) (cutP (And.intro (And.intro trivial (callHP (slices_SortFunc_35_2.h k) [(0, 3)] (o18, ()) e21)) e23) [(0, 0), (1, 1), (2, 2), (3, 3), (4, 14), (5, 11)] (tourkeep2_SweepTurned.c2p y1 y3 y5 y20 y22 (0 : Int) []) (((tourkeep2_SweepTurned.c2_ok k y1 y3 y5 y20 y22 k (0 : Int) []).ap e30).triple) (retP (And.intro (And.intro (And.intro (And.intro (And.intro (And.intro (And.intro (And.intro (And.intro (And.intro (And.intro (And.intro trivial (callHP (slices_SortFunc_35_2.h k) [(0, 4)] (o29, ()) e32)) e34) e35) e35) (And.intro e35 e37)) e35) e38) e38) e38) e38) e38) e38) (.one (.dp T4)) (false : Bool)))) (by kernel_rfl)⟩))) (fun e35 =>
   Owp.some (⟨[.res (.one (.ow T41 42)) y1, .res (.one (.ow T41 42)) y3, .res (.one (.ow (.arr 2 T2) 49)) y5, .res (.one (.ow T41 42)) y7, .hres [(0, 11)] (.pair (.slice T41) .unit) (y7, ()) (.slice T41) y9, .res (.one (.ow (.arr 2 T2) 49)) y11, .cut ⟨[.own 9 (.arr 2 T2) 49], [(0, 2), (1, 4), (2, 8), (3, 20), (4, 17)], (tourkeep2_SweepTurned.c1p y1 y3 y5 y11 (0 : Int) []), 5, (.exit 0), (tourkeep2_SweepTurned.c1q y1 y3 y5 o18), 4⟩, .hres [(0, 3)] (.pair (.slice (.arr 2 T2)) .unit) (o18, ()) (.slice (.arr 2 T2)) y20, .res (.one (.ow (.arr 2 T2) 49)) y22, .cut ⟨[.own 13 (.arr 2 T2) 49], [(0, 0), (1, 1), (2, 2), (3, 3), (4, 14), (5, 11)], (tourkeep2_SweepTurned.c2p y1 y3 y5 y20 y22 (0 : Int) []), 6, (.exit 2), (tourkeep2_SweepTurned.c2q y1 y3 y5 y20 o29), 5⟩, .hres [(0, 4)] (.pair (.slice (.arr 2 T2)) .unit) (o29, ()) (.slice (.arr 2 T2)) y31, .res (.one (.dp T4)) y33, .dec false, .dec false, .dec false, .dec true, .dec false, .dec false, .dec false, .dec false, .dec true, .dec false, .dec false, .dec true, .dec false], [], via (cutP (And.intro (And.intro (And.intro (And.intro (And.intro (And.intro trivial e2) e4) e6) e8) (callHP (slices_Reverse_32.h k) [(0, 11)] (y7, ()) e10)) e12) [(0, 2), (1, 4), (2, 8), (3, 20), (4, 17)] (tourkeep2_SweepTurned.c1p y1 y3 y5 y11 (0 : Int) []) (((tourkeep2_SweepTurned.c1_ok k y1 y3 y5 y11 k (0 : Int) []).ap e19).triple) (cutP (And.intro (And.intro trivial (callHP (slices_SortFunc_35_2.h k) [(0, 3)] (o18, ()) e21)) e23) [(0, 0), (1, 1), (2, 2), (3, 3), (4, 14), (5, 11)] (tourkeep2_SweepTurned.c2p y1 y3 y5 y20 y22 (0 : Int) []) (((tourkeep2_SweepTurned.c2_ok k y1 y3 y5 y20 y22 k (0 : Int) []).ap e30).triple) (retP (And.intro (And.intro (And.intro (And.intro (And.intro (And.intro (And.intro (And.intro (And.intro (And.intro (And.intro (And.intro trivial (callHP (slices_SortFunc_35_2.h k) [(0, 4)] (o29, ()) e32)) e34) e35) e35) e35) e35) ff) ff) ff) ff) ff) ff) (.one (.dp T4)) (false : Bool)))) (by kernel_rfl)⟩))
theorem tourkeep2_SweepTurned.ok (k : Nat) : FnOk PR 6 (tourkeep2_SweepTurned.sp k) :=
  fn_ok (tourkeep2_SweepTurned.cok k) hmix Try.func6 (code := tourkeep2_SweepTurned.code) (by kernel_rfl) (by kernel_rfl) (by kernel_rfl) rfl rfl (by kernel_rfl) (by kernel_rfl) (by kernel_rfl) (fun x => Nat.le_of_ble_eq_true (by kernel_rfl)) fun x y hy => (tourkeep2_SweepTurned.way k x.1 x.2.1).ap hy

end Go.Proofs.T1
