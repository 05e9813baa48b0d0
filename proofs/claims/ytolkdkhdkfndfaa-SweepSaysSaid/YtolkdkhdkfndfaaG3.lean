import Derived.Test.YtolkdkhdkfndfaaG0
import Derived.Test.YtolkdkhdkfndfaaG1
import Derived.Test.YtolkdkhdkfndfaaG2
namespace Go.Proofs.T1
open Go Go.Sx Go.Proofs
set_option maxRecDepth 100000
set_option linter.unusedVariables false
/-! tourney/sweep.Between -/
noncomputable def sweep_Between.code : Code := Func.cd Try.f36
noncomputable def sweep_Between.c2 (k : Nat) (a0 : (List V41)) (v5 : Int) (y3 : (List (List Int))) : Option (Bool) :=
  bif' (ilt (el 0 (el (List.replicate 2 0) y3 v5) 0) (len a0))
  (some (ige (el 0 (el (List.replicate 2 0) y3 v5) 1) (len a0)))
  (some false)
noncomputable def sweep_Between.c1 (k : Nat) (a0 : (List V41)) (y3 : (List (List Int))) : Nat → Int → (List (List Int)) → Option ((List (List Int)))
  | 0, _, _ => none
  | n + 1, v5, v6 =>
   bif' (ilt v5 (len y3))
   (req (inL v5 y3) <|
    bnd (sweep_Between.c2 k a0 v5 y3) fun o10 =>
    bif' o10
    (req (room 16 v6 [[(el 0 (el (List.replicate 2 0) y3 v5) 0), (isub .i64 (el 0 (el (List.replicate 2 0) y3 v5) 1) (len a0))]]) <|
     sweep_Between.c1 k a0 y3 n (iadd .i64 v5 1) (v6 ++ [[(el 0 (el (List.replicate 2 0) y3 v5) 0), (isub .i64 (el 0 (el (List.replicate 2 0) y3 v5) 1) (len a0))]]))
    (sweep_Between.c1 k a0 y3 n (iadd .i64 v5 1) v6))
   (some v6)
noncomputable def sweep_Between (k : Nat) (a0 : (List V41)) (a1 : (List V41)) : Option (List (List Int)) :=
  bnd (slices_Concat k [a0, a1]) fun y1 =>
  bnd (sweep_Pairs k y1) fun y3 =>
  bnd (sweep_Between.c1 k a0 y3 k 0 []) fun o14 =>
  some o14
noncomputable def sweep_Between.sp (k : Nat) : Go.Sx.Spec := ⟨(.pair (.slice T41) (.pair (.slice T41) .unit)), (.one (.ow (.arr 2 T2) 49)), fun x => sweep_Between k x.1 x.2.1, false⟩
noncomputable def sweep_Between.cx (k : Nat) : Go.Sx.Ctx := ⟨tys, [(110, slices_Concat.sp k), (30, sweep_Pairs.sp k)], eqs, 43, 0, [], false⟩
theorem sweep_Between.cok (k : Nat) : CtxOk PR (sweep_Between.cx k) := ctx_ok tysOk eqsOk (FnsOk.cons (slices_Concat.ok k) (FnsOk.cons (sweep_Pairs.ok k) FnsOk.nil)) HsOk.nil
noncomputable def sweep_Between.c2p (a0 : (List V41)) (v5 : Int) (v6 : (List (List Int))) (y3 : (List (List Int))) : SL := ⟨[(0, (.val (.slice T41) a0)), (5, (.val .own (0 : Nat))), (7, (.val .ptr ⟨1, 0, (0 : Int), 0, 0⟩)), (12, (.val .own (2 : Nat))), (13, (.val T2 (len y3))), (14, (.val T2 v5))], [(0, .row (.arr 2 T2) v6 49), (1, .cells (.arr 2 T2) (el (List.replicate 2 (0 : Int)) y3 v5)), (2, .row (.arr 2 T2) y3 49)]⟩
noncomputable def sweep_Between.c2q (a0 : (List V41)) (v5 : Int) (v6 : (List (List Int))) (y3 : (List (List Int))) (o : Bool) : SL := (fun v => ⟨[(0, (.val (.slice T41) a0)), (5, (.val .own (0 : Nat))), (7, (.val .ptr ⟨1, 0, (0 : Int), 0, 0⟩)), (12, (.val .own (2 : Nat))), (13, (.val T2 (len y3))), (14, (.val T2 v5)), (29, (.val T4 v))], [(0, .row (.arr 2 T2) v6 49), (1, .cells (.arr 2 T2) (el (List.replicate 2 (0 : Int)) y3 v5)), (2, .row (.arr 2 T2) y3 49)]⟩) o
noncomputable def sweep_Between.c2x (o : Bool) : Ex := (fun _ => .normal) o
noncomputable def sweep_Between.c2n (o : Bool) : Nat := (fun _ => 3) o
theorem sweep_Between.c2_ok (k : Nat) (a0 : (List V41)) (v5 : Int) (v6 : (List (List Int))) (y3 : (List (List Int))) : Owp (sweep_Between.c2 k a0 v5 y3) fun o => Triple PR (sweep_Between.cx k) (sub sweep_Between.code [1, 1, 0, 1, 0, 0, 1, 1, 0, 0, 1, 0]) 3 (sweep_Between.c2p a0 v5 v6 y3) (sweep_Between.c2x o) (sweep_Between.c2n o) (sweep_Between.c2q a0 v5 v6 y3 o) := by
  unfold sweep_Between.c2; exact
   Owp.bif (fun e9 =>
   Owp.some (triple_way (sweep_Between.cok k) hmix [.dec true, .dec true, .dec true, .dec true, .dec true, .dec true] [] [(0, 0), (1, 1), (2, 2)] (via (finP (And.intro (And.intro (And.intro (And.intro (And.intro (And.intro (And.intro (And.intro trivial (by decide : inR (0 : Int) 2)) (by decide : inR (0 : Int) 2)) (And.intro e9 (by decide : inR (1 : Int) 2))) (And.intro e9 (by decide : inR (1 : Int) 2))) e9) e9) e9) e9) .normal [(0, 0), (1, 1), (2, 2)] (sweep_Between.c2q a0 v5 v6 y3 (ige (el (0 : Int) (el (List.replicate 2 (0 : Int)) y3 v5) (1 : Int)) (len a0)))) (by kernel_rfl)))) (fun e9 =>
   Owp.some (triple_way (sweep_Between.cok k) hmix [.dec false, .dec false, .dec false, .dec false, .dec false, .dec false] [] [(0, 0), (1, 1), (2, 2)] (via (finP (And.intro (And.intro (And.intro (And.intro (And.intro (And.intro (And.intro (And.intro trivial (by decide : inR (0 : Int) 2)) (by decide : inR (0 : Int) 2)) e9) e9) e9) e9) e9) e9) .normal [(0, 0), (1, 1), (2, 2)] (sweep_Between.c2q a0 v5 v6 y3 false)) (by kernel_rfl))))
noncomputable def sweep_Between.c1p (a0 : (List V41)) (y3 : (List (List Int))) (v5 : Int) (v6 : (List (List Int))) : SL := ⟨[(0, (.val (.slice T41) a0)), (5, (.val .own (0 : Nat))), (12, (.val .own (1 : Nat))), (13, (.val T2 (len y3))), (14, (.val T2 v5))], [(0, .row (.arr 2 T2) v6 49), (1, .row (.arr 2 T2) y3 49)]⟩
noncomputable def sweep_Between.c1q (o : (List (List Int))) : SL := (fun v => ⟨[(5, (.val .own (0 : Nat)))], [(0, .row (.arr 2 T2) v 49)]⟩) o
noncomputable def sweep_Between.c1x (o : (List (List Int))) : Ex := (fun _ => (.exit 0)) o
noncomputable def sweep_Between.c1n (o : (List (List Int))) : Nat := (fun _ => 1) o
theorem sweep_Between.c1_ok (k : Nat) (a0 : (List V41)) (y3 : (List (List Int))) : ∀ (n : Nat) (v5 : Int) (v6 : (List (List Int))), Owp (sweep_Between.c1 k a0 y3 n v5 v6) fun o => LTriple PR (sweep_Between.cx k) (sub sweep_Between.code [1, 1, 0, 1, 0, 0]) 2 (sweep_Between.c1p a0 y3 v5 v6) (sweep_Between.c1x o) (sweep_Between.c1n o) (sweep_Between.c1q o)
  | 0, _, _ => fun _ h => nomatch h
  | n + 1, v5, v6 => Owp.of (sweep_Between.c1.eq_2 ..) (
   Owp.bif (fun e7 =>
   Owp.req fun h8 =>
    Owp.bnd fun o10 e11 =>
    Owp.bif (fun e12 =>
    Owp.req fun h13 =>
     fun y hy => loop_back (sweep_Between.cok k) hmix 2 (sweep_Between.c1p a0 y3 (iadd .i64 v5 (1 : Int)) (v6 ++ [[(el (0 : Int) (el (List.replicate 2 (0 : Int)) y3 v5) (0 : Int)), (isub .i64 (el (0 : Int) (el (List.replicate 2 (0 : Int)) y3 v5) (1 : Int)) (len a0))]])) [.dec true, .cutR 5 ⟨[], [(0, 0), (1, 5), (2, 1)], (sweep_Between.c2p a0 v5 v6 y3), 3, .normal, (sweep_Between.c2q a0 v5 v6 y3 o10), 3⟩, .dec true, .dec true] [] [(0, 13), (1, 2)] (via (cutP (And.intro (And.intro (And.intro trivial e7) h8) h8) [(0, 0), (1, 5), (2, 1)] (sweep_Between.c2p a0 v5 v6 y3) (((sweep_Between.c2_ok k a0 v5 v6 y3).ap e11)) (finP (And.intro (And.intro (And.intro (And.intro (And.intro (And.intro trivial e12) (by decide : inR (0 : Int) 2)) (by decide : inR (0 : Int) 2)) (by decide : inR (1 : Int) 2)) (by decide : inR (1 : Int) 2)) h13) .normal [(0, 13), (1, 2)] (sweep_Between.c1p a0 y3 (iadd .i64 v5 (1 : Int)) (v6 ++ [[(el (0 : Int) (el (List.replicate 2 (0 : Int)) y3 v5) (0 : Int)), (isub .i64 (el (0 : Int) (el (List.replicate 2 (0 : Int)) y3 v5) (1 : Int)) (len a0))]])))) (by kernel_rfl)) ((sweep_Between.c1_ok k a0 y3 n (iadd .i64 v5 (1 : Int)) (v6 ++ [[(el (0 : Int) (el (List.replicate 2 (0 : Int)) y3 v5) (0 : Int)), (isub .i64 (el (0 : Int) (el (List.replicate 2 (0 : Int)) y3 v5) (1 : Int)) (len a0))]])).ap hy)) (fun e12 =>
    fun y hy => loop_back (sweep_Between.cok k) hmix 2 (sweep_Between.c1p a0 y3 (iadd .i64 v5 (1 : Int)) v6) [.dec true, .cutR 5 ⟨[], [(0, 0), (1, 5), (2, 1)], (sweep_Between.c2p a0 v5 v6 y3), 3, .normal, (sweep_Between.c2q a0 v5 v6 y3 o10), 3⟩, .dec false] [] [(0, 0), (1, 2)] (via (cutP (And.intro (And.intro (And.intro trivial e7) h8) h8) [(0, 0), (1, 5), (2, 1)] (sweep_Between.c2p a0 v5 v6 y3) (((sweep_Between.c2_ok k a0 v5 v6 y3).ap e11)) (finP (And.intro trivial e12) .normal [(0, 0), (1, 2)] (sweep_Between.c1p a0 y3 (iadd .i64 v5 (1 : Int)) v6))) (by kernel_rfl)) ((sweep_Between.c1_ok k a0 y3 n (iadd .i64 v5 (1 : Int)) v6).ap hy))) (fun e7 =>
   Owp.some (loop_exit (sweep_Between.cok k) hmix [.dec false] [] [(0, 0)] (exne 0) (via (finP (And.intro trivial e7) (.exit 0) [(0, 0)] (sweep_Between.c1q v6)) (by kernel_rfl)))))
theorem sweep_Between.way (k : Nat) (a0 : (List V41)) (a1 : (List V41)) : Owp (sweep_Between k a0 a1) fun y => ∃ answers cmds, exec PR (sweep_Between.cx k) sweep_Between.code 0 (entry (.pair (.slice T41) (.pair (.slice T41) .unit)) (a0, a1, ())).st answers (Ret (sweep_Between.cx k) Try.f36 cmds (.one (.ow (.arr 2 T2) 49)) y) := by
  unfold sweep_Between; exact
   Owp.bnd fun y1 e2 =>
   Owp.bnd fun y3 e4 =>
   Owp.bnd fun o14 e15 =>
   Owp.some (⟨[.dec true, .res (.one (.ow T41 42)) y1, .res (.one (.ow (.arr 2 T2) 49)) y3, .cut ⟨[.own 5 (.arr 2 T2) 49], [(0, 9), (1, 6)], (sweep_Between.c1p a0 y3 (0 : Int) []), 2, (.exit 0), (sweep_Between.c1q o14), 1⟩], [], via (cutP (And.intro (And.intro trivial e2) e4) [(0, 9), (1, 6)] (sweep_Between.c1p a0 y3 (0 : Int) []) (((sweep_Between.c1_ok k a0 y3 k (0 : Int) []).ap e15).triple) (retP trivial (.one (.ow (.arr 2 T2) 49)) (o14 : (List (List Int))))) (by kernel_rfl)⟩)
theorem sweep_Between.ok (k : Nat) : FnOk PR 36 (sweep_Between.sp k) :=
  fn_ok (sweep_Between.cok k) hmix Try.func36 (code := sweep_Between.code) (by kernel_rfl) (by kernel_rfl) (by kernel_rfl) rfl rfl (by kernel_rfl) (by kernel_rfl) (by kernel_rfl) (fun x => Nat.le_of_ble_eq_true (by kernel_rfl)) fun x y hy => (sweep_Between.way k x.1 x.2.1).ap hy

end Go.Proofs.T1
