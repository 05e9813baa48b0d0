import Derived.Test.YtolkdkhdkfndfaaG0
import Derived.Test.YtolkdkhdkfndfaaG1
import Derived.Test.YtolkdkhdkfndfaaG2
namespace Go.Proofs.T1
open Go Go.Sx Go.Proofs
set_option maxRecDepth 100000
set_option linter.unusedVariables false
/-! tourney/tourkeep2.place -/
noncomputable def tourkeep2_place.code : Code := Func.cd Try.f18
noncomputable def tourkeep2_place (k : Nat) (a0 : Int) (a1 : Int) : Option V27 :=
  bnd (tourmake_Below k a0 1572864) fun y1 =>
  bnd (tourmake_Below k a1 1572864) fun y3 =>
  some ((isub .i64 y1 786432), (isub .i64 y3 786432), ())
noncomputable def tourkeep2_place.sp (k : Nat) : Go.Sx.Spec := ⟨T27, (.one (.dp T27)), fun x => tourkeep2_place k x.1 x.2.1, false⟩
noncomputable def tourkeep2_place.cx (k : Nat) : Go.Sx.Ctx := ⟨tys, [(82, tourmake_Below.sp k)], eqs, 12, 0, [], false⟩
theorem tourkeep2_place.cok (k : Nat) : CtxOk PR (tourkeep2_place.cx k) := ctx_ok tysOk eqsOk (FnsOk.cons (tourmake_Below.ok k) FnsOk.nil) HsOk.nil
theorem tourkeep2_place.way (k : Nat) (a0 : Int) (a1 : Int) : Owp (tourkeep2_place k a0 a1) fun y => ∃ answers cmds, exec PR (tourkeep2_place.cx k) tourkeep2_place.code 0 (entry T27 (a0, a1, ())).st answers (Ret (tourkeep2_place.cx k) Try.f18 cmds (.one (.dp T27)) y) := by
  unfold tourkeep2_place; exact
   Owp.bnd fun y1 e2 =>
   Owp.bnd fun y3 e4 =>
   Owp.some (⟨[.res (.one (.dp T2)) y1, .res (.one (.dp T2)) y3], [], via (retP (And.intro (And.intro trivial e2) e4) (.one (.dp T27)) (((isub .i64 y1 (786432 : Int)), (isub .i64 y3 (786432 : Int)), ()) : V27)) (by kernel_rfl)⟩)
theorem tourkeep2_place.ok (k : Nat) : FnOk PR 18 (tourkeep2_place.sp k) :=
  fn_ok (tourkeep2_place.cok k) hmix Try.func18 (code := tourkeep2_place.code) (by kernel_rfl) (by kernel_rfl) (by kernel_rfl) rfl rfl (by kernel_rfl) (by kernel_rfl) (by kernel_rfl) (fun x => Nat.le_of_ble_eq_true (by kernel_rfl)) fun x y hy => (tourkeep2_place.way k x.1 x.2.1).ap hy

/-! tourney/tourkeep2.boxes -/
noncomputable def tourkeep2_boxes.code : Code := Func.cd Try.f26
noncomputable def tourkeep2_boxes.c2 (k : Nat) (a0 : (List Int)) (v1 : Int) (v2 : (List V41)) : Option (Bool) :=
  bif' (ilt (iadd .i64 v1 3) (len a0))
  (some (ilt (len v2) 24))
  (some false)
noncomputable def tourkeep2_boxes.c1 (k : Nat) (a0 : (List Int)) : Nat → Int → (List V41) → Option ((List V41))
  | 0, _, _ => none
  | n + 1, v1, v2 =>
   bnd (tourkeep2_boxes.c2 k a0 v1 v2) fun o4 =>
   bif' o4
   (req (inL v1 a0) <|
    req (inL (iadd .i64 v1 1) a0) <|
    bnd (tourkeep2_place k (el 0 a0 v1) (el 0 a0 (iadd .i64 v1 1))) fun y9 =>
    req (inL (iadd .i64 v1 2) a0) <|
    bnd (tourmake_Below k (el 0 a0 (iadd .i64 v1 2)) 262144) fun y12 =>
    req (inL (iadd .i64 v1 3) a0) <|
    bnd (tourmake_Below k (el 0 a0 (iadd .i64 v1 3)) 262144) fun y15 =>
    req (room 32 v2 [(y9, ((iadd .i64 y9.1 y12), (iadd .i64 y9.2.1 y15), ()), ())]) <|
    tourkeep2_boxes.c1 k a0 n (iadd .i64 v1 4) (v2 ++ [(y9, ((iadd .i64 y9.1 y12), (iadd .i64 y9.2.1 y15), ()), ())]))
   (some v2)
noncomputable def tourkeep2_boxes (k : Nat) (a0 : (List Int)) : Option (List V41) :=
  bnd (tourkeep2_boxes.c1 k a0 k 0 []) fun o18 =>
  some o18
noncomputable def tourkeep2_boxes.sp (k : Nat) : Go.Sx.Spec := ⟨(.pair T31 .unit), (.one (.ow T41 42)), fun x => tourkeep2_boxes k x.1, false⟩
noncomputable def tourkeep2_boxes.cx (k : Nat) : Go.Sx.Ctx := ⟨tys, [(18, tourkeep2_place.sp k), (82, tourmake_Below.sp k)], eqs, 53, 0, [], false⟩
theorem tourkeep2_boxes.cok (k : Nat) : CtxOk PR (tourkeep2_boxes.cx k) := ctx_ok tysOk eqsOk (FnsOk.cons (tourkeep2_place.ok k) (FnsOk.cons (tourmake_Below.ok k) FnsOk.nil)) HsOk.nil
noncomputable def tourkeep2_boxes.c2p (a0 : (List Int)) (v1 : Int) (v2 : (List V41)) : SL := ⟨[(0, (.val T31 a0)), (3, (.val .own (0 : Nat))), (4, (.val T2 v1))], [(0, .row T41 v2 42)]⟩
noncomputable def tourkeep2_boxes.c2q (a0 : (List Int)) (v1 : Int) (v2 : (List V41)) (o : Bool) : SL := (fun v => ⟨[(0, (.val T31 a0)), (3, (.val .own (0 : Nat))), (4, (.val T2 v1)), (15, (.val T4 v))], [(0, .row T41 v2 42)]⟩) o
noncomputable def tourkeep2_boxes.c2x (o : Bool) : Ex := (fun _ => .normal) o
noncomputable def tourkeep2_boxes.c2n (o : Bool) : Nat := (fun _ => 1) o
theorem tourkeep2_boxes.c2_ok (k : Nat) (a0 : (List Int)) (v1 : Int) (v2 : (List V41)) : Owp (tourkeep2_boxes.c2 k a0 v1 v2) fun o => Triple PR (tourkeep2_boxes.cx k) (sub tourkeep2_boxes.code [1, 1, 0, 1, 0, 0, 0, 0]) 1 (tourkeep2_boxes.c2p a0 v1 v2) (tourkeep2_boxes.c2x o) (tourkeep2_boxes.c2n o) (tourkeep2_boxes.c2q a0 v1 v2 o) := by
  unfold tourkeep2_boxes.c2; exact
   Owp.bif (fun e3 =>
   Owp.some (triple_way (tourkeep2_boxes.cok k) hmix [.dec true, .dec true, .dec true, .dec true] [] [(0, 0)] (via (finP (And.intro (And.intro (And.intro (And.intro trivial e3) e3) e3) e3) .normal [(0, 0)] (tourkeep2_boxes.c2q a0 v1 v2 (ilt (len v2) (24 : Int)))) (by kernel_rfl)))) (fun e3 =>
   Owp.some (triple_way (tourkeep2_boxes.cok k) hmix [.dec false, .dec false, .dec false, .dec false] [] [(0, 0)] (via (finP (And.intro (And.intro (And.intro (And.intro trivial e3) e3) e3) e3) .normal [(0, 0)] (tourkeep2_boxes.c2q a0 v1 v2 false)) (by kernel_rfl))))
noncomputable def tourkeep2_boxes.c1p (a0 : (List Int)) (v1 : Int) (v2 : (List V41)) : SL := ⟨[(0, (.val T31 a0)), (3, (.val .own (0 : Nat))), (4, (.val T2 v1))], [(0, .row T41 v2 42)]⟩
noncomputable def tourkeep2_boxes.c1q (o : (List V41)) : SL := (fun v => ⟨[(3, (.val .own (0 : Nat)))], [(0, .row T41 v 42)]⟩) o
noncomputable def tourkeep2_boxes.c1x (o : (List V41)) : Ex := (fun _ => (.exit 0)) o
noncomputable def tourkeep2_boxes.c1n (o : (List V41)) : Nat := (fun _ => 1) o
theorem tourkeep2_boxes.c1_ok (k : Nat) (a0 : (List Int)) : ∀ (n : Nat) (v1 : Int) (v2 : (List V41)), Owp (tourkeep2_boxes.c1 k a0 n v1 v2) fun o => LTriple PR (tourkeep2_boxes.cx k) (sub tourkeep2_boxes.code [1, 1, 0, 1, 0, 0]) 1 (tourkeep2_boxes.c1p a0 v1 v2) (tourkeep2_boxes.c1x o) (tourkeep2_boxes.c1n o) (tourkeep2_boxes.c1q o)
  | 0, _, _ => fun _ h => nomatch h
  | n + 1, v1, v2 => Owp.of (tourkeep2_boxes.c1.eq_2 ..) (
   Owp.bnd fun o4 e5 =>
   Owp.bif (fun e6 =>
   Owp.req fun h7 =>
    Owp.req fun h8 =>
    Owp.bnd fun y9 e10 =>
    Owp.req fun h11 =>
    Owp.bnd fun y12 e13 =>
    Owp.req fun h14 =>
    Owp.bnd fun y15 e16 =>
    Owp.req fun h17 =>
    fun y hy => loop_back (tourkeep2_boxes.cok k) hmix 1 (tourkeep2_boxes.c1p a0 (iadd .i64 v1 (4 : Int)) (v2 ++ [(y9, ((iadd .i64 y9.1 y12), (iadd .i64 y9.2.1 y15), ()), ())])) [.cutR 3 ⟨[], [(0, 0)], (tourkeep2_boxes.c2p a0 v1 v2), 1, .normal, (tourkeep2_boxes.c2q a0 v1 v2 o4), 1⟩, .dec true, .res (.one (.dp T27)) y9, .res (.one (.dp T2)) y12, .res (.one (.dp T2)) y15, .dec true] [] [(0, 36)] (via (cutP trivial [(0, 0)] (tourkeep2_boxes.c2p a0 v1 v2) (((tourkeep2_boxes.c2_ok k a0 v1 v2).ap e5)) (finP (And.intro (And.intro (And.intro (And.intro (And.intro (And.intro (And.intro (And.intro (And.intro trivial e6) h7) h8) e10) h11) e13) h14) e16) h17) .normal [(0, 36)] (tourkeep2_boxes.c1p a0 (iadd .i64 v1 (4 : Int)) (v2 ++ [(y9, ((iadd .i64 y9.1 y12), (iadd .i64 y9.2.1 y15), ()), ())])))) (by kernel_rfl)) ((tourkeep2_boxes.c1_ok k a0 n (iadd .i64 v1 (4 : Int)) (v2 ++ [(y9, ((iadd .i64 y9.1 y12), (iadd .i64 y9.2.1 y15), ()), ())])).ap hy)) (fun e6 =>
   Owp.some (loop_exit (tourkeep2_boxes.cok k) hmix [.cutR 3 ⟨[], [(0, 0)], (tourkeep2_boxes.c2p a0 v1 v2), 1, .normal, (tourkeep2_boxes.c2q a0 v1 v2 o4), 1⟩, .dec false] [] [(0, 0)] (exne 0) (via (cutP trivial [(0, 0)] (tourkeep2_boxes.c2p a0 v1 v2) (((tourkeep2_boxes.c2_ok k a0 v1 v2).ap e5)) (finP (And.intro trivial e6) (.exit 0) [(0, 0)] (tourkeep2_boxes.c1q v2))) (by kernel_rfl)))))
theorem tourkeep2_boxes.way (k : Nat) (a0 : (List Int)) : Owp (tourkeep2_boxes k a0) fun y => ∃ answers cmds, exec PR (tourkeep2_boxes.cx k) tourkeep2_boxes.code 0 (entry (.pair T31 .unit) (a0, ())).st answers (Ret (tourkeep2_boxes.cx k) Try.f26 cmds (.one (.ow T41 42)) y) := by
  unfold tourkeep2_boxes; exact
   Owp.bnd fun o18 e19 =>
   Owp.some (⟨[.cut ⟨[.own 3 T41 42], [(0, 3)], (tourkeep2_boxes.c1p a0 (0 : Int) []), 1, (.exit 0), (tourkeep2_boxes.c1q o18), 1⟩], [], via (cutP trivial [(0, 3)] (tourkeep2_boxes.c1p a0 (0 : Int) []) (((tourkeep2_boxes.c1_ok k a0 k (0 : Int) []).ap e19).triple) (retP trivial (.one (.ow T41 42)) (o18 : (List V41)))) (by kernel_rfl)⟩)
theorem tourkeep2_boxes.ok (k : Nat) : FnOk PR 26 (tourkeep2_boxes.sp k) :=
  fn_ok (tourkeep2_boxes.cok k) hmix Try.func26 (code := tourkeep2_boxes.code) (by kernel_rfl) (by kernel_rfl) (by kernel_rfl) rfl rfl (by kernel_rfl) (by kernel_rfl) (by kernel_rfl) (fun x => Nat.le_of_ble_eq_true (by kernel_rfl)) fun x y hy => (tourkeep2_boxes.way k x.1).ap hy

/-! slices.Equal[[][2]int,[2]int] -/
noncomputable def slices_Equal_37.code : Code := Func.cd Try.f37
noncomputable def slices_Equal_37.c1 (k : Nat) (a0 : (List (List Int))) (a1 : (List (List Int))) : Nat → Int → Option (Unit ⊕ Unit)
  | 0, _ => none
  | n + 1, v2 =>
   bif' (ilt v2 (len a0))
   (req (inL v2 a0) <|
    req (inL v2 a1) <|
    bif' (Ty.eqb (.arr 2 T2) (el (List.replicate 2 (0 : Int)) a0 v2) (el (List.replicate 2 (0 : Int)) a1 v2))
    (slices_Equal_37.c1 k a0 a1 n (iadd .i64 v2 1))
    (some (.inl ())))
   (some (.inr ()))
noncomputable def slices_Equal_37 (k : Nat) (a0 : (List (List Int))) (a1 : (List (List Int))) : Option Bool :=
  bif' (ine (len a0) (len a1))
  (some false)
  (bnd (slices_Equal_37.c1 k a0 a1 k 0) fun o7 =>
   two o7 (fun y9 =>
   some false) (fun y11 =>
   some true))
noncomputable def slices_Equal_37.sp (k : Nat) : Go.Sx.Spec := ⟨(.pair (.slice (.arr 2 T2)) (.pair (.slice (.arr 2 T2)) .unit)), (.one (.dp T4)), fun x => slices_Equal_37 k x.1 x.2.1, false⟩
noncomputable def slices_Equal_37.cx (k : Nat) : Go.Sx.Ctx := ⟨tys, [], eqs, 26, 0, [], false⟩
theorem slices_Equal_37.cok (k : Nat) : CtxOk PR (slices_Equal_37.cx k) := ctx_ok tysOk eqsOk FnsOk.nil HsOk.nil
noncomputable def slices_Equal_37.c1p (a0 : (List (List Int))) (a1 : (List (List Int))) (v2 : Int) : SL := ⟨[(0, (.val (.slice (.arr 2 T2)) a0)), (1, (.val (.slice (.arr 2 T2)) a1)), (12, (.val T2 (len a0))), (13, (.val T2 v2))], []⟩
noncomputable def slices_Equal_37.c1q (o : Unit ⊕ Unit) : SL := (fun o => two o (fun v => ⟨[(4, (.val T4 false))], []⟩) (fun v => ⟨[], []⟩)) o
noncomputable def slices_Equal_37.c1x (o : Unit ⊕ Unit) : Ex := (fun o => two o (fun _ => .ret) (fun _ => (.exit 0))) o
noncomputable def slices_Equal_37.c1n (o : Unit ⊕ Unit) : Nat := (fun o => two o (fun _ => 0) (fun _ => 0)) o
theorem slices_Equal_37.c1_ok (k : Nat) (a0 : (List (List Int))) (a1 : (List (List Int))) : ∀ (n : Nat) (v2 : Int), Owp (slices_Equal_37.c1 k a0 a1 n v2) fun o => LTriple PR (slices_Equal_37.cx k) (sub slices_Equal_37.code [1, 1, 0, 1, 0, 0]) 0 (slices_Equal_37.c1p a0 a1 v2) (slices_Equal_37.c1x o) (slices_Equal_37.c1n o) (slices_Equal_37.c1q o)
  | 0, _ => fun _ h => nomatch h
  | n + 1, v2 => Owp.of (slices_Equal_37.c1.eq_2 ..) (
   Owp.bif (fun e3 =>
   Owp.req fun h4 =>
    Owp.req fun h5 =>
    Owp.bif (fun e6 =>
    fun y hy => loop_back (slices_Equal_37.cok k) hmix 0 (slices_Equal_37.c1p a0 a1 (iadd .i64 v2 (1 : Int))) [.dec true, .dec false] [] [] (via (finP (And.intro (And.intro (And.intro (And.intro trivial e3) h4) h5) (congrArg not e6)) .normal [] (slices_Equal_37.c1p a0 a1 (iadd .i64 v2 (1 : Int)))) (by kernel_rfl)) ((slices_Equal_37.c1_ok k a0 a1 n (iadd .i64 v2 (1 : Int))).ap hy)) (fun e6 =>
    Owp.some (loop_exit (slices_Equal_37.cok k) hmix [.dec true, .dec true] [] [] exne_ret (via (finP (And.intro (And.intro (And.intro (And.intro trivial e3) h4) h5) (congrArg not e6)) .ret [] (slices_Equal_37.c1q (.inl ()))) (by kernel_rfl))))) (fun e3 =>
   Owp.some (loop_exit (slices_Equal_37.cok k) hmix [.dec false] [] [] (exne 0) (via (finP (And.intro trivial e3) (.exit 0) [] (slices_Equal_37.c1q (.inr ()))) (by kernel_rfl)))))
theorem slices_Equal_37.way (k : Nat) (a0 : (List (List Int))) (a1 : (List (List Int))) : Owp (slices_Equal_37 k a0 a1) fun y => ∃ answers cmds, exec PR (slices_Equal_37.cx k) slices_Equal_37.code 0 (entry (.pair (.slice (.arr 2 T2)) (.pair (.slice (.arr 2 T2)) .unit)) (a0, a1, ())).st answers (Ret (slices_Equal_37.cx k) Try.f37 cmds (.one (.dp T4)) y) := by
  unfold slices_Equal_37; exact
   Owp.bif (fun e1 =>
   Owp.some (⟨[.dec true], [], via (retP (And.intro trivial e1) (.one (.dp T4)) (false : Bool)) (by kernel_rfl)⟩)) (fun e1 =>
   Owp.bnd fun o7 e8 =>
    Owp.two (fun y9 e10 =>
    Owp.some (⟨[.dec false, .cut ⟨[], [], (slices_Equal_37.c1p a0 a1 (0 : Int)), 0, .ret, (slices_Equal_37.c1q (.inl ())), 0⟩], [], via (cutP (And.intro trivial e1) [] (slices_Equal_37.c1p a0 a1 (0 : Int)) (((slices_Equal_37.c1_ok k a0 a1 k (0 : Int)).ap (e8.trans (congrArg some e10))).triple) (retP trivial (.one (.dp T4)) (false : Bool))) (by kernel_rfl)⟩)) (fun y11 e12 =>
    Owp.some (⟨[.dec false, .cut ⟨[], [], (slices_Equal_37.c1p a0 a1 (0 : Int)), 0, (.exit 0), (slices_Equal_37.c1q (.inr ())), 0⟩], [], via (cutP (And.intro trivial e1) [] (slices_Equal_37.c1p a0 a1 (0 : Int)) (((slices_Equal_37.c1_ok k a0 a1 k (0 : Int)).ap (e8.trans (congrArg some e12))).triple) (retP trivial (.one (.dp T4)) (true : Bool))) (by kernel_rfl)⟩)))
theorem slices_Equal_37.ok (k : Nat) : FnOk PR 37 (slices_Equal_37.sp k) :=
  fn_ok (slices_Equal_37.cok k) hmix Try.func37 (code := slices_Equal_37.code) (by kernel_rfl) (by kernel_rfl) (by kernel_rfl) rfl rfl (by kernel_rfl) (by kernel_rfl) (by kernel_rfl) (fun x => Nat.le_of_ble_eq_true (by kernel_rfl)) fun x y hy => (slices_Equal_37.way k x.1 x.2.1).ap hy

/-! tourney/tourkeep2.sweeps -/
noncomputable def tourkeep2_sweeps.code : Code := Func.cd Try.f27
noncomputable def tourkeep2_sweeps (k : Nat) : Option Bool :=
  bnd (sweep_Pairs k [((0, 0, ()), (5, 5, ()), ()), ((0, 0, ()), (5, 5, ()), ())]) fun y1 =>
  bnd (slices_Equal_37 k y1 [[0, 1]]) fun y3 =>
  bif' y3
  (bnd (sweep_Meet k ((0, 0, ()), (5, 5, ()), ()) ((0, 0, ()), (5, 5, ()), ())) fun y6 =>
   some y6)
  (some false)
noncomputable def tourkeep2_sweeps.sp (k : Nat) : Go.Sx.Spec := ⟨.unit, (.one (.dp T4)), fun x => tourkeep2_sweeps k, false⟩
noncomputable def tourkeep2_sweeps.cx (k : Nat) : Go.Sx.Ctx := ⟨tys, [(30, sweep_Pairs.sp k), (37, slices_Equal_37.sp k), (29, sweep_Meet.sp k)], eqs, 16, 0, [], false⟩
theorem tourkeep2_sweeps.cok (k : Nat) : CtxOk PR (tourkeep2_sweeps.cx k) := ctx_ok tysOk eqsOk (FnsOk.cons (sweep_Pairs.ok k) (FnsOk.cons (slices_Equal_37.ok k) (FnsOk.cons (sweep_Meet.ok k) FnsOk.nil))) HsOk.nil
theorem tourkeep2_sweeps.way (k : Nat) : Owp (tourkeep2_sweeps k) fun y => ∃ answers cmds, exec PR (tourkeep2_sweeps.cx k) tourkeep2_sweeps.code 0 (entry .unit ()).st answers (Ret (tourkeep2_sweeps.cx k) Try.f27 cmds (.one (.dp T4)) y) := by
  unfold tourkeep2_sweeps; exact
   Owp.bnd fun y1 e2 =>
   Owp.bnd fun y3 e4 =>
   Owp.bif (fun e5 =>
   Owp.bnd fun y6 e7 =>
    Owp.some (⟨[.dec true, .res (.one (.ow (.arr 2 T2) 49)) y1, .dec true, .res (.one (.dp T4)) y3, .dec true, .dec true, .dec true, .res (.one (.dp T4)) y6, .dec true], [], via (retP (And.intro (And.intro (And.intro (And.intro (And.intro (And.intro trivial e2) e4) e5) e5) (And.intro e5 e7)) e5) (.one (.dp T4)) (y6 : Bool)) (by kernel_rfl)⟩)) (fun e5 =>
   Owp.some (⟨[.dec true, .res (.one (.ow (.arr 2 T2) 49)) y1, .dec true, .res (.one (.dp T4)) y3, .dec false, .dec false, .dec false, .dec true, .dec false], [], via (retP (And.intro (And.intro (And.intro (And.intro (And.intro (And.intro trivial e2) e4) e5) e5) e5) e5) (.one (.dp T4)) (false : Bool)) (by kernel_rfl)⟩))
theorem tourkeep2_sweeps.ok (k : Nat) : FnOk PR 27 (tourkeep2_sweeps.sp k) :=
  fn_ok (tourkeep2_sweeps.cok k) hmix Try.func27 (code := tourkeep2_sweeps.code) (by kernel_rfl) (by kernel_rfl) (by kernel_rfl) rfl rfl (by kernel_rfl) (by kernel_rfl) (by kernel_rfl) (fun x => Nat.le_of_ble_eq_true (by kernel_rfl)) fun x y hy => (tourkeep2_sweeps.way k).ap hy

end Go.Proofs.T1
