import Derived.Test.YtolkdkhdkfndfaaG0
import Derived.Test.YtolkdkhdkfndfaaG1
import Derived.Test.YtolkdkhdkfndfaaG2
namespace Go.Proofs.T1
open Go Go.Sx Go.Proofs
set_option maxRecDepth 100000
set_option linter.unusedVariables false
/-! tourney/tourkeep2.boxes -/
noncomputable def tourkeep2_boxes.code : Code := Func.cd Try.f26
noncomputable def tourkeep2_boxes.c2 (k : Nat) (a0 : (List Int)) (v1 : Int) (v2 : (List V41)) : Option (Bool) :=
  bif' (ilt (iadd .i64 v1 3) (len a0))
  (some (ilt (len v2) 24))
  (some false)
noncomputable def tourkeep2_boxes.c1 (k : Nat) (a0 : (List Int)) : Nat → Int → (List V41) → Option ((List V41))
  | 0, _, _ => none
  | n + 1, v1, v2 =>
   bnd (tourkeep2_boxes.c2 k a0 v1 v2) fun o4 =>
   bif' o4
   (req (inL v1 a0) <|
    req (inL (iadd .i64 v1 1) a0) <|
    bnd (tourkeep2_place k (el 0 a0 v1) (el 0 a0 (iadd .i64 v1 1))) fun y9 =>
    req (inL (iadd .i64 v1 2) a0) <|
    bnd (tourmake_Below k (el 0 a0 (iadd .i64 v1 2)) 262144) fun y12 =>
    req (inL (iadd .i64 v1 3) a0) <|
    bnd (tourmake_Below k (el 0 a0 (iadd .i64 v1 3)) 262144) fun y15 =>
    req (room 32 v2 [(y9, ((iadd .i64 y9.1 y12), (iadd .i64 y9.2.1 y15), ()), ())]) <|
    tourkeep2_boxes.c1 k a0 n (iadd .i64 v1 4) (v2 ++ [(y9, ((iadd .i64 y9.1 y12), (iadd .i64 y9.2.1 y15), ()), ())]))
   (some v2)
noncomputable def tourkeep2_boxes (k : Nat) (a0 : (List Int)) : Option (List V41) :=
  bnd (tourkeep2_boxes.c1 k a0 k 0 []) fun o18 =>
  some o18
noncomputable def tourkeep2_boxes.sp (k : Nat) : Go.Sx.Spec := ⟨(.pair T31 .unit), (.one (.ow T41 42)), fun x => tourkeep2_boxes k x.1, false⟩
noncomputable def tourkeep2_boxes.cx (k : Nat) : Go.Sx.Ctx := ⟨tys, [(18, tourkeep2_place.sp k), (82, tourmake_Below.sp k)], eqs, 53, 0, [], false⟩
theorem tourkeep2_boxes.cok (k : Nat) : CtxOk PR (tourkeep2_boxes.cx k) := ctx_ok tysOk eqsOk (FnsOk.cons (tourkeep2_place.ok k) (FnsOk.cons (tourmake_Below.ok k) FnsOk.nil)) HsOk.nil
noncomputable def tourkeep2_boxes.c2p (a0 : (List Int)) (v1 : Int) (v2 : (List V41)) : SL := ⟨[(0, (.val T31 a0)), (3, (.val .own (0 : Nat))), (4, (.val T2 v1))], [(0, .row T41 v2 42)]⟩
noncomputable def tourkeep2_boxes.c2q (a0 : (List Int)) (v1 : Int) (v2 : (List V41)) (o : Bool) : SL := (fun v => ⟨[(0, (.val T31 a0)), (3, (.val .own (0 : Nat))), (4, (.val T2 v1)), (15, (.val T4 v))], [(0, .row T41 v2 42)]⟩) o
noncomputable def tourkeep2_boxes.c2x (o : Bool) : Ex := (fun _ => .normal) o
noncomputable def tourkeep2_boxes.c2n (o : Bool) : Nat := (fun _ => 1) o
theorem tourkeep2_boxes.c2_ok (k : Nat) (a0 : (List Int)) (v1 : Int) (v2 : (List V41)) : Owp (tourkeep2_boxes.c2 k a0 v1 v2) fun o => Triple PR (tourkeep2_boxes.cx k) (sub tourkeep2_boxes.code [1, 1, 0, 1, 0, 0, 0, 0]) 1 (tourkeep2_boxes.c2p a0 v1 v2) (tourkeep2_boxes.c2x o) (tourkeep2_boxes.c2n o) (tourkeep2_boxes.c2q a0 v1 v2 o) := by
  unfold tourkeep2_boxes.c2; exact
   Owp.bif (fun e3 =>
   Owp.some (triple_way (tourkeep2_boxes.cok k) hmix [.dec true, .dec true, .dec true, .dec true] [] [(0, 0)] (via (finP (And.intro (And.intro (And.intro (And.intro trivial e3) e3) e3) e3) .normal [(0, 0)] (tourkeep2_boxes.c2q a0 v1 v2 (ilt (len v2) (24 : Int)))) (by kernel_rfl)))) (fun e3 =>
   Owp.some (triple_way (tourkeep2_boxes.cok k) hmix [.dec false, .dec false, .dec false, .dec false] [] [(0, 0)] (via (finP (And.intro (And.intro (And.intro (And.intro trivial e3) e3) e3) e3) .normal [(0, 0)] (tourkeep2_boxes.c2q a0 v1 v2 false)) (by kernel_rfl))))
noncomputable def tourkeep2_boxes.c1p (a0 : (List Int)) (v1 : Int) (v2 : (List V41)) : SL := ⟨[(0, (.val T31 a0)), (3, (.val .own (0 : Nat))), (4, (.val T2 v1))], [(0, .row T41 v2 42)]⟩
noncomputable def tourkeep2_boxes.c1q (o : (List V41)) : SL := (fun v => ⟨[(3, (.val .own (0 : Nat)))], [(0, .row T41 v 42)]⟩) o
noncomputable def tourkeep2_boxes.c1x (o : (List V41)) : Ex := (fun _ => (.exit 0)) o
noncomputable def tourkeep2_boxes.c1n (o : (List V41)) : Nat := (fun _ => 1) o
theorem tourkeep2_boxes.c1_ok (k : Nat) (a0 : (List Int)) : ∀ (n : Nat) (v1 : Int) (v2 : (List V41)), Owp (tourkeep2_boxes.c1 k a0 n v1 v2) fun o => LTriple PR (tourkeep2_boxes.cx k) (sub tourkeep2_boxes.code [1, 1, 0, 1, 0, 0]) 1 (tourkeep2_boxes.c1p a0 v1 v2) (tourkeep2_boxes.c1x o) (tourkeep2_boxes.c1n o) (tourkeep2_boxes.c1q o)
  | 0, _, _ => fun _ h => nomatch h
  | n + 1, v1, v2 => Owp.of (tourkeep2_boxes.c1.eq_2 ..) (
   Owp.bnd fun o4 e5 =>
   Owp.bif (fun e6 =>
   Owp.req fun h7 =>
    Owp.req fun h8 =>
    Owp.bnd fun y9 e10 =>
    Owp.req fun h11 =>
    Owp.bnd fun y12 e13 =>
    Owp.req fun h14 =>
    Owp.bnd fun y15 e16 =>
    Owp.req fun h17 =>
    fun y hy => loop_back (tourkeep2_boxes.cok k) hmix 1 (tourkeep2_boxes.c1p a0 (iadd .i64 v1 (4 : Int)) (v2 ++ [(y9, ((iadd .i64 y9.1 y12), (iadd .i64 y9.2.1 y15), ()), ())])) [.cutR 3 ⟨[], [(0, 0)], (tourkeep2_boxes.c2p a0 v1 v2), 1, .normal, (tourkeep2_boxes.c2q a0 v1 v2 o4), 1⟩, .dec true, .res (.one (.dp T27)) y9, .res (.one (.dp T2)) y12, .res (.one (.dp T2)) y15, .dec true] [] [(0, 36)] (via (cutP trivial [(0, 0)] (tourkeep2_boxes.c2p a0 v1 v2) (((tourkeep2_boxes.c2_ok k a0 v1 v2).ap e5)) (finP (And.intro (And.intro (And.intro (And.intro (And.intro (And.intro (And.intro (And.intro (And.intro trivial e6) h7) h8) e10) h11) e13) h14) e16) h17) .normal [(0, 36)] (tourkeep2_boxes.c1p a0 (iadd .i64 v1 (4 : Int)) (v2 ++ [(y9, ((iadd .i64 y9.1 y12), (iadd .i64 y9.2.1 y15), ()), ())])))) (by kernel_rfl)) ((tourkeep2_boxes.c1_ok k a0 n (iadd .i64 v1 (4 : Int)) (v2 ++ [(y9, ((iadd .i64 y9.1 y12), (iadd .i64 y9.2.1 y15), ()), ())])).ap hy)) (fun e6 =>
   Owp.some (loop_exit (tourkeep2_boxes.cok k) hmix [.cutR 3 ⟨[], [(0, 0)], (tourkeep2_boxes.c2p a0 v1 v2), 1, .normal, (tourkeep2_boxes.c2q a0 v1 v2 o4), 1⟩, .dec false] [] [(0, 0)] (exne 0) (via (cutP trivial [(0, 0)] (tourkeep2_boxes.c2p a0 v1 v2) (((tourkeep2_boxes.c2_ok k a0 v1 v2).ap e5)) (finP (And.intro trivial e6) (.exit 0) [(0, 0)] (tourkeep2_boxes.c1q v2))) (by kernel_rfl)))))
theorem tourkeep2_boxes.way (k : Nat) (a0 : (List Int)) : Owp (tourkeep2_boxes k a0) fun y => ∃ answers cmds, exec PR (tourkeep2_boxes.cx k) tourkeep2_boxes.code 0 (entry (.pair T31 .unit) (a0, ())).st answers (Ret (tourkeep2_boxes.cx k) Try.f26 cmds (.one (.ow T41 42)) y) := by
  unfold tourkeep2_boxes; exact
   Owp.bnd fun o18 e19 =>
   Owp.some (⟨[.cut ⟨[.own 3 T41 42], [(0, 3)], (tourkeep2_boxes.c1p a0 (0 : Int) []), 1, (.exit 0), (tourkeep2_boxes.c1q o18), 1⟩], [], via (cutP trivial [(0, 3)] (tourkeep2_boxes.c1p a0 (0 : Int) []) (((tourkeep2_boxes.c1_ok k a0 k (0 : Int) []).ap e19).triple) (retP trivial (.one (.ow T41 42)) (o18 : (List V41)))) (by kernel_rfl)⟩)
theorem tourkeep2_boxes.ok (k : Nat) : FnOk PR 26 (tourkeep2_boxes.sp k) :=
  fn_ok (tourkeep2_boxes.cok k) hmix Try.func26 (code := tourkeep2_boxes.code) (by kernel_rfl) (by kernel_rfl) (by kernel_rfl) rfl rfl (by kernel_rfl) (by kernel_rfl) (by kernel_rfl) (fun x => Nat.le_of_ble_eq_true (by kernel_rfl)) fun x y hy => (tourkeep2_boxes.way k x.1).ap hy

/-! tourney/tourkeep2.sweeps -/
noncomputable def tourkeep2_sweeps.code : Code := Func.cd Try.f27
noncomputable def tourkeep2_sweeps (k : Nat) : Option Bool :=
  bnd (sweep_Pairs k [((0, 0, ()), (5, 5, ()), ()), ((0, 0, ()), (5, 5, ()), ())]) fun y1 =>
  bnd (slices_Equal k y1 [[0, 1]]) fun y3 =>
  bif' y3
  (bnd (sweep_Meet k ((0, 0, ()), (5, 5, ()), ()) ((0, 0, ()), (5, 5, ()), ())) fun y6 =>
   some y6)
  (some false)
noncomputable def tourkeep2_sweeps.sp (k : Nat) : Go.Sx.Spec := ⟨.unit, (.one (.dp T4)), fun x => tourkeep2_sweeps k, false⟩
noncomputable def tourkeep2_sweeps.cx (k : Nat) : Go.Sx.Ctx := ⟨tys, [(30, sweep_Pairs.sp k), (37, slices_Equal.sp k), (29, sweep_Meet.sp k)], eqs, 16, 0, [], false⟩
theorem tourkeep2_sweeps.cok (k : Nat) : CtxOk PR (tourkeep2_sweeps.cx k) := ctx_ok tysOk eqsOk (FnsOk.cons (sweep_Pairs.ok k) (FnsOk.cons (slices_Equal.ok k) (FnsOk.cons (sweep_Meet.ok k) FnsOk.nil))) HsOk.nil
theorem tourkeep2_sweeps.way (k : Nat) : Owp (tourkeep2_sweeps k) fun y => ∃ answers cmds, exec PR (tourkeep2_sweeps.cx k) tourkeep2_sweeps.code 0 (entry .unit ()).st answers (Ret (tourkeep2_sweeps.cx k) Try.f27 cmds (.one (.dp T4)) y) := by
  unfold tourkeep2_sweeps; exact
   Owp.bnd fun y1 e2 =>
   Owp.bnd fun y3 e4 =>
   Owp.bif (fun e5 =>
   Owp.bnd fun y6 e7 =>
    Owp.some (⟨[.dec true, .res (.one (.ow (.arr 2 T2) 49)) y1, .dec true, .res (.one (.dp T4)) y3, .dec true, .dec true, .dec true, .res (.one (.dp T4)) y6, .dec true], [], via (retP (And.intro (And.intro (And.intro (And.intro (And.intro (And.intro trivial e2) e4) e5) e5) (And.intro e5 e7)) e5) (.one (.dp T4)) (y6 : Bool)) (by kernel_rfl)⟩)) (fun e5 =>
   Owp.some (⟨[.dec true, .res (.one (.ow (.arr 2 T2) 49)) y1, .dec true, .res (.one (.dp T4)) y3, .dec false, .dec false, .dec false, .dec true, .dec false], [], via (retP (And.intro (And.intro (And.intro (And.intro (And.intro (And.intro trivial e2) e4) e5) e5) e5) e5) (.one (.dp T4)) (false : Bool)) (by kernel_rfl)⟩))
theorem tourkeep2_sweeps.ok (k : Nat) : FnOk PR 27 (tourkeep2_sweeps.sp k) :=
  fn_ok (tourkeep2_sweeps.cok k) hmix Try.func27 (code := tourkeep2_sweeps.code) (by kernel_rfl) (by kernel_rfl) (by kernel_rfl) rfl rfl (by kernel_rfl) (by kernel_rfl) (by kernel_rfl) (fun x => Nat.le_of_ble_eq_true (by kernel_rfl)) fun x y hy => (tourkeep2_sweeps.way k).ap hy

/-! tourney/tourkeep2.SweepJoins -/
noncomputable def tourkeep2_SweepJoins.code : Code := Func.cd Try.f5
noncomputable def tourkeep2_SweepJoins.c2 (k : Nat) (v6 : Int) (y1 : (List V41)) (y11 : V41) : Option (Bool) :=
  bnd (sweep_Join k (el Z41 y1 (iadd .i64 v6 1)) (el Z41 y1 v6)) fun y13 =>
  bif' (Ty.eqb T41 y11 y13)
  (bnd (sweep_Join k y11 (el Z41 y1 v6)) fun y16 =>
   bif' (Ty.eqb T41 y16 y11)
   (bnd (sweep_Join k (el Z41 y1 v6) (el Z41 y1 v6)) fun y19 =>
    bif' (Ty.eqb T41 y19 (el Z41 y1 v6))
    (bnd (sweep_Meet k (el Z41 y1 v6) (el Z41 y1 (iadd .i64 v6 2))) fun y22 =>
     bif' y22
     (bnd (sweep_Meet k y11 (el Z41 y1 (iadd .i64 v6 2))) fun y25 =>
      some (!y25))
     (bnd (sweep_Meet k (el Z41 y1 (iadd .i64 v6 1)) (el Z41 y1 (iadd .i64 v6 2))) fun y27 =>
      bif' y27
      (bnd (sweep_Meet k y11 (el Z41 y1 (iadd .i64 v6 2))) fun y30 =>
       some (!y30))
      (some false)))
    (some true))
   (some true))
  (some true)
noncomputable def tourkeep2_SweepJoins.c1 (k : Nat) (y1 : (List V41)) : Nat → Int → Option (Unit ⊕ Unit)
  | 0, _ => none
  | n + 1, v6 =>
   bif' (ilt (iadd .i64 v6 2) (len y1))
   (req (inL v6 y1) <|
    req (inL (iadd .i64 v6 1) y1) <|
    req (inL (iadd .i64 v6 2) y1) <|
    bnd (sweep_Join k (el Z41 y1 v6) (el Z41 y1 (iadd .i64 v6 1))) fun y11 =>
    bnd (tourkeep2_SweepJoins.c2 k v6 y1 y11) fun o32 =>
    bif' o32
    (some (.inl ()))
    (tourkeep2_SweepJoins.c1 k y1 n (iadd .i64 v6 3)))
   (some (.inr ()))
noncomputable def tourkeep2_SweepJoins (k : Nat) (a0 : (List Int)) : Option Bool :=
  bnd (tourkeep2_boxes k a0) fun y1 =>
  bnd (tourkeep2_sweeps k) fun y3 =>
  bif' y3
  (bnd (tourkeep2_SweepJoins.c1 k y1 k 0) fun o35 =>
   two o35 (fun y37 =>
   some false) (fun y39 =>
   some true))
  (some false)
noncomputable def tourkeep2_SweepJoins.sp (k : Nat) : Go.Sx.Spec := ⟨(.pair T31 .unit), (.one (.dp T4)), fun x => tourkeep2_SweepJoins k x.1, false⟩
noncomputable def tourkeep2_SweepJoins.cx (k : Nat) : Go.Sx.Ctx := ⟨tys, [(26, tourkeep2_boxes.sp k), (27, tourkeep2_sweeps.sp k), (28, sweep_Join.sp k), (29, sweep_Meet.sp k)], eqs, 72, 0, [], false⟩
theorem tourkeep2_SweepJoins.cok (k : Nat) : CtxOk PR (tourkeep2_SweepJoins.cx k) := ctx_ok tysOk eqsOk (FnsOk.cons (tourkeep2_boxes.ok k) (FnsOk.cons (tourkeep2_sweeps.ok k) (FnsOk.cons (sweep_Join.ok k) (FnsOk.cons (sweep_Meet.ok k) FnsOk.nil)))) HsOk.nil
noncomputable def tourkeep2_SweepJoins.c2p (v6 : Int) (y1 : (List V41)) (y11 : V41) : SL := ⟨[(3, (.val .own (0 : Nat))), (4, (.val T2 v6)), (5, (.val .ptr ⟨1, 0, (0 : Int), 0, 0⟩)), (6, (.val .ptr ⟨2, 0, (0 : Int), 0, 0⟩)), (7, (.val .ptr ⟨3, 0, (0 : Int), 0, 0⟩)), (8, (.val .ptr ⟨4, 0, (0 : Int), 0, 0⟩))], [(0, .row T41 y1 42), (1, .cells T41 (el Z41 y1 v6)), (2, .cells T41 (el Z41 y1 (iadd .i64 v6 (1 : Int)))), (3, .cells T41 (el Z41 y1 (iadd .i64 v6 (2 : Int)))), (4, .cells T41 y11)]⟩
noncomputable def tourkeep2_SweepJoins.c2q (v6 : Int) (y1 : (List V41)) (o : Bool) : SL := (fun v => ⟨[(3, (.val .own (0 : Nat))), (4, (.val T2 v6)), (71, (.val T4 v))], [(0, .row T41 y1 42)]⟩) o
noncomputable def tourkeep2_SweepJoins.c2x (o : Bool) : Ex := (fun _ => .normal) o
noncomputable def tourkeep2_SweepJoins.c2n (o : Bool) : Nat := (fun _ => 1) o
theorem tourkeep2_SweepJoins.c2_ok (k : Nat) (v6 : Int) (y1 : (List V41)) (y11 : V41) : Owp (tourkeep2_SweepJoins.c2 k v6 y1 y11) fun o => Triple PR (tourkeep2_SweepJoins.cx k) (sub tourkeep2_SweepJoins.code [1, 1, 1, 0, 1, 0, 0, 1, 0, 0, 1, 1, 0]) 5 (tourkeep2_SweepJoins.c2p v6 y1 y11) (tourkeep2_SweepJoins.c2x o) (tourkeep2_SweepJoins.c2n o) (tourkeep2_SweepJoins.c2q v6 y1 o) := by
  unfold tourkeep2_SweepJoins.c2; exact
   Owp.bnd fun y13 e14 =>
   Owp.bif (fun e15 =>
   Owp.bnd fun y16 e17 =>
    Owp.bif (fun e18 =>
    Owp.bnd fun y19 e20 =>
     Owp.bif (fun e21 =>
     Owp.bnd fun y22 e23 =>
      Owp.bif (fun e24 =>
      Owp.bnd fun y25 e26 =>
       Owp.some (triple_way (tourkeep2_SweepJoins.cok k) hmix [.res (.one (.dp T41)) y13, .dec false, .dec false, .dec false, .res (.one (.dp T41)) y16, .dec false, .dec false, .dec false, .dec false, .dec false, .dec false, .res (.one (.dp T41)) y19, .dec false, .dec false, .dec false, .dec false, .dec false, .dec false, .res (.one (.dp T4)) y22, .dec false, .dec true, .dec true, .dec true, .dec true, .dec false, .dec true, .dec false, .dec true, .dec true, .dec true, .res (.one (.dp T4)) y25, .dec true, .dec false, .dec true, .dec false] [] [(0, 0)] (via (finP (And.intro (And.intro (And.intro (And.intro (And.intro (And.intro (And.intro (And.intro (And.intro (And.intro (And.intro (And.intro (And.intro (And.intro (And.intro (And.intro (And.intro (And.intro (And.intro (And.intro (And.intro (And.intro (And.intro (And.intro (And.intro (And.intro (And.intro (And.intro trivial e14) (congrArg not e15)) (congrArg not e15)) (And.intro (congrArg not e15) e17)) (congrArg not e15)) (congrArg not e15)) (congrArg not e15)) (congrArg not e18)) (congrArg not e18)) (And.intro (congrArg not e18) e20)) (congrArg not e18)) (congrArg not e18)) (congrArg not e18)) (congrArg not e21)) (congrArg not e21)) (And.intro (congrArg not e21) e23)) (congrArg not e21)) e24) e24) e24) (And.intro (congrArg not e21) e24)) (congrArg not e21)) tt) tt) (And.intro tt e26)) tt) (And.intro (congrArg not e21) tt)) (congrArg not e21)) .normal [(0, 0)] (tourkeep2_SweepJoins.c2q v6 y1 (!y25))) (by kernel_rfl)))) (fun e24 =>
      Owp.bnd fun y27 e28 =>
       Owp.bif (fun e29 =>
       Owp.bnd fun y30 e31 =>
        Owp.some (triple_way (tourkeep2_SweepJoins.cok k) hmix [.res (.one (.dp T41)) y13, .dec false, .dec false, .dec false, .res (.one (.dp T41)) y16, .dec false, .dec false, .dec false, .dec false, .dec false, .dec false, .res (.one (.dp T41)) y19, .dec false, .dec false, .dec false, .dec false, .dec false, .dec false, .res (.one (.dp T4)) y22, .dec false, .dec false, .dec false, .dec false, .res (.one (.dp T4)) y27, .dec false, .dec false, .dec false, .dec true, .dec true, .dec true, .res (.one (.dp T4)) y30, .dec true, .dec false, .dec true, .dec false] [] [(0, 0)] (via (finP (And.intro (And.intro (And.intro (And.intro (And.intro (And.intro (And.intro (And.intro (And.intro (And.intro (And.intro (And.intro (And.intro (And.intro (And.intro (And.intro (And.intro (And.intro (And.intro (And.intro (And.intro (And.intro (And.intro (And.intro (And.intro (And.intro (And.intro (And.intro trivial e14) (congrArg not e15)) (congrArg not e15)) (And.intro (congrArg not e15) e17)) (congrArg not e15)) (congrArg not e15)) (congrArg not e15)) (congrArg not e18)) (congrArg not e18)) (And.intro (congrArg not e18) e20)) (congrArg not e18)) (congrArg not e18)) (congrArg not e18)) (congrArg not e21)) (congrArg not e21)) (And.intro (congrArg not e21) e23)) (congrArg not e21)) e24) e24) (And.intro e24 e28)) (And.intro (congrArg not e21) e24)) (congrArg not e21)) e29) e29) (And.intro e29 e31)) e29) (And.intro (congrArg not e21) e29)) (congrArg not e21)) .normal [(0, 0)] (tourkeep2_SweepJoins.c2q v6 y1 (!y30))) (by kernel_rfl)))) (fun e29 =>
       Owp.some (triple_way (tourkeep2_SweepJoins.cok k) hmix [.res (.one (.dp T41)) y13, .dec false, .dec false, .dec false, .res (.one (.dp T41)) y16, .dec false, .dec false, .dec false, .dec false, .dec false, .dec false, .res (.one (.dp T41)) y19, .dec false, .dec false, .dec false, .dec false, .dec false, .dec false, .res (.one (.dp T4)) y22, .dec false, .dec false, .dec false, .dec false, .res (.one (.dp T4)) y27, .dec false, .dec false, .dec false, .dec false, .dec false, .dec false, .dec true, .dec false, .dec false, .dec false, .dec false] [] [(0, 0)] (via (finP (And.intro (And.intro (And.intro (And.intro (And.intro (And.intro (And.intro (And.intro (And.intro (And.intro (And.intro (And.intro (And.intro (And.intro (And.intro (And.intro (And.intro (And.intro (And.intro (And.intro (And.intro (And.intro (And.intro (And.intro (And.intro (And.intro (And.intro (And.intro trivial e14) (congrArg not e15)) (congrArg not e15)) (And.intro (congrArg not e15) e17)) (congrArg not e15)) (congrArg not e15)) (congrArg not e15)) (congrArg not e18)) (congrArg not e18)) (And.intro (congrArg not e18) e20)) (congrArg not e18)) (congrArg not e18)) (congrArg not e18)) (congrArg not e21)) (congrArg not e21)) (And.intro (congrArg not e21) e23)) (congrArg not e21)) e24) e24) (And.intro e24 e28)) (And.intro (congrArg not e21) e24)) (congrArg not e21)) e29) e29) e29) e29) (And.intro (congrArg not e21) e29)) (congrArg not e21)) .normal [(0, 0)] (tourkeep2_SweepJoins.c2q v6 y1 false)) (by kernel_rfl)))))) (fun e21 =>
     Owp.some (triple_way (tourkeep2_SweepJoins.cok k) hmix [.res (.one (.dp T41)) y13, .dec false, .dec false, .dec false, .res (.one (.dp T41)) y16, .dec false, .dec false, .dec false, .dec false, .dec false, .dec false, .res (.one (.dp T41)) y19, .dec false, .dec false, .dec false, .dec true, .dec true, .dec true, .dec true, .dec true, .dec true, .dec true, .dec true, .dec true, .dec true, .dec true, .dec true, .dec true, .dec true, .dec true, .dec true, .dec true, .dec true, .dec true, .dec true] [] [(0, 0)] (via (finP (And.intro (And.intro (And.intro (And.intro (And.intro (And.intro (And.intro (And.intro (And.intro (And.intro (And.intro (And.intro (And.intro (And.intro (And.intro (And.intro (And.intro (And.intro (And.intro (And.intro (And.intro trivial e14) (congrArg not e15)) (congrArg not e15)) (And.intro (congrArg not e15) e17)) (congrArg not e15)) (congrArg not e15)) (congrArg not e15)) (congrArg not e18)) (congrArg not e18)) (And.intro (congrArg not e18) e20)) (congrArg not e18)) (congrArg not e18)) (congrArg not e18)) (congrArg not e21)) (congrArg not e21)) (congrArg not e21)) (congrArg not e21)) (congrArg not e21)) (congrArg not e21)) (congrArg not e21)) (congrArg not e21)) .normal [(0, 0)] (tourkeep2_SweepJoins.c2q v6 y1 true)) (by kernel_rfl))))) (fun e18 =>
    Owp.some (triple_way (tourkeep2_SweepJoins.cok k) hmix [.res (.one (.dp T41)) y13, .dec false, .dec false, .dec false, .res (.one (.dp T41)) y16, .dec false, .dec false, .dec false, .dec true, .dec true, .dec true, .dec true, .dec true, .dec true, .dec true, .dec true, .dec true, .dec true, .dec true, .dec true, .dec true, .dec true, .dec true, .dec true, .dec true, .dec true, .dec true, .dec true, .dec true, .dec true, .dec true, .dec true, .dec true, .dec true, .dec true] [] [(0, 0)] (via (finP (And.intro (And.intro (And.intro (And.intro (And.intro (And.intro (And.intro (And.intro (And.intro (And.intro (And.intro (And.intro (And.intro (And.intro (And.intro (And.intro (And.intro (And.intro (And.intro (And.intro (And.intro trivial e14) (congrArg not e15)) (congrArg not e15)) (And.intro (congrArg not e15) e17)) (congrArg not e15)) (congrArg not e15)) (congrArg not e15)) (congrArg not e18)) (congrArg not e18)) (congrArg not e18)) (congrArg not e18)) (congrArg not e18)) (congrArg not e18)) tt) tt) tt) tt) tt) tt) tt) tt) .normal [(0, 0)] (tourkeep2_SweepJoins.c2q v6 y1 true)) (by kernel_rfl))))) (fun e15 =>
   Owp.some (triple_way (tourkeep2_SweepJoins.cok k) hmix [.res (.one (.dp T41)) y13, .dec true, .dec true, .dec true, .dec true, .dec true, .dec true, .dec true, .dec true, .dec true, .dec true, .dec true, .dec true, .dec true, .dec true, .dec true, .dec true, .dec true, .dec true, .dec true, .dec true, .dec true, .dec true, .dec true, .dec true, .dec true, .dec true, .dec true, .dec true, .dec true, .dec true, .dec true, .dec true, .dec true, .dec true] [] [(0, 0)] (via (finP (And.intro (And.intro (And.intro (And.intro (And.intro (And.intro (And.intro (And.intro (And.intro (And.intro (And.intro (And.intro (And.intro (And.intro (And.intro (And.intro (And.intro (And.intro (And.intro (And.intro (And.intro trivial e14) (congrArg not e15)) (congrArg not e15)) (congrArg not e15)) (congrArg not e15)) (congrArg not e15)) (congrArg not e15)) tt) tt) tt) tt) tt) tt) tt) tt) tt) tt) tt) tt) tt) tt) .normal [(0, 0)] (tourkeep2_SweepJoins.c2q v6 y1 true)) (by kernel_rfl))))
noncomputable def tourkeep2_SweepJoins.c1p (y1 : (List V41)) (v6 : Int) : SL := ⟨[(3, (.val .own (0 : Nat))), (4, (.val T2 v6))], [(0, .row T41 y1 42)]⟩
noncomputable def tourkeep2_SweepJoins.c1q (o : Unit ⊕ Unit) : SL := (fun o => two o (fun v => ⟨[(2, (.val T4 false))], []⟩) (fun v => ⟨[], []⟩)) o
noncomputable def tourkeep2_SweepJoins.c1x (o : Unit ⊕ Unit) : Ex := (fun o => two o (fun _ => .ret) (fun _ => (.exit 0))) o
noncomputable def tourkeep2_SweepJoins.c1n (o : Unit ⊕ Unit) : Nat := (fun o => two o (fun _ => 0) (fun _ => 0)) o
theorem tourkeep2_SweepJoins.c1_ok (k : Nat) (y1 : (List V41)) : ∀ (n : Nat) (v6 : Int), Owp (tourkeep2_SweepJoins.c1 k y1 n v6) fun o => LTriple PR (tourkeep2_SweepJoins.cx k) (sub tourkeep2_SweepJoins.code [1, 1, 1, 0, 1, 0, 0]) 1 (tourkeep2_SweepJoins.c1p y1 v6) (tourkeep2_SweepJoins.c1x o) (tourkeep2_SweepJoins.c1n o) (tourkeep2_SweepJoins.c1q o)
  | 0, _ => fun _ h => nomatch h
  | n + 1, v6 => Owp.of (tourkeep2_SweepJoins.c1.eq_2 ..) (
   Owp.bif (fun e7 =>
   Owp.req fun h8 =>
    Owp.req fun h9 =>
    Owp.req fun h10 =>
    Owp.bnd fun y11 e12 =>
    Owp.bnd fun o32 e33 =>
    Owp.bif (fun e34 =>
    Owp.some (loop_exit (tourkeep2_SweepJoins.cok k) hmix [.dec true, .res (.one (.dp T41)) y11, .cutR 9 ⟨[], [(0, 0), (1, 20), (2, 21), (3, 22), (4, 29)], (tourkeep2_SweepJoins.c2p v6 y1 y11), 5, .normal, (tourkeep2_SweepJoins.c2q v6 y1 o32), 1⟩, .dec true] [] [] exne_ret (via (cutP (And.intro (And.intro (And.intro (And.intro (And.intro (And.intro (And.intro (And.intro trivial e7) h8) h8) h9) h9) h10) h10) e12) [(0, 0), (1, 20), (2, 21), (3, 22), (4, 29)] (tourkeep2_SweepJoins.c2p v6 y1 y11) (((tourkeep2_SweepJoins.c2_ok k v6 y1 y11).ap e33)) (finP (And.intro trivial e34) .ret [] (tourkeep2_SweepJoins.c1q (.inl ())))) (by kernel_rfl)))) (fun e34 =>
    fun y hy => loop_back (tourkeep2_SweepJoins.cok k) hmix 1 (tourkeep2_SweepJoins.c1p y1 (iadd .i64 v6 (3 : Int))) [.dec true, .res (.one (.dp T41)) y11, .cutR 9 ⟨[], [(0, 0), (1, 20), (2, 21), (3, 22), (4, 29)], (tourkeep2_SweepJoins.c2p v6 y1 y11), 5, .normal, (tourkeep2_SweepJoins.c2q v6 y1 o32), 1⟩, .dec false] [] [(0, 0)] (via (cutP (And.intro (And.intro (And.intro (And.intro (And.intro (And.intro (And.intro (And.intro trivial e7) h8) h8) h9) h9) h10) h10) e12) [(0, 0), (1, 20), (2, 21), (3, 22), (4, 29)] (tourkeep2_SweepJoins.c2p v6 y1 y11) (((tourkeep2_SweepJoins.c2_ok k v6 y1 y11).ap e33)) (finP (And.intro trivial e34) .normal [(0, 0)] (tourkeep2_SweepJoins.c1p y1 (iadd .i64 v6 (3 : Int))))) (by kernel_rfl)) ((tourkeep2_SweepJoins.c1_ok k y1 n (iadd .i64 v6 (3 : Int))).ap hy))) (fun e7 =>
   Owp.some (loop_exit (tourkeep2_SweepJoins.cok k) hmix [.dec false] [] [] (exne 0) (via (finP (And.intro trivial e7) (.exit 0) [] (tourkeep2_SweepJoins.c1q (.inr ()))) (by kernel_rfl)))))
theorem tourkeep2_SweepJoins.way (k : Nat) (a0 : (List Int)) : Owp (tourkeep2_SweepJoins k a0) fun y => ∃ answers cmds, exec PR (tourkeep2_SweepJoins.cx k) tourkeep2_SweepJoins.code 0 (entry (.pair T31 .unit) (a0, ())).st answers (Ret (tourkeep2_SweepJoins.cx k) Try.f5 cmds (.one (.dp T4)) y) := by
  unfold tourkeep2_SweepJoins; exact
   Owp.bnd fun y1 e2 =>
   Owp.bnd fun y3 e4 =>
   Owp.bif (fun e5 =>
   Owp.bnd fun o35 e36 =>
    Owp.two (fun y37 e38 =>
    Owp.some (⟨[.res (.one (.ow T41 42)) y1, .res (.one (.dp T4)) y3, .dec false, .cut ⟨[], [(0, 2)], (tourkeep2_SweepJoins.c1p y1 (0 : Int)), 1, .ret, (tourkeep2_SweepJoins.c1q (.inl ())), 0⟩], [], via (cutP (And.intro (And.intro (And.intro trivial e2) e4) (congrArg not e5)) [(0, 2)] (tourkeep2_SweepJoins.c1p y1 (0 : Int)) (((tourkeep2_SweepJoins.c1_ok k y1 k (0 : Int)).ap (e36.trans (congrArg some e38))).triple) (retP trivial (.one (.dp T4)) (false : Bool))) (by kernel_rfl)⟩)) (fun y39 e40 =>
    Owp.some (⟨[.res (.one (.ow T41 42)) y1, .res (.one (.dp T4)) y3, .dec false, .cut ⟨[], [(0, 2)], (tourkeep2_SweepJoins.c1p y1 (0 : Int)), 1, (.exit 0), (tourkeep2_SweepJoins.c1q (.inr ())), 0⟩], [], via (cutP (And.intro (And.intro (And.intro trivial e2) e4) (congrArg not e5)) [(0, 2)] (tourkeep2_SweepJoins.c1p y1 (0 : Int)) (((tourkeep2_SweepJoins.c1_ok k y1 k (0 : Int)).ap (e36.trans (congrArg some e40))).triple) (retP trivial (.one (.dp T4)) (true : Bool))) (by kernel_rfl)⟩))) (fun e5 =>
   Owp.some (⟨[.res (.one (.ow T41 42)) y1, .res (.one (.dp T4)) y3, .dec true], [], via (retP (And.intro (And.intro (And.intro trivial e2) e4) (congrArg not e5)) (.one (.dp T4)) (false : Bool)) (by kernel_rfl)⟩))
theorem tourkeep2_SweepJoins.ok (k : Nat) : FnOk PR 5 (tourkeep2_SweepJoins.sp k) :=
  fn_ok (tourkeep2_SweepJoins.cok k) hmix Try.func5 (code := tourkeep2_SweepJoins.code) (by kernel_rfl) (by kernel_rfl) (by kernel_rfl) rfl rfl (by kernel_rfl) (by kernel_rfl) (by kernel_rfl) (fun x => Nat.le_of_ble_eq_true (by kernel_rfl)) fun x y hy => (tourkeep2_SweepJoins.way k x.1).ap hy

end Go.Proofs.T1
