import Derived.Test.YtolkdkhdkfndfaaG0
import Derived.Test.YtolkdkhdkfndfaaG1
import Derived.Test.YtolkdkhdkfndfaaG2
import Derived.Test.YtolkdkhdkfndfaaG3
import Derived.Test.YtolkdkhdkfndfaaG4
import Derived.Test.YtolkdkhdkfndfaaG5
namespace Go.Proofs.T1
open Go Go.Sx Go.Proofs
set_option maxRecDepth 100000
set_option linter.unusedVariables false
/-! tourney/tourlaw2.box -/
noncomputable def tourlaw2_box.code : Code := Func.cd Try.f38
noncomputable def tourlaw2_box (k : Nat) (a0 : Int) (a1 : Int) (a2 : Int) (a3 : Int) : Option V41 :=
  some ((a0, a1, ()), (a2, a3, ()), ())
noncomputable def tourlaw2_box.sp (k : Nat) : Go.Sx.Spec := ⟨(.pair T2 (.pair T2 T27)), (.one (.dp T41)), fun x => tourlaw2_box k x.1 x.2.1 x.2.2.1 x.2.2.2.1, false⟩
noncomputable def tourlaw2_box.cx (k : Nat) : Go.Sx.Ctx := ⟨tys, [], eqs, 16, 0, [], false⟩
theorem tourlaw2_box.cok (k : Nat) : CtxOk PR (tourlaw2_box.cx k) := ctx_ok tysOk eqsOk FnsOk.nil HsOk.nil
theorem tourlaw2_box.way (k : Nat) (a0 : Int) (a1 : Int) (a2 : Int) (a3 : Int) : Owp (tourlaw2_box k a0 a1 a2 a3) fun y => ∃ answers cmds, exec PR (tourlaw2_box.cx k) tourlaw2_box.code 0 (entry (.pair T2 (.pair T2 T27)) (a0, a1, a2, a3, ())).st answers (Ret (tourlaw2_box.cx k) Try.f38 cmds (.one (.dp T41)) y) := by
  unfold tourlaw2_box; exact
   Owp.some (⟨[], [], via (retP trivial (.one (.dp T41)) (((a0, a1, ()), (a2, a3, ()), ()) : V41)) (by kernel_rfl)⟩)
theorem tourlaw2_box.ok (k : Nat) : FnOk PR 38 (tourlaw2_box.sp k) :=
  fn_ok (tourlaw2_box.cok k) hmix Try.func38 (code := tourlaw2_box.code) (by kernel_rfl) (by kernel_rfl) (by kernel_rfl) rfl rfl (by kernel_rfl) (by kernel_rfl) (by kernel_rfl) (fun x => Nat.le_of_ble_eq_true (by kernel_rfl)) fun x y hy => (tourlaw2_box.way k x.1 x.2.1 x.2.2.1 x.2.2.2.1).ap hy

/-! tourney/tourlaw2.SweepSays -/
noncomputable def tourlaw2_SweepSays.code : Code := Func.cd Try.f7
noncomputable def tourlaw2_SweepSays.c1 (k : Nat) (a0 : (List V41)) (a1 : (List V41)) : Option (Bool) :=
  bif' (igt (len a0) 80)
  (some true)
  (some (igt (len a1) 80))
noncomputable def tourlaw2_SweepSays.c4 (k : Nat) (a0 : (List V41)) (a1 : (List V41)) (v16 : Int) (v20 : Int) : Option (Bool) :=
  bnd (sweep_Meet k (el Z41 a0 v16) (el Z41 (cut a1 0 (imin (len a1) 4)) v20)) fun y23 =>
  bnd (tourref2_Touch k (el Z41 a0 v16) (el Z41 (cut a1 0 (imin (len a1) 4)) v20)) fun y25 =>
  bif' (Ty.eqb T4 y23 y25)
  (bnd (sweep_Join k (el Z41 a0 v16) (el Z41 (cut a1 0 (imin (len a1) 4)) v20)) fun y28 =>
   bnd (tourref2_Both k (el Z41 a0 v16) (el Z41 (cut a1 0 (imin (len a1) 4)) v20)) fun y30 =>
   some (!(Ty.eqb T41 y28 y30)))
  (some true)
noncomputable def tourlaw2_SweepSays.c3 (k : Nat) (a0 : (List V41)) (a1 : (List V41)) (v16 : Int) : Nat → Int → Option (Unit ⊕ Unit)
  | 0, _ => none
  | n + 1, v20 =>
   bif' (ilt v20 (len (cut a1 0 (imin (len a1) 4))))
   (req (inL v20 (cut a1 0 (imin (len a1) 4))) <|
    bnd (tourlaw2_SweepSays.c4 k a0 a1 v16 v20) fun o32 =>
    bif' o32
    (some (.inl ()))
    (tourlaw2_SweepSays.c3 k a0 a1 v16 n (iadd .i64 v20 1)))
   (some (.inr ()))
noncomputable def tourlaw2_SweepSays.c2 (k : Nat) (a0 : (List V41)) (a1 : (List V41)) : Nat → Int → Option (Unit ⊕ Unit)
  | 0, _ => none
  | n + 1, v16 =>
   bif' (ilt v16 (len a0))
   (req (inL v16 a0) <|
    req (cutOk a1 0 (imin (len a1) 4)) <|
    bnd (tourlaw2_SweepSays.c3 k a0 a1 v16 k 0) fun o35 =>
    two o35 (fun y37 =>
    some (.inl ())) (fun y39 =>
    bnd (sweep_Valid k (el Z41 a0 v16)) fun y41 =>
     bnd (tourref2_Box k (el Z41 a0 v16)) fun y43 =>
     bif' (Ty.eqb T4 y41 y43)
     (tourlaw2_SweepSays.c2 k a0 a1 n (iadd .i64 v16 1))
     (some (.inl ()))))
   (some (.inr ()))
noncomputable def tourlaw2_SweepSays.c6 (k : Nat) (a0 : (List V41)) (a1 : (List V41)) (v52 : Int) : Nat → Int → (List (List Int)) → Option ((List (List Int)))
  | 0, _, _ => none
  | n + 1, v56, v57 =>
   bif' (ilt v56 (len a1))
   (req (inL v56 a1) <|
    bnd (tourref2_Touch k (el Z41 a0 v52) (el Z41 a1 v56)) fun y60 =>
    bif' y60
    (req (room 16 v57 [[v52, v56]]) <|
     tourlaw2_SweepSays.c6 k a0 a1 v52 n (iadd .i64 v56 1) (v57 ++ [[v52, v56]]))
    (tourlaw2_SweepSays.c6 k a0 a1 v52 n (iadd .i64 v56 1) v57))
   (some v57)
noncomputable def tourlaw2_SweepSays.c5 (k : Nat) (a0 : (List V41)) (a1 : (List V41)) : Nat → Int → (List (List Int)) → Option ((List (List Int)))
  | 0, _, _ => none
  | n + 1, v52, v53 =>
   bif' (ilt v52 (len a0))
   (req (inL v52 a0) <|
    bnd (tourlaw2_SweepSays.c6 k a0 a1 v52 k 0 v53) fun o64 =>
    tourlaw2_SweepSays.c5 k a0 a1 n (iadd .i64 v52 1) o64)
   (some v53)
noncomputable def tourlaw2_SweepSays (k : Nat) (a0 : (List V41)) (a1 : (List V41)) : Option Bool :=
  bnd (tourlaw2_box k 0 0 2 2) fun y1 =>
  bnd (tourlaw2_box k 5 0 6 1) fun y3 =>
  bnd (tourlaw2_box k 2 1 4 4) fun y5 =>
  bnd (sweep_Pairs k [y1, y3, y5]) fun y7 =>
  bnd (slices_Equal_37 k y7 [[0, 2]]) fun y9 =>
  bif' y9
  (bnd (tourlaw2_SweepSays.c1 k a0 a1) fun o13 =>
   bif' o13
   (some true)
   (bnd (tourlaw2_SweepSays.c2 k a0 a1 k 0) fun o46 =>
    two o46 (fun y48 =>
    some false) (fun y50 =>
    bnd (tourlaw2_SweepSays.c5 k a0 a1 k 0 []) fun o66 =>
     bnd (sweep_Pairs k a0) fun y68 =>
     bnd (tourref2_Pairs k a0) fun y70 =>
     bnd (slices_Equal_37 k y68 y70) fun y72 =>
     bif' y72
     (bnd (sweep_Between k a0 a1) fun y75 =>
      bnd (slices_Equal_37 k y75 o66) fun y77 =>
      some y77)
     (some false))))
  (some false)
noncomputable def tourlaw2_SweepSays.sp (k : Nat) : Go.Sx.Spec := ⟨(.pair (.slice T41) (.pair (.slice T41) .unit)), (.one (.dp T4)), fun x => tourlaw2_SweepSays k x.1 x.2.1, false⟩
noncomputable def tourlaw2_SweepSays.cx (k : Nat) : Go.Sx.Ctx := ⟨tys, [(38, tourlaw2_box.sp k), (30, sweep_Pairs.sp k), (37, slices_Equal_37.sp k), (29, sweep_Meet.sp k), (39, tourref2_Touch.sp k), (28, sweep_Join.sp k), (40, tourref2_Both.sp k), (41, sweep_Valid.sp k), (42, tourref2_Box.sp k), (43, tourref2_Pairs.sp k), (36, sweep_Between.sp k)], eqs, 113, 0, [], false⟩
theorem tourlaw2_SweepSays.cok (k : Nat) : CtxOk PR (tourlaw2_SweepSays.cx k) := ctx_ok tysOk eqsOk (FnsOk.cons (tourlaw2_box.ok k) (FnsOk.cons (sweep_Pairs.ok k) (FnsOk.cons (slices_Equal_37.ok k) (FnsOk.cons (sweep_Meet.ok k) (FnsOk.cons (tourref2_Touch.ok k) (FnsOk.cons (sweep_Join.ok k) (FnsOk.cons (tourref2_Both.ok k) (FnsOk.cons (sweep_Valid.ok k) (FnsOk.cons (tourref2_Box.ok k) (FnsOk.cons (tourref2_Pairs.ok k) (FnsOk.cons (sweep_Between.ok k) FnsOk.nil))))))))))) HsOk.nil
noncomputable def tourlaw2_SweepSays.c1p (a0 : (List V41)) (a1 : (List V41)) : SL := ⟨[(0, (.val (.slice T41) a0)), (1, (.val (.slice T41) a1))], []⟩
noncomputable def tourlaw2_SweepSays.c1q (a0 : (List V41)) (a1 : (List V41)) (o : Bool) : SL := (fun v => ⟨[(0, (.val (.slice T41) a0)), (1, (.val (.slice T41) a1)), (32, (.val T4 v))], []⟩) o
noncomputable def tourlaw2_SweepSays.c1x (o : Bool) : Ex := (fun _ => .normal) o
noncomputable def tourlaw2_SweepSays.c1n (o : Bool) : Nat := (fun _ => 0) o
theorem tourlaw2_SweepSays.c1_ok (k : Nat) (a0 : (List V41)) (a1 : (List V41)) : Owp (tourlaw2_SweepSays.c1 k a0 a1) fun o => Triple PR (tourlaw2_SweepSays.cx k) (sub tourlaw2_SweepSays.code [1, 1, 0, 0]) 0 (tourlaw2_SweepSays.c1p a0 a1) (tourlaw2_SweepSays.c1x o) (tourlaw2_SweepSays.c1n o) (tourlaw2_SweepSays.c1q a0 a1 o) := by
  unfold tourlaw2_SweepSays.c1; exact
   Owp.bif (fun e12 =>
   Owp.some (triple_way (tourlaw2_SweepSays.cok k) hmix [.dec true, .dec true, .dec true, .dec true] [] [] (via (finP (And.intro (And.intro (And.intro (And.intro trivial e12) e12) e12) e12) .normal [] (tourlaw2_SweepSays.c1q a0 a1 true)) (by kernel_rfl)))) (fun e12 =>
   Owp.some (triple_way (tourlaw2_SweepSays.cok k) hmix [.dec false, .dec false, .dec false, .dec false] [] [] (via (finP (And.intro (And.intro (And.intro (And.intro trivial e12) e12) e12) e12) .normal [] (tourlaw2_SweepSays.c1q a0 a1 (igt (len a1) (80 : Int)))) (by kernel_rfl))))
noncomputable def tourlaw2_SweepSays.c4p (a0 : (List V41)) (a1 : (List V41)) (v16 : Int) (v20 : Int) : SL := ⟨[(0, (.val (.slice T41) a0)), (1, (.val (.slice T41) a1)), (6, (.val T2 v16)), (7, (.val .ptr ⟨0, 0, (0 : Int), 0, 0⟩)), (9, (.val .ptr ⟨1, 0, (0 : Int), 0, 0⟩)), (33, (.val (.slice T41) a0)), (34, (.val T2 (len a0))), (35, (.val T2 v16)), (44, (.val (.slice T41) (cut a1 (0 : Int) (imin (len a1) (4 : Int))))), (45, (.val T2 (len (cut a1 (0 : Int) (imin (len a1) (4 : Int)))))), (46, (.val T2 v20))], [(0, .cells T41 (el Z41 a0 v16)), (1, .cells T41 (el Z41 (cut a1 (0 : Int) (imin (len a1) (4 : Int))) v20))]⟩
noncomputable def tourlaw2_SweepSays.c4q (a0 : (List V41)) (a1 : (List V41)) (v16 : Int) (v20 : Int) (o : Bool) : SL := (fun v => ⟨[(0, (.val (.slice T41) a0)), (1, (.val (.slice T41) a1)), (6, (.val T2 v16)), (7, (.val .ptr ⟨0, 0, (0 : Int), 0, 0⟩)), (33, (.val (.slice T41) a0)), (34, (.val T2 (len a0))), (35, (.val T2 v16)), (44, (.val (.slice T41) (cut a1 (0 : Int) (imin (len a1) (4 : Int))))), (45, (.val T2 (len (cut a1 (0 : Int) (imin (len a1) (4 : Int)))))), (46, (.val T2 v20)), (65, (.val T4 v))], [(0, .cells T41 (el Z41 a0 v16))]⟩) o
noncomputable def tourlaw2_SweepSays.c4x (o : Bool) : Ex := (fun _ => .normal) o
noncomputable def tourlaw2_SweepSays.c4n (o : Bool) : Nat := (fun _ => 1) o
theorem tourlaw2_SweepSays.c4_ok (k : Nat) (a0 : (List V41)) (a1 : (List V41)) (v16 : Int) (v20 : Int) : Owp (tourlaw2_SweepSays.c4 k a0 a1 v16 v20) fun o => Triple PR (tourlaw2_SweepSays.cx k) (sub tourlaw2_SweepSays.code [1, 1, 1, 0, 1, 0, 0, 1, 1, 0, 0, 1, 0, 1, 0, 0, 1, 1, 0, 0, 1, 0]) 2 (tourlaw2_SweepSays.c4p a0 a1 v16 v20) (tourlaw2_SweepSays.c4x o) (tourlaw2_SweepSays.c4n o) (tourlaw2_SweepSays.c4q a0 a1 v16 v20 o) := by
  unfold tourlaw2_SweepSays.c4; exact
   Owp.bnd fun y23 e24 =>
   Owp.bnd fun y25 e26 =>
   Owp.bif (fun e27 =>
   Owp.bnd fun y28 e29 =>
    Owp.bnd fun y30 e31 =>
    Owp.some (triple_way (tourlaw2_SweepSays.cok k) hmix [.res (.one (.dp T4)) y23, .res (.one (.dp T4)) y25, .dec false, .dec false, .dec false, .res (.one (.dp T41)) y28, .dec false, .dec false, .dec false, .res (.one (.dp T41)) y30, .dec false, .dec false] [] [(0, 0)] (via (finP (And.intro (And.intro (And.intro (And.intro (And.intro (And.intro (And.intro (And.intro (And.intro (And.intro trivial e24) e26) (congrArg not e27)) (congrArg not e27)) (And.intro (congrArg not e27) e29)) (congrArg not e27)) (congrArg not e27)) (And.intro (congrArg not e27) e31)) (congrArg not e27)) (congrArg not e27)) .normal [(0, 0)] (tourlaw2_SweepSays.c4q a0 a1 v16 v20 (!(Ty.eqb T41 y28 y30)))) (by kernel_rfl)))) (fun e27 =>
   Owp.some (triple_way (tourlaw2_SweepSays.cok k) hmix [.res (.one (.dp T4)) y23, .res (.one (.dp T4)) y25, .dec true, .dec true, .dec true, .dec true, .dec true, .dec true, .dec true, .dec true, .dec true, .dec true] [] [(0, 0)] (via (finP (And.intro (And.intro (And.intro (And.intro (And.intro (And.intro (And.intro (And.intro (And.intro (And.intro trivial e24) e26) (congrArg not e27)) (congrArg not e27)) (congrArg not e27)) (congrArg not e27)) (congrArg not e27)) (congrArg not e27)) (congrArg not e27)) (congrArg not e27)) .normal [(0, 0)] (tourlaw2_SweepSays.c4q a0 a1 v16 v20 true)) (by kernel_rfl))))
noncomputable def tourlaw2_SweepSays.c3p (a0 : (List V41)) (a1 : (List V41)) (v16 : Int) (v20 : Int) : SL := ⟨[(0, (.val (.slice T41) a0)), (1, (.val (.slice T41) a1)), (6, (.val T2 v16)), (7, (.val .ptr ⟨0, 0, (0 : Int), 0, 0⟩)), (33, (.val (.slice T41) a0)), (34, (.val T2 (len a0))), (35, (.val T2 v16)), (44, (.val (.slice T41) (cut a1 (0 : Int) (imin (len a1) (4 : Int))))), (45, (.val T2 (len (cut a1 (0 : Int) (imin (len a1) (4 : Int)))))), (46, (.val T2 v20))], [(0, .cells T41 (el Z41 a0 v16))]⟩
noncomputable def tourlaw2_SweepSays.c3q (a0 : (List V41)) (a1 : (List V41)) (v16 : Int) (o : Unit ⊕ Unit) : SL := (fun o => two o (fun v => ⟨[(4, (.val T4 false))], []⟩) (fun v => ⟨[(0, (.val (.slice T41) a0)), (1, (.val (.slice T41) a1)), (6, (.val T2 v16)), (7, (.val .ptr ⟨0, 0, (0 : Int), 0, 0⟩)), (33, (.val (.slice T41) a0)), (34, (.val T2 (len a0))), (35, (.val T2 v16))], [(0, .cells T41 (el Z41 a0 v16))]⟩)) o
noncomputable def tourlaw2_SweepSays.c3x (o : Unit ⊕ Unit) : Ex := (fun o => two o (fun _ => .ret) (fun _ => (.exit 2))) o
noncomputable def tourlaw2_SweepSays.c3n (o : Unit ⊕ Unit) : Nat := (fun o => two o (fun _ => 0) (fun _ => 1)) o
theorem tourlaw2_SweepSays.c3_ok (k : Nat) (a0 : (List V41)) (a1 : (List V41)) (v16 : Int) : ∀ (n : Nat) (v20 : Int), Owp (tourlaw2_SweepSays.c3 k a0 a1 v16 n v20) fun o => LTriple PR (tourlaw2_SweepSays.cx k) (sub tourlaw2_SweepSays.code [1, 1, 1, 0, 1, 0, 0, 1, 1, 0, 0, 1, 0, 1, 0, 0]) 1 (tourlaw2_SweepSays.c3p a0 a1 v16 v20) (tourlaw2_SweepSays.c3x o) (tourlaw2_SweepSays.c3n o) (tourlaw2_SweepSays.c3q a0 a1 v16 o)
  | 0, _ => fun _ h => nomatch h
  | n + 1, v20 => Owp.of (tourlaw2_SweepSays.c3.eq_2 ..) (
   Owp.bif (fun e21 =>
   Owp.req fun h22 =>
    Owp.bnd fun o32 e33 =>
    Owp.bif (fun e34 =>
    Owp.some (loop_exit (tourlaw2_SweepSays.cok k) hmix [.dec true, .cutR 12 ⟨[], [(0, 0), (1, 4)], (tourlaw2_SweepSays.c4p a0 a1 v16 v20), 2, .normal, (tourlaw2_SweepSays.c4q a0 a1 v16 v20 o32), 1⟩, .dec true] [] [] exne_ret (via (cutP (And.intro (And.intro trivial e21) h22) [(0, 0), (1, 4)] (tourlaw2_SweepSays.c4p a0 a1 v16 v20) (((tourlaw2_SweepSays.c4_ok k a0 a1 v16 v20).ap e33)) (finP (And.intro trivial e34) .ret [] (tourlaw2_SweepSays.c3q a0 a1 v16 (.inl ())))) (by kernel_rfl)))) (fun e34 =>
    fun y hy => loop_back (tourlaw2_SweepSays.cok k) hmix 1 (tourlaw2_SweepSays.c3p a0 a1 v16 (iadd .i64 v20 (1 : Int))) [.dec true, .cutR 12 ⟨[], [(0, 0), (1, 4)], (tourlaw2_SweepSays.c4p a0 a1 v16 v20), 2, .normal, (tourlaw2_SweepSays.c4q a0 a1 v16 v20 o32), 1⟩, .dec false] [] [(0, 0)] (via (cutP (And.intro (And.intro trivial e21) h22) [(0, 0), (1, 4)] (tourlaw2_SweepSays.c4p a0 a1 v16 v20) (((tourlaw2_SweepSays.c4_ok k a0 a1 v16 v20).ap e33)) (finP (And.intro trivial e34) .normal [(0, 0)] (tourlaw2_SweepSays.c3p a0 a1 v16 (iadd .i64 v20 (1 : Int))))) (by kernel_rfl)) ((tourlaw2_SweepSays.c3_ok k a0 a1 v16 n (iadd .i64 v20 (1 : Int))).ap hy))) (fun e21 =>
   Owp.some (loop_exit (tourlaw2_SweepSays.cok k) hmix [.dec false] [] [(0, 0)] (exne 2) (via (finP (And.intro trivial e21) (.exit 2) [(0, 0)] (tourlaw2_SweepSays.c3q a0 a1 v16 (.inr ()))) (by kernel_rfl)))))
noncomputable def tourlaw2_SweepSays.c2p (a0 : (List V41)) (a1 : (List V41)) (v16 : Int) : SL := ⟨[(0, (.val (.slice T41) a0)), (1, (.val (.slice T41) a1)), (33, (.val (.slice T41) a0)), (34, (.val T2 (len a0))), (35, (.val T2 v16))], []⟩
noncomputable def tourlaw2_SweepSays.c2q (a0 : (List V41)) (a1 : (List V41)) (o : Unit ⊕ Unit) : SL := (fun o => two o (fun v => ⟨[(4, (.val T4 false))], []⟩) (fun v => ⟨[(0, (.val (.slice T41) a0)), (1, (.val (.slice T41) a1))], []⟩)) o
noncomputable def tourlaw2_SweepSays.c2x (o : Unit ⊕ Unit) : Ex := (fun o => two o (fun _ => .ret) (fun _ => (.exit 0))) o
noncomputable def tourlaw2_SweepSays.c2n (o : Unit ⊕ Unit) : Nat := (fun o => two o (fun _ => 0) (fun _ => 0)) o
theorem tourlaw2_SweepSays.c2_ok (k : Nat) (a0 : (List V41)) (a1 : (List V41)) : ∀ (n : Nat) (v16 : Int), Owp (tourlaw2_SweepSays.c2 k a0 a1 n v16) fun o => LTriple PR (tourlaw2_SweepSays.cx k) (sub tourlaw2_SweepSays.code [1, 1, 1, 0, 1, 0, 0]) 0 (tourlaw2_SweepSays.c2p a0 a1 v16) (tourlaw2_SweepSays.c2x o) (tourlaw2_SweepSays.c2n o) (tourlaw2_SweepSays.c2q a0 a1 o)
  | 0, _ => fun _ h => nomatch h
  | n + 1, v16 => Owp.of (tourlaw2_SweepSays.c2.eq_2 ..) (
   Owp.bif (fun e17 =>
   Owp.req fun h18 =>
    Owp.req fun h19 =>
    Owp.bnd fun o35 e36 =>
    Owp.two (fun y37 e38 =>
    Owp.some (loop_exit (tourlaw2_SweepSays.cok k) hmix [.dec true, .cut ⟨[], [(0, 4)], (tourlaw2_SweepSays.c3p a0 a1 v16 (0 : Int)), 1, .ret, (tourlaw2_SweepSays.c3q a0 a1 v16 (.inl ())), 0⟩] [] [] exne_ret (via (cutP (And.intro (And.intro (And.intro trivial e17) h18) h19) [(0, 4)] (tourlaw2_SweepSays.c3p a0 a1 v16 (0 : Int)) (((tourlaw2_SweepSays.c3_ok k a0 a1 v16 k (0 : Int)).ap (e36.trans (congrArg some e38))).triple) (finP trivial .ret [] (tourlaw2_SweepSays.c2q a0 a1 (.inl ())))) (by kernel_rfl)))) (fun y39 e40 =>
    Owp.bnd fun y41 e42 =>
     Owp.bnd fun y43 e44 =>
     Owp.bif (fun e45 =>
     fun y hy => loop_back (tourlaw2_SweepSays.cok k) hmix 0 (tourlaw2_SweepSays.c2p a0 a1 (iadd .i64 v16 (1 : Int))) [.dec true, .cut ⟨[], [(0, 4)], (tourlaw2_SweepSays.c3p a0 a1 v16 (0 : Int)), 1, (.exit 2), (tourlaw2_SweepSays.c3q a0 a1 v16 (.inr ())), 1⟩, .res (.one (.dp T4)) y41, .res (.one (.dp T4)) y43, .dec false] [] [] (via (cutP (And.intro (And.intro (And.intro trivial e17) h18) h19) [(0, 4)] (tourlaw2_SweepSays.c3p a0 a1 v16 (0 : Int)) (((tourlaw2_SweepSays.c3_ok k a0 a1 v16 k (0 : Int)).ap (e36.trans (congrArg some e40))).triple) (finP (And.intro (And.intro (And.intro (And.intro trivial h18) e42) e44) (congrArg not e45)) .normal [] (tourlaw2_SweepSays.c2p a0 a1 (iadd .i64 v16 (1 : Int))))) (by kernel_rfl)) ((tourlaw2_SweepSays.c2_ok k a0 a1 n (iadd .i64 v16 (1 : Int))).ap hy)) (fun e45 =>
     Owp.some (loop_exit (tourlaw2_SweepSays.cok k) hmix [.dec true, .cut ⟨[], [(0, 4)], (tourlaw2_SweepSays.c3p a0 a1 v16 (0 : Int)), 1, (.exit 2), (tourlaw2_SweepSays.c3q a0 a1 v16 (.inr ())), 1⟩, .res (.one (.dp T4)) y41, .res (.one (.dp T4)) y43, .dec true] [] [] exne_ret (via (cutP (And.intro (And.intro (And.intro trivial e17) h18) h19) [(0, 4)] (tourlaw2_SweepSays.c3p a0 a1 v16 (0 : Int)) (((tourlaw2_SweepSays.c3_ok k a0 a1 v16 k (0 : Int)).ap (e36.trans (congrArg some e40))).triple) (finP (And.intro (And.intro (And.intro (And.intro trivial h18) e42) e44) (congrArg not e45)) .ret [] (tourlaw2_SweepSays.c2q a0 a1 (.inl ())))) (by kernel_rfl)))))) (fun e17 =>
   Owp.some (loop_exit (tourlaw2_SweepSays.cok k) hmix [.dec false] [] [] (exne 0) (via (finP (And.intro trivial e17) (.exit 0) [] (tourlaw2_SweepSays.c2q a0 a1 (.inr ()))) (by kernel_rfl)))))
noncomputable def tourlaw2_SweepSays.c6p (a0 : (List V41)) (a1 : (List V41)) (v52 : Int) (v56 : Int) (v57 : (List (List Int))) : SL := ⟨[(0, (.val (.slice T41) a0)), (1, (.val (.slice T41) a1)), (10, (.val .own (0 : Nat))), (11, (.val T2 v52)), (12, (.val .ptr ⟨1, 0, (0 : Int), 0, 0⟩)), (76, (.val (.slice T41) a0)), (77, (.val T2 (len a0))), (78, (.val T2 v52)), (83, (.val (.slice T41) a1)), (84, (.val T2 (len a1))), (85, (.val T2 v56))], [(0, .row (.arr 2 T2) v57 49), (1, .cells T41 (el Z41 a0 v52))]⟩
noncomputable def tourlaw2_SweepSays.c6q (a0 : (List V41)) (a1 : (List V41)) (v52 : Int) (o : (List (List Int))) : SL := (fun v => ⟨[(0, (.val (.slice T41) a0)), (1, (.val (.slice T41) a1)), (10, (.val .own (0 : Nat))), (76, (.val (.slice T41) a0)), (77, (.val T2 (len a0))), (78, (.val T2 v52))], [(0, .row (.arr 2 T2) v 49)]⟩) o
noncomputable def tourlaw2_SweepSays.c6x (o : (List (List Int))) : Ex := (fun _ => (.exit 6)) o
noncomputable def tourlaw2_SweepSays.c6n (o : (List (List Int))) : Nat := (fun _ => 1) o
theorem tourlaw2_SweepSays.c6_ok (k : Nat) (a0 : (List V41)) (a1 : (List V41)) (v52 : Int) : ∀ (n : Nat) (v56 : Int) (v57 : (List (List Int))), Owp (tourlaw2_SweepSays.c6 k a0 a1 v52 n v56 v57) fun o => LTriple PR (tourlaw2_SweepSays.cx k) (sub tourlaw2_SweepSays.code [1, 1, 1, 1, 1, 0, 1, 0, 0, 1, 1, 0, 0, 1, 1, 0, 0]) 2 (tourlaw2_SweepSays.c6p a0 a1 v52 v56 v57) (tourlaw2_SweepSays.c6x o) (tourlaw2_SweepSays.c6n o) (tourlaw2_SweepSays.c6q a0 a1 v52 o)
  | 0, _, _ => fun _ h => nomatch h
  | n + 1, v56, v57 => Owp.of (tourlaw2_SweepSays.c6.eq_2 ..) (
   Owp.bif (fun e58 =>
   Owp.req fun h59 =>
    Owp.bnd fun y60 e61 =>
    Owp.bif (fun e62 =>
    Owp.req fun h63 =>
     fun y hy => loop_back (tourlaw2_SweepSays.cok k) hmix 2 (tourlaw2_SweepSays.c6p a0 a1 v52 (iadd .i64 v56 (1 : Int)) (v57 ++ [[v52, v56]])) [.dec true, .res (.one (.dp T4)) y60, .dec true, .dec true] [] [(0, 17), (1, 1)] (via (finP (And.intro (And.intro (And.intro (And.intro (And.intro trivial e58) h59) e61) e62) h63) .normal [(0, 17), (1, 1)] (tourlaw2_SweepSays.c6p a0 a1 v52 (iadd .i64 v56 (1 : Int)) (v57 ++ [[v52, v56]]))) (by kernel_rfl)) ((tourlaw2_SweepSays.c6_ok k a0 a1 v52 n (iadd .i64 v56 (1 : Int)) (v57 ++ [[v52, v56]])).ap hy)) (fun e62 =>
    fun y hy => loop_back (tourlaw2_SweepSays.cok k) hmix 2 (tourlaw2_SweepSays.c6p a0 a1 v52 (iadd .i64 v56 (1 : Int)) v57) [.dec true, .res (.one (.dp T4)) y60, .dec false] [] [(0, 0), (1, 1)] (via (finP (And.intro (And.intro (And.intro (And.intro trivial e58) h59) e61) e62) .normal [(0, 0), (1, 1)] (tourlaw2_SweepSays.c6p a0 a1 v52 (iadd .i64 v56 (1 : Int)) v57)) (by kernel_rfl)) ((tourlaw2_SweepSays.c6_ok k a0 a1 v52 n (iadd .i64 v56 (1 : Int)) v57).ap hy))) (fun e58 =>
   Owp.some (loop_exit (tourlaw2_SweepSays.cok k) hmix [.dec false] [] [(0, 0)] (exne 6) (via (finP (And.intro trivial e58) (.exit 6) [(0, 0)] (tourlaw2_SweepSays.c6q a0 a1 v52 v57)) (by kernel_rfl)))))
noncomputable def tourlaw2_SweepSays.c5p (a0 : (List V41)) (a1 : (List V41)) (v52 : Int) (v53 : (List (List Int))) : SL := ⟨[(0, (.val (.slice T41) a0)), (1, (.val (.slice T41) a1)), (10, (.val .own (0 : Nat))), (76, (.val (.slice T41) a0)), (77, (.val T2 (len a0))), (78, (.val T2 v52))], [(0, .row (.arr 2 T2) v53 49)]⟩
noncomputable def tourlaw2_SweepSays.c5q (a0 : (List V41)) (a1 : (List V41)) (o : (List (List Int))) : SL := (fun v => ⟨[(0, (.val (.slice T41) a0)), (1, (.val (.slice T41) a1)), (10, (.val .own (0 : Nat)))], [(0, .row (.arr 2 T2) v 49)]⟩) o
noncomputable def tourlaw2_SweepSays.c5x (o : (List (List Int))) : Ex := (fun _ => (.exit 4)) o
noncomputable def tourlaw2_SweepSays.c5n (o : (List (List Int))) : Nat := (fun _ => 1) o
theorem tourlaw2_SweepSays.c5_ok (k : Nat) (a0 : (List V41)) (a1 : (List V41)) : ∀ (n : Nat) (v52 : Int) (v53 : (List (List Int))), Owp (tourlaw2_SweepSays.c5 k a0 a1 n v52 v53) fun o => LTriple PR (tourlaw2_SweepSays.cx k) (sub tourlaw2_SweepSays.code [1, 1, 1, 1, 1, 0, 1, 0, 0]) 1 (tourlaw2_SweepSays.c5p a0 a1 v52 v53) (tourlaw2_SweepSays.c5x o) (tourlaw2_SweepSays.c5n o) (tourlaw2_SweepSays.c5q a0 a1 o)
  | 0, _, _ => fun _ h => nomatch h
  | n + 1, v52, v53 => Owp.of (tourlaw2_SweepSays.c5.eq_2 ..) (
   Owp.bif (fun e54 =>
   Owp.req fun h55 =>
    Owp.bnd fun o64 e65 =>
    fun y hy => loop_back (tourlaw2_SweepSays.cok k) hmix 1 (tourlaw2_SweepSays.c5p a0 a1 (iadd .i64 v52 (1 : Int)) o64) [.dec true, .cut ⟨[], [(0, 0), (1, 5)], (tourlaw2_SweepSays.c6p a0 a1 v52 (0 : Int) v53), 2, (.exit 6), (tourlaw2_SweepSays.c6q a0 a1 v52 o64), 1⟩] [] [(0, 0)] (via (cutP (And.intro (And.intro trivial e54) h55) [(0, 0), (1, 5)] (tourlaw2_SweepSays.c6p a0 a1 v52 (0 : Int) v53) (((tourlaw2_SweepSays.c6_ok k a0 a1 v52 k (0 : Int) v53).ap e65).triple) (finP trivial .normal [(0, 0)] (tourlaw2_SweepSays.c5p a0 a1 (iadd .i64 v52 (1 : Int)) o64))) (by kernel_rfl)) ((tourlaw2_SweepSays.c5_ok k a0 a1 n (iadd .i64 v52 (1 : Int)) o64).ap hy)) (fun e54 =>
   Owp.some (loop_exit (tourlaw2_SweepSays.cok k) hmix [.dec false] [] [(0, 0)] (exne 4) (via (finP (And.intro trivial e54) (.exit 4) [(0, 0)] (tourlaw2_SweepSays.c5q a0 a1 v53)) (by kernel_rfl)))))
theorem tourlaw2_SweepSays.way (k : Nat) (a0 : (List V41)) (a1 : (List V41)) : Owp (tourlaw2_SweepSays k a0 a1) fun y => ∃ answers cmds, exec PR (tourlaw2_SweepSays.cx k) tourlaw2_SweepSays.code 0 (entry (.pair (.slice T41) (.pair (.slice T41) .unit)) (a0, a1, ())).st answers (Ret (tourlaw2_SweepSays.cx k) Try.f7 cmds (.one (.dp T4)) y) := by
  unfold tourlaw2_SweepSays; exact
   Owp.bnd fun y1 e2 =>
   Owp.bnd fun y3 e4 =>
   Owp.bnd fun y5 e6 =>
   Owp.bnd fun y7 e8 =>
   Owp.bnd fun y9 e10 =>
   Owp.bif (fun e11 =>
   Owp.bnd fun o13 e14 =>
    Owp.bif (fun e15 =>
    Owp.some (⟨[.res (.one (.dp T41)) y1, .res (.one (.dp T41)) y3, .res (.one (.dp T41)) y5, .dec true, .res (.one (.ow (.arr 2 T2) 49)) y7, .dec true, .res (.one (.dp T4)) y9, .dec false, .cutR 4 ⟨[], [], (tourlaw2_SweepSays.c1p a0 a1), 0, .normal, (tourlaw2_SweepSays.c1q a0 a1 o13), 0⟩, .dec true], [], via (cutP (And.intro (And.intro (And.intro (And.intro (And.intro (And.intro trivial e2) e4) e6) e8) e10) (congrArg not e11)) [] (tourlaw2_SweepSays.c1p a0 a1) (((tourlaw2_SweepSays.c1_ok k a0 a1).ap e14)) (retP (And.intro trivial e15) (.one (.dp T4)) (true : Bool))) (by kernel_rfl)⟩)) (fun e15 =>
    Owp.bnd fun o46 e47 =>
     Owp.two (fun y48 e49 =>
     Owp.some (⟨[.res (.one (.dp T41)) y1, .res (.one (.dp T41)) y3, .res (.one (.dp T41)) y5, .dec true, .res (.one (.ow (.arr 2 T2) 49)) y7, .dec true, .res (.one (.dp T4)) y9, .dec false, .cutR 4 ⟨[], [], (tourlaw2_SweepSays.c1p a0 a1), 0, .normal, (tourlaw2_SweepSays.c1q a0 a1 o13), 0⟩, .dec false, .cut ⟨[], [], (tourlaw2_SweepSays.c2p a0 a1 (0 : Int)), 0, .ret, (tourlaw2_SweepSays.c2q a0 a1 (.inl ())), 0⟩], [], via (cutP (And.intro (And.intro (And.intro (And.intro (And.intro (And.intro trivial e2) e4) e6) e8) e10) (congrArg not e11)) [] (tourlaw2_SweepSays.c1p a0 a1) (((tourlaw2_SweepSays.c1_ok k a0 a1).ap e14)) (cutP (And.intro trivial e15) [] (tourlaw2_SweepSays.c2p a0 a1 (0 : Int)) (((tourlaw2_SweepSays.c2_ok k a0 a1 k (0 : Int)).ap (e47.trans (congrArg some e49))).triple) (retP trivial (.one (.dp T4)) (false : Bool)))) (by kernel_rfl)⟩)) (fun y50 e51 =>
     Owp.bnd fun o66 e67 =>
      Owp.bnd fun y68 e69 =>
      Owp.bnd fun y70 e71 =>
      Owp.bnd fun y72 e73 =>
      Owp.bif (fun e74 =>
      Owp.bnd fun y75 e76 =>
       Owp.bnd fun y77 e78 =>
       Owp.some (⟨[.res (.one (.dp T41)) y1, .res (.one (.dp T41)) y3, .res (.one (.dp T41)) y5, .dec true, .res (.one (.ow (.arr 2 T2) 49)) y7, .dec true, .res (.one (.dp T4)) y9, .dec false, .cutR 4 ⟨[], [], (tourlaw2_SweepSays.c1p a0 a1), 0, .normal, (tourlaw2_SweepSays.c1q a0 a1 o13), 0⟩, .dec false, .cut ⟨[], [], (tourlaw2_SweepSays.c2p a0 a1 (0 : Int)), 0, (.exit 0), (tourlaw2_SweepSays.c2q a0 a1 (.inr ())), 0⟩, .cut ⟨[.own 10 (.arr 2 T2) 49], [(0, 4)], (tourlaw2_SweepSays.c5p a0 a1 (0 : Int) []), 1, (.exit 4), (tourlaw2_SweepSays.c5q a0 a1 o66), 1⟩, .res (.one (.ow (.arr 2 T2) 49)) y68, .res (.one (.ow (.arr 2 T2) 49)) y70, .res (.one (.dp T4)) y72, .dec true, .dec true, .dec true, .res (.one (.ow (.arr 2 T2) 49)) y75, .dec true, .dec true, .res (.one (.dp T4)) y77, .dec true], [], via (cutP (And.intro (And.intro (And.intro (And.intro (And.intro (And.intro trivial e2) e4) e6) e8) e10) (congrArg not e11)) [] (tourlaw2_SweepSays.c1p a0 a1) (((tourlaw2_SweepSays.c1_ok k a0 a1).ap e14)) (cutP (And.intro trivial e15) [] (tourlaw2_SweepSays.c2p a0 a1 (0 : Int)) (((tourlaw2_SweepSays.c2_ok k a0 a1 k (0 : Int)).ap (e47.trans (congrArg some e51))).triple) (cutP trivial [(0, 4)] (tourlaw2_SweepSays.c5p a0 a1 (0 : Int) []) (((tourlaw2_SweepSays.c5_ok k a0 a1 k (0 : Int) []).ap e67).triple) (retP (And.intro (And.intro (And.intro (And.intro (And.intro (And.intro (And.intro (And.intro (And.intro trivial e69) e71) e73) e74) e74) (And.intro e74 e76)) e74) (And.intro e74 e78)) e74) (.one (.dp T4)) (y77 : Bool))))) (by kernel_rfl)⟩)) (fun e74 =>
      Owp.some (⟨[.res (.one (.dp T41)) y1, .res (.one (.dp T41)) y3, .res (.one (.dp T41)) y5, .dec true, .res (.one (.ow (.arr 2 T2) 49)) y7, .dec true, .res (.one (.dp T4)) y9, .dec false, .cutR 4 ⟨[], [], (tourlaw2_SweepSays.c1p a0 a1), 0, .normal, (tourlaw2_SweepSays.c1q a0 a1 o13), 0⟩, .dec false, .cut ⟨[], [], (tourlaw2_SweepSays.c2p a0 a1 (0 : Int)), 0, (.exit 0), (tourlaw2_SweepSays.c2q a0 a1 (.inr ())), 0⟩, .cut ⟨[.own 10 (.arr 2 T2) 49], [(0, 4)], (tourlaw2_SweepSays.c5p a0 a1 (0 : Int) []), 1, (.exit 4), (tourlaw2_SweepSays.c5q a0 a1 o66), 1⟩, .res (.one (.ow (.arr 2 T2) 49)) y68, .res (.one (.ow (.arr 2 T2) 49)) y70, .res (.one (.dp T4)) y72, .dec false, .dec false, .dec false, .dec true, .dec false, .dec false, .dec true, .dec false], [], via (cutP (And.intro (And.intro (And.intro (And.intro (And.intro (And.intro trivial e2) e4) e6) e8) e10) (congrArg not e11)) [] (tourlaw2_SweepSays.c1p a0 a1) (((tourlaw2_SweepSays.c1_ok k a0 a1).ap e14)) (cutP (And.intro trivial e15) [] (tourlaw2_SweepSays.c2p a0 a1 (0 : Int)) (((tourlaw2_SweepSays.c2_ok k a0 a1 k (0 : Int)).ap (e47.trans (congrArg some e51))).triple) (cutP trivial [(0, 4)] (tourlaw2_SweepSays.c5p a0 a1 (0 : Int) []) (((tourlaw2_SweepSays.c5_ok k a0 a1 k (0 : Int) []).ap e67).triple) (retP (And.intro (And.intro (And.intro (And.intro (And.intro (And.intro (And.intro (And.intro (And.intro trivial e69) e71) e73) e74) e74) e74) e74) e74) e74) (.one (.dp T4)) (false : Bool))))) (by kernel_rfl)⟩))))) (fun e11 =>
   Owp.some (⟨[.res (.one (.dp T41)) y1, .res (.one (.dp T41)) y3, .res (.one (.dp T41)) y5, .dec true, .res (.one (.ow (.arr 2 T2) 49)) y7, .dec true, .res (.one (.dp T4)) y9, .dec true], [], via (retP (And.intro (And.intro (And.intro (And.intro (And.intro (And.intro trivial e2) e4) e6) e8) e10) (congrArg not e11)) (.one (.dp T4)) (false : Bool)) (by kernel_rfl)⟩))
theorem tourlaw2_SweepSays.ok (k : Nat) : FnOk PR 7 (tourlaw2_SweepSays.sp k) :=
  fn_ok (tourlaw2_SweepSays.cok k) hmix Try.func7 (code := tourlaw2_SweepSays.code) (by kernel_rfl) (by kernel_rfl) (by kernel_rfl) rfl rfl (by kernel_rfl) (by kernel_rfl) (by kernel_rfl) (fun x => Nat.le_of_ble_eq_true (by kernel_rfl)) fun x y hy => (tourlaw2_SweepSays.way k x.1 x.2.1).ap hy

end Go.Proofs.T1
