import Derived.Test.YtabllngnpponiaaG0
import Derived.Test.YtabllngnpponiaaG1
import Derived.Test.YtabllngnpponiaaG2
import Derived.Test.YtabllngnpponiaaG3
import Derived.Test.YtabllngnpponiaaG5
import Derived.Test.YtabllngnpponiaaG6
import Derived.Test.YtabllngnpponiaaG7
import Derived.Test.YtabllngnpponiaaG8
namespace Go.Proofs.T1
open Go Go.Sx Go.Proofs
set_option maxRecDepth 100000
set_option linter.unusedVariables false
/-! tourney/tourref2.Joints -/
noncomputable def tourref2_Joints.code : Code := Func.cd Try.f50
def tourref2_Joints.c2 (k : Nat) (a0 : (List V49)) (a1 : (List V76)) (v5 : Int) : Option (Bool) :=
  bif' (ilt (el Z76 a1 v5).1 0)
  (some true)
  (bif' (ige (el Z76 a1 v5).1 (el Z76 a1 v5).2.1)
   (some true)
   (bif' (ige (el Z76 a1 v5).2.1 (len a0))
    (some true)
    (bnd (tourref2_coord k (el Z76 a1 v5).2.2.1 2097152) fun y11 =>
     bif' y11
     (bnd (tourref2_coord k (el Z76 a1 v5).2.2.2.1 2097152) fun y14 =>
      bif' y14
      (bnd (tourref2_between k (el Z76 a1 v5).2.2.2.2.1 0 65536000) fun y17 =>
       some (!y17))
      (some true))
     (some true))))
def tourref2_Joints.c1 (k : Nat) (a0 : (List V49)) (a1 : (List V76)) : Nat → Int → Option (Int ⊕ Unit)
  | 0, _ => none
  | n + 1, v5 =>
   bif' (ilt v5 (len a1))
   (req (inL v5 a1) <|
    bnd (tourref2_Joints.c2 k a0 a1 v5) fun o19 =>
    bif' o19
    (some (.inl 1))
    (req (inL (el Z76 a1 v5).1 a0) <|
     req (inL (el Z76 a1 v5).2.1 a0) <|
     bif' (ieq (iadd .i64 (el Z49 a0 (el Z76 a1 v5).1).2.2.2.2.1 (el Z49 a0 (el Z76 a1 v5).2.1).2.2.2.2.1) 0)
     (some (.inl 3))
     (tourref2_Joints.c1 k a0 a1 n (iadd .i64 v5 1))))
   (some (.inr ()))
def tourref2_Joints (k : Nat) (a0 : (List V49)) (a1 : (List V76)) : Option Int :=
  bnd (tourref2_Bodies k a0) fun y1 =>
  bif' (ine y1 0)
  (some y1)
  (bif' (igt (len a1) 32)
   (some 2)
   (bnd (tourref2_Joints.c1 k a0 a1 k 0) fun o25 =>
    two o25 (fun y27 =>
    some y27) (fun y29 =>
    some 0)))
noncomputable def tourref2_Joints.sp (k : Nat) : Go.Sx.Spec := ⟨(.pair (.slice T49) (.pair (.slice T76) .unit)), (.one (.dp T2)), fun x => tourref2_Joints k x.1 x.2.1, false⟩
noncomputable def tourref2_Joints.cx (k : Nat) : Go.Sx.Ctx := ⟨tys, [(37, tourref2_Bodies.sp k), (94, tourref2_coord.sp k), (123, tourref2_between.sp k)], eqs, 72, 0, [], false⟩
theorem tourref2_Joints.cok (k : Nat) : CtxOk PR (tourref2_Joints.cx k) := ctx_ok tysOk eqsOk (FnsOk.cons (tourref2_Bodies.ok k) (FnsOk.cons (tourref2_coord.ok k) (FnsOk.cons (tourref2_between.ok k) FnsOk.nil))) HsOk.nil
noncomputable def tourref2_Joints.c2p (a0 : (List V49)) (a1 : (List V76)) (v5 : Int) : SL := ⟨[(0, (.val (.slice T49) a0)), (7, (.val .ptr ⟨0, 0, (0 : Int), 0, 0⟩)), (16, (.val (.slice T76) a1)), (17, (.val T2 (len a1))), (18, (.val T2 v5))], [(0, .cells T76 (el Z76 a1 v5))]⟩
noncomputable def tourref2_Joints.c2q (a0 : (List V49)) (a1 : (List V76)) (v5 : Int) (o : Bool) : SL := (fun v => ⟨[(0, (.val (.slice T49) a0)), (7, (.val .ptr ⟨0, 0, (0 : Int), 0, 0⟩)), (16, (.val (.slice T76) a1)), (17, (.val T2 (len a1))), (18, (.val T2 v5)), (56, (.val T4 v))], [(0, .cells T76 (el Z76 a1 v5))]⟩) o
noncomputable def tourref2_Joints.c2x (o : Bool) : Ex := (fun _ => .normal) o
noncomputable def tourref2_Joints.c2n (o : Bool) : Nat := (fun _ => 1) o
theorem tourref2_Joints.c2_ok (k : Nat) (a0 : (List V49)) (a1 : (List V76)) (v5 : Int) : Owp (tourref2_Joints.c2 k a0 a1 v5) fun o => Triple PR (tourref2_Joints.cx k) (sub tourref2_Joints.code [1, 1, 1, 0, 1, 0, 0, 1, 1, 0, 0, 1, 0, 0]) 1 (tourref2_Joints.c2p a0 a1 v5) (tourref2_Joints.c2x o) (tourref2_Joints.c2n o) (tourref2_Joints.c2q a0 a1 v5 o) := by
  unfold tourref2_Joints.c2; exact
   Owp.bif (fun e8 =>
   Owp.some (triple_way (tourref2_Joints.cok k) hmix [.dec true, .dec true, .dec true, .dec true, .dec true, .dec true, .dec true, .dec true, .dec true, .dec true, .dec true, .dec true, .dec true, .dec true, .dec true, .dec true, .dec true, .dec true, .dec true, .dec true, .dec true, .dec true, .dec true, .dec true, .dec true, .dec true, .dec true, .dec true, .dec true, .dec true] [] [(0, 0)] (via (finP (And.intro (And.intro (And.intro (And.intro (And.intro (And.intro (And.intro (And.intro (And.intro (And.intro (And.intro (And.intro (And.intro (And.intro (And.intro (And.intro (And.intro (And.intro (And.intro (And.intro (And.intro (And.intro (And.intro (And.intro (And.intro (And.intro (And.intro trivial e8) e8) e8) e8) e8) e8) tt) tt) tt) tt) tt) tt) tt) tt) tt) tt) tt) tt) tt) tt) tt) tt) tt) tt) tt) tt) tt) .normal [(0, 0)] (tourref2_Joints.c2q a0 a1 v5 true)) (by kernel_rfl)))) (fun e8 =>
   Owp.bif (fun e9 =>
    Owp.some (triple_way (tourref2_Joints.cok k) hmix [.dec false, .dec false, .dec false, .dec false, .dec false, .dec false, .dec true, .dec true, .dec true, .dec true, .dec true, .dec true, .dec true, .dec true, .dec true, .dec true, .dec true, .dec true, .dec true, .dec true, .dec true, .dec true, .dec true, .dec true, .dec true, .dec true, .dec true, .dec true, .dec true, .dec true] [] [(0, 0)] (via (finP (And.intro (And.intro (And.intro (And.intro (And.intro (And.intro (And.intro (And.intro (And.intro (And.intro (And.intro (And.intro (And.intro (And.intro (And.intro (And.intro (And.intro (And.intro (And.intro (And.intro (And.intro (And.intro (And.intro (And.intro (And.intro (And.intro (And.intro trivial e8) e8) e8) e8) e8) e8) e9) e9) e9) e9) e9) e9) tt) tt) tt) tt) tt) tt) tt) tt) tt) tt) tt) tt) tt) tt) tt) .normal [(0, 0)] (tourref2_Joints.c2q a0 a1 v5 true)) (by kernel_rfl)))) (fun e9 =>
    Owp.bif (fun e10 =>
     Owp.some (triple_way (tourref2_Joints.cok k) hmix [.dec false, .dec false, .dec false, .dec false, .dec false, .dec false, .dec false, .dec false, .dec false, .dec false, .dec false, .dec false, .dec true, .dec true, .dec true, .dec true, .dec true, .dec true, .dec true, .dec true, .dec true, .dec true, .dec true, .dec true, .dec true, .dec true, .dec true, .dec true, .dec true, .dec true] [] [(0, 0)] (via (finP (And.intro (And.intro (And.intro (And.intro (And.intro (And.intro (And.intro (And.intro (And.intro (And.intro (And.intro (And.intro (And.intro (And.intro (And.intro (And.intro (And.intro (And.intro (And.intro (And.intro (And.intro (And.intro (And.intro (And.intro (And.intro (And.intro (And.intro trivial e8) e8) e8) e8) e8) e8) e9) e9) e9) e9) e9) e9) e10) e10) e10) e10) e10) tt) tt) tt) tt) tt) tt) tt) tt) tt) tt) .normal [(0, 0)] (tourref2_Joints.c2q a0 a1 v5 true)) (by kernel_rfl)))) (fun e10 =>
     Owp.bnd fun y11 e12 =>
      Owp.bif (fun e13 =>
      Owp.bnd fun y14 e15 =>
       Owp.bif (fun e16 =>
       Owp.bnd fun y17 e18 =>
        Owp.some (triple_way (tourref2_Joints.cok k) hmix [.dec false, .dec false, .dec false, .dec false, .dec false, .dec false, .dec false, .dec false, .dec false, .dec false, .dec false, .dec false, .dec false, .dec false, .dec false, .res (.one (.dp T4)) y11, .dec false, .dec false, .dec false, .dec false, .dec false, .res (.one (.dp T4)) y14, .dec false, .dec false, .dec false, .dec false, .dec false, .res (.one (.dp T4)) y17, .dec false, .dec false] [] [(0, 0)] (via (finP (And.intro (And.intro (And.intro (And.intro (And.intro (And.intro (And.intro (And.intro (And.intro (And.intro (And.intro (And.intro (And.intro (And.intro (And.intro (And.intro (And.intro (And.intro (And.intro (And.intro (And.intro (And.intro (And.intro (And.intro (And.intro (And.intro (And.intro trivial e8) e8) e8) e8) e8) e8) e9) e9) e9) e9) e9) e9) e10) e10) (And.intro e10 e12)) e10) e10) (congrArg not e13)) (congrArg not e13)) (And.intro (congrArg not e13) e15)) (congrArg not e13)) (congrArg not e13)) (congrArg not e16)) (congrArg not e16)) (And.intro (congrArg not e16) e18)) (congrArg not e16)) (congrArg not e16)) .normal [(0, 0)] (tourref2_Joints.c2q a0 a1 v5 (!y17))) (by kernel_rfl)))) (fun e16 =>
       Owp.some (triple_way (tourref2_Joints.cok k) hmix [.dec false, .dec false, .dec false, .dec false, .dec false, .dec false, .dec false, .dec false, .dec false, .dec false, .dec false, .dec false, .dec false, .dec false, .dec false, .res (.one (.dp T4)) y11, .dec false, .dec false, .dec false, .dec false, .dec false, .res (.one (.dp T4)) y14, .dec false, .dec false, .dec true, .dec true, .dec true, .dec true, .dec true, .dec true] [] [(0, 0)] (via (finP (And.intro (And.intro (And.intro (And.intro (And.intro (And.intro (And.intro (And.intro (And.intro (And.intro (And.intro (And.intro (And.intro (And.intro (And.intro (And.intro (And.intro (And.intro (And.intro (And.intro (And.intro (And.intro (And.intro (And.intro (And.intro (And.intro (And.intro trivial e8) e8) e8) e8) e8) e8) e9) e9) e9) e9) e9) e9) e10) e10) (And.intro e10 e12)) e10) e10) (congrArg not e13)) (congrArg not e13)) (And.intro (congrArg not e13) e15)) (congrArg not e13)) (congrArg not e13)) (congrArg not e16)) (congrArg not e16)) (congrArg not e16)) (congrArg not e16)) (congrArg not e16)) .normal [(0, 0)] (tourref2_Joints.c2q a0 a1 v5 true)) (by kernel_rfl))))) (fun e13 =>
      Owp.some (triple_way (tourref2_Joints.cok k) hmix [.dec false, .dec false, .dec false, .dec false, .dec false, .dec false, .dec false, .dec false, .dec false, .dec false, .dec false, .dec false, .dec false, .dec false, .dec false, .res (.one (.dp T4)) y11, .dec false, .dec false, .dec true, .dec true, .dec true, .dec true, .dec true, .dec true, .dec true, .dec true, .dec true, .dec true, .dec true, .dec true] [] [(0, 0)] (via (finP (And.intro (And.intro (And.intro (And.intro (And.intro (And.intro (And.intro (And.intro (And.intro (And.intro (And.intro (And.intro (And.intro (And.intro (And.intro (And.intro (And.intro (And.intro (And.intro (And.intro (And.intro (And.intro (And.intro (And.intro (And.intro (And.intro (And.intro trivial e8) e8) e8) e8) e8) e8) e9) e9) e9) e9) e9) e9) e10) e10) (And.intro e10 e12)) e10) e10) (congrArg not e13)) (congrArg not e13)) (congrArg not e13)) (congrArg not e13)) (congrArg not e13)) tt) tt) tt) tt) tt) .normal [(0, 0)] (tourref2_Joints.c2q a0 a1 v5 true)) (by kernel_rfl)))))))
noncomputable def tourref2_Joints.c1p (a0 : (List V49)) (a1 : (List V76)) (v5 : Int) : SL := ⟨[(0, (.val (.slice T49) a0)), (16, (.val (.slice T76) a1)), (17, (.val T2 (len a1))), (18, (.val T2 v5))], []⟩
noncomputable def tourref2_Joints.c1q (o : Int ⊕ Unit) : SL := (fun o => two o (fun v => ⟨[(4, (.val T2 v))], []⟩) (fun v => ⟨[], []⟩)) o
noncomputable def tourref2_Joints.c1x (o : Int ⊕ Unit) : Ex := (fun o => two o (fun _ => .ret) (fun _ => (.exit 0))) o
noncomputable def tourref2_Joints.c1n (o : Int ⊕ Unit) : Nat := (fun o => two o (fun _ => 0) (fun _ => 0)) o
theorem tourref2_Joints.c1_ok (k : Nat) (a0 : (List V49)) (a1 : (List V76)) : ∀ (n : Nat) (v5 : Int), Owp (tourref2_Joints.c1 k a0 a1 n v5) fun o => LTriple PR (tourref2_Joints.cx k) (sub tourref2_Joints.code [1, 1, 1, 0, 1, 0, 0]) 0 (tourref2_Joints.c1p a0 a1 v5) (tourref2_Joints.c1x o) (tourref2_Joints.c1n o) (tourref2_Joints.c1q o)
  | 0, _ => fun _ h => nomatch h
  | n + 1, v5 => Owp.of (tourref2_Joints.c1.eq_2 ..) (
   Owp.bif (fun e6 =>
   Owp.req fun h7 =>
    Owp.bnd fun o19 e20 =>
    Owp.bif (fun e21 =>
    Owp.some (loop_exit (tourref2_Joints.cok k) hmix [.dec true, .cutR 9 ⟨[], [(0, 3)], (tourref2_Joints.c2p a0 a1 v5), 1, .normal, (tourref2_Joints.c2q a0 a1 v5 o19), 1⟩, .dec true] [] [] exne_ret (via (cutP (And.intro (And.intro trivial e6) h7) [(0, 3)] (tourref2_Joints.c2p a0 a1 v5) (((tourref2_Joints.c2_ok k a0 a1 v5).ap e20)) (finP (And.intro trivial e21) .ret [] (tourref2_Joints.c1q (.inl (1 : Int))))) (by kernel_rfl)))) (fun e21 =>
    Owp.req fun h22 =>
     Owp.req fun h23 =>
     Owp.bif (fun e24 =>
     Owp.some (loop_exit (tourref2_Joints.cok k) hmix [.dec true, .cutR 9 ⟨[], [(0, 3)], (tourref2_Joints.c2p a0 a1 v5), 1, .normal, (tourref2_Joints.c2q a0 a1 v5 o19), 1⟩, .dec false, .dec true] [] [] exne_ret (via (cutP (And.intro (And.intro trivial e6) h7) [(0, 3)] (tourref2_Joints.c2p a0 a1 v5) (((tourref2_Joints.c2_ok k a0 a1 v5).ap e20)) (finP (And.intro (And.intro (And.intro (And.intro trivial e21) h22) h23) e24) .ret [] (tourref2_Joints.c1q (.inl (3 : Int))))) (by kernel_rfl)))) (fun e24 =>
     fun y hy => loop_back (tourref2_Joints.cok k) hmix 0 (tourref2_Joints.c1p a0 a1 (iadd .i64 v5 (1 : Int))) [.dec true, .cutR 9 ⟨[], [(0, 3)], (tourref2_Joints.c2p a0 a1 v5), 1, .normal, (tourref2_Joints.c2q a0 a1 v5 o19), 1⟩, .dec false, .dec false] [] [] (via (cutP (And.intro (And.intro trivial e6) h7) [(0, 3)] (tourref2_Joints.c2p a0 a1 v5) (((tourref2_Joints.c2_ok k a0 a1 v5).ap e20)) (finP (And.intro (And.intro (And.intro (And.intro trivial e21) h22) h23) e24) .normal [] (tourref2_Joints.c1p a0 a1 (iadd .i64 v5 (1 : Int))))) (by kernel_rfl)) ((tourref2_Joints.c1_ok k a0 a1 n (iadd .i64 v5 (1 : Int))).ap hy)))) (fun e6 =>
   Owp.some (loop_exit (tourref2_Joints.cok k) hmix [.dec false] [] [] (exne 0) (via (finP (And.intro trivial e6) (.exit 0) [] (tourref2_Joints.c1q (.inr ()))) (by kernel_rfl)))))
theorem tourref2_Joints.way (k : Nat) (a0 : (List V49)) (a1 : (List V76)) : Owp (tourref2_Joints k a0 a1) fun y => ∃ answers cmds, exec PR (tourref2_Joints.cx k) tourref2_Joints.code 0 (entry (.pair (.slice T49) (.pair (.slice T76) .unit)) (a0, a1, ())).st answers (Ret (tourref2_Joints.cx k) Try.f50 cmds (.one (.dp T2)) y) := by
  unfold tourref2_Joints; exact
   Owp.bnd fun y1 e2 =>
   Owp.bif (fun e3 =>
   Owp.some (⟨[.res (.one (.dp T2)) y1, .dec true], [], via (retP (And.intro (And.intro trivial e2) e3) (.one (.dp T2)) (y1 : Int)) (by kernel_rfl)⟩)) (fun e3 =>
   Owp.bif (fun e4 =>
    Owp.some (⟨[.res (.one (.dp T2)) y1, .dec false, .dec true], [], via (retP (And.intro (And.intro (And.intro trivial e2) e3) e4) (.one (.dp T2)) ((2 : Int) : Int)) (by kernel_rfl)⟩)) (fun e4 =>
    Owp.bnd fun o25 e26 =>
     Owp.two (fun y27 e28 =>
     Owp.some (⟨[.res (.one (.dp T2)) y1, .dec false, .dec false, .cut ⟨[], [], (tourref2_Joints.c1p a0 a1 (0 : Int)), 0, .ret, (tourref2_Joints.c1q (.inl y27)), 0⟩], [], via (cutP (And.intro (And.intro (And.intro trivial e2) e3) e4) [] (tourref2_Joints.c1p a0 a1 (0 : Int)) (((tourref2_Joints.c1_ok k a0 a1 k (0 : Int)).ap (e26.trans (congrArg some e28))).triple) (retP trivial (.one (.dp T2)) (y27 : Int))) (by kernel_rfl)⟩)) (fun y29 e30 =>
     Owp.some (⟨[.res (.one (.dp T2)) y1, .dec false, .dec false, .cut ⟨[], [], (tourref2_Joints.c1p a0 a1 (0 : Int)), 0, (.exit 0), (tourref2_Joints.c1q (.inr ())), 0⟩], [], via (cutP (And.intro (And.intro (And.intro trivial e2) e3) e4) [] (tourref2_Joints.c1p a0 a1 (0 : Int)) (((tourref2_Joints.c1_ok k a0 a1 k (0 : Int)).ap (e26.trans (congrArg some e30))).triple) (retP trivial (.one (.dp T2)) ((0 : Int) : Int))) (by kernel_rfl)⟩))))
theorem tourref2_Joints.ok (k : Nat) : FnOk PR 50 (tourref2_Joints.sp k) :=
  fn_ok (tourref2_Joints.cok k) hmix Try.func50 (code := tourref2_Joints.code) (by kernel_rfl) (by kernel_rfl) (by kernel_rfl) rfl rfl (by kernel_rfl) (by kernel_rfl) (by kernel_rfl) (fun x => Nat.le_of_ble_eq_true (by kernel_rfl)) fun x y hy => (tourref2_Joints.way k x.1 x.2.1).ap hy

/-! tourney/joint.Gap -/
noncomputable def joint_Gap.code : Code := Func.cd Try.f52
def joint_Gap (k : Nat) (a0 : (List V49)) (a1 : V76) : Option (Int × Int) :=
  bnd (joint_Ends k a0 a1) fun y1 =>
  bif' (ine y1.2.2 0)
  (some (0, y1.2.2))
  (bnd (vec_Sub k y1.2.1 y1.1) fun y4 =>
   bnd (vec_Len k y4) fun y6 =>
   some ((imax (isub .i64 y6 a1.2.2.2.2.1) (ineg .i64 (isub .i64 y6 a1.2.2.2.2.1))), 0))
noncomputable def joint_Gap.sp (k : Nat) : Go.Sx.Spec := ⟨(.pair (.slice T49) (.pair T76 .unit)), (.more (.dp T2) (.one (.dp T2))), fun x => joint_Gap k x.1 x.2.1, false⟩
noncomputable def joint_Gap.cx (k : Nat) : Go.Sx.Ctx := ⟨tys, [(51, joint_Ends.sp k), (55, vec_Sub.sp k), (54, vec_Len.sp k)], eqs, 31, 0, [], false⟩
theorem joint_Gap.cok (k : Nat) : CtxOk PR (joint_Gap.cx k) := ctx_ok tysOk eqsOk (FnsOk.cons (joint_Ends.ok k) (FnsOk.cons (vec_Sub.ok k) (FnsOk.cons (vec_Len.ok k) FnsOk.nil))) HsOk.nil
theorem joint_Gap.way (k : Nat) (a0 : (List V49)) (a1 : V76) : Owp (joint_Gap k a0 a1) fun y => ∃ answers cmds, exec PR (joint_Gap.cx k) joint_Gap.code 0 (entry (.pair (.slice T49) (.pair T76 .unit)) (a0, a1, ())).st answers (Ret (joint_Gap.cx k) Try.f52 cmds (.more (.dp T2) (.one (.dp T2))) y) := by
  unfold joint_Gap; exact
   Owp.bnd fun y1 e2 =>
   Owp.bif (fun e3 =>
   Owp.some (⟨[.res (.more (.dp T27) (.more (.dp T27) (.one (.dp T2)))) y1, .dec true], [], via (retP (And.intro (And.intro trivial e2) e3) (.more (.dp T2) (.one (.dp T2))) (((0 : Int), y1.2.2) : (Int × Int))) (by kernel_rfl)⟩)) (fun e3 =>
   Owp.bnd fun y4 e5 =>
    Owp.bnd fun y6 e7 =>
    Owp.some (⟨[.res (.more (.dp T27) (.more (.dp T27) (.one (.dp T2)))) y1, .dec false, .res (.one (.dp T27)) y4, .res (.one (.dp T2)) y6], [], via (retP (And.intro (And.intro (And.intro (And.intro trivial e2) e3) e5) e7) (.more (.dp T2) (.one (.dp T2))) (((imax (isub .i64 y6 a1.2.2.2.2.1) (ineg .i64 (isub .i64 y6 a1.2.2.2.2.1))), (0 : Int)) : (Int × Int))) (by kernel_rfl)⟩))
theorem joint_Gap.ok (k : Nat) : FnOk PR 52 (joint_Gap.sp k) :=
  fn_ok (joint_Gap.cok k) hmix Try.func52 (code := joint_Gap.code) (by kernel_rfl) (by kernel_rfl) (by kernel_rfl) rfl rfl (by kernel_rfl) (by kernel_rfl) (by kernel_rfl) (fun x => Nat.le_of_ble_eq_true (by kernel_rfl)) fun x y hy => (joint_Gap.way k x.1 x.2.1).ap hy

/-! tourney/tourref2.along -/
noncomputable def tourref2_along.code : Code := Func.cd Try.f180
def tourref2_along (k : Nat) (a0 : (List V49)) (a1 : Int) (a2 : Int) (a3 : V27) (a4 : V27) (a5 : V27) : Option Int :=
  req (inL a2 a0) <|
  bnd (tourref2_Speed k (el Z49 a0 a2) a4) fun y2 =>
  req (inL a1 a0) <|
  bnd (tourref2_Speed k (el Z49 a0 a1) a3) fun y5 =>
  bnd (vec_Sub k y2 y5) fun y7 =>
  bnd (vec_Dot k y7 a5) fun y9 =>
  some y9
noncomputable def tourref2_along.sp (k : Nat) : Go.Sx.Spec := ⟨(.pair (.slice T49) (.pair T2 (.pair T2 (.pair T27 T35)))), (.one (.dp T2)), fun x => tourref2_along k x.1 x.2.1 x.2.2.1 x.2.2.2.1 x.2.2.2.2.1 x.2.2.2.2.2.1, false⟩
noncomputable def tourref2_along.cx (k : Nat) : Go.Sx.Ctx := ⟨tys, [(222, tourref2_Speed.sp k), (55, vec_Sub.sp k), (174, vec_Dot.sp k)], eqs, 28, 0, [], false⟩
theorem tourref2_along.cok (k : Nat) : CtxOk PR (tourref2_along.cx k) := ctx_ok tysOk eqsOk (FnsOk.cons (tourref2_Speed.ok k) (FnsOk.cons (vec_Sub.ok k) (FnsOk.cons (vec_Dot.ok k) FnsOk.nil))) HsOk.nil
theorem tourref2_along.way (k : Nat) (a0 : (List V49)) (a1 : Int) (a2 : Int) (a3 : V27) (a4 : V27) (a5 : V27) : Owp (tourref2_along k a0 a1 a2 a3 a4 a5) fun y => ∃ answers cmds, exec PR (tourref2_along.cx k) tourref2_along.code 0 (entry (.pair (.slice T49) (.pair T2 (.pair T2 (.pair T27 T35)))) (a0, a1, a2, a3, a4, a5, ())).st answers (Ret (tourref2_along.cx k) Try.f180 cmds (.one (.dp T2)) y) := by
  unfold tourref2_along; exact
   Owp.req fun h1 =>
   Owp.bnd fun y2 e3 =>
   Owp.req fun h4 =>
   Owp.bnd fun y5 e6 =>
   Owp.bnd fun y7 e8 =>
   Owp.bnd fun y9 e10 =>
   Owp.some (⟨[.res (.one (.dp T27)) y2, .res (.one (.dp T27)) y5, .res (.one (.dp T27)) y7, .res (.one (.dp T2)) y9], [], via (retP (And.intro (And.intro (And.intro (And.intro (And.intro (And.intro trivial h1) e3) h4) e6) e8) e10) (.one (.dp T2)) (y9 : Int)) (by kernel_rfl)⟩)
theorem tourref2_along.ok (k : Nat) : FnOk PR 180 (tourref2_along.sp k) :=
  fn_ok (tourref2_along.cok k) hmix Try.func180 (code := tourref2_along.code) (by kernel_rfl) (by kernel_rfl) (by kernel_rfl) rfl rfl (by kernel_rfl) (by kernel_rfl) (by kernel_rfl) (fun x => Nat.le_of_ble_eq_true (by kernel_rfl)) fun x y hy => (tourref2_along.way k x.1 x.2.1 x.2.2.1 x.2.2.2.1 x.2.2.2.2.1 x.2.2.2.2.2.1).ap hy

/-! tourney/tourref2.pushed -/
noncomputable def tourref2_pushed.code : Code := Func.cd Try.f181
def tourref2_pushed (k : Nat) (a1 : Int) (a2 : Int) (a3 : V27) (a4 : V27) (a5 : V27) (r0 : (List V49)) : Option (List V49) :=
  req (inL a1 r0) <|
  bnd (tourref2_Pushed k (el Z49 r0 a1) ((ineg .i64 a5.1), (ineg .i64 a5.2.1), ()) a3) fun y2 =>
  req (inL a2 (st r0 a1 y2)) <|
  bnd (tourref2_Pushed k (el Z49 (st r0 a1 y2) a2) a5 a4) fun y5 =>
  some (st (st r0 a1 y2) a2 y5)
noncomputable def tourref2_pushed.h (k : Nat) : Go.Sx.HSp := ⟨(.pair T2 (.pair T2 (.pair T27 (.pair T27 (.pair T27 (.pair (.slice T49) .unit)))))), (.slice T49), 1, fun x => [.lent (.val .own (0 : Nat)), .dat T2 x.1, .dat T2 x.2.1, .dat T27 x.2.2.1, .dat T27 x.2.2.2.1, .dat T27 x.2.2.2.2.1], fun x => [(0, .row T49 x.2.2.2.2.2.1 50)], fun x => tourref2_pushed k x.1 x.2.1 x.2.2.1 x.2.2.2.1 x.2.2.2.2.1 x.2.2.2.2.2.1, fun x y => [(0, .row T49 y 50)], .none, fun y => (), false⟩
noncomputable def tourref2_pushed.cx (k : Nat) : Go.Sx.Ctx := ⟨tys, [(223, tourref2_Pushed.sp k)], eqs, 38, 1, [], false⟩
theorem tourref2_pushed.cok (k : Nat) : CtxOk PR (tourref2_pushed.cx k) := ctx_ok tysOk eqsOk (FnsOk.cons (tourref2_Pushed.ok k) FnsOk.nil) HsOk.nil
@[irreducible] noncomputable def tourref2_pushed.P (k : Nat) (a1 : Int) (a2 : Int) (a3 : V27) (a4 : V27) (a5 : V27) (r0 : (List V49)) (y : (List V49)) (answers : List Ans) (cmds : List Cmd) : Prop := exec PR (tourref2_pushed.cx k) tourref2_pushed.code 1 (entryH (tourref2_pushed.h k) (a1, a2, a3, a4, a5, r0, ())).st answers (RetH (tourref2_pushed.cx k) Try.f181 cmds (tourref2_pushed.h k) (a1, a2, a3, a4, a5, r0, ()) y)
theorem tourref2_pushed.way (k : Nat) (a1 : Int) (a2 : Int) (a3 : V27) (a4 : V27) (a5 : V27) (r0 : (List V49)) : Owp (tourref2_pushed k a1 a2 a3 a4 a5 r0) fun y => ∃ answers cmds, tourref2_pushed.P k a1 a2 a3 a4 a5 r0 y answers cmds := by
  unfold tourref2_pushed; exact
   Owp.req fun h1 =>
   Owp.bnd fun y2 e3 =>
   Owp.req fun h4 =>
   Owp.bnd fun y5 e6 =>
   Owp.some (⟨[.res (.one (.dp T49)) y2, .res (.one (.dp T49)) y5], [], via (rethP (And.intro (And.intro (And.intro (And.intro (And.intro (And.intro (And.intro (And.intro (And.intro (And.intro trivial h1) h1) e3) h1) h1) h4) h4) e6) h4) h4) [(0, .row T49 (st (st r0 a1 y2) a2 y5) 50)] .none (() : Unit)) (by kernel_rfl)⟩)
theorem tourref2_pushed.ok (k : Nat) : HOk PR 181 (tourref2_pushed.h k) :=
  fnH_ok (tourref2_pushed.cok k) hmix Try.func181 (code := tourref2_pushed.code) (by kernel_rfl) (by kernel_rfl) (by kernel_rfl) (by kernel_rfl) (by kernel_rfl) (fun x => Nat.le_of_ble_eq_true (by kernel_rfl)) fun x y hy => match (tourref2_pushed.way k x.1 x.2.1 x.2.2.1 x.2.2.2.1 x.2.2.2.2.1 x.2.2.2.2.2.1).ap hy with | ⟨ans, cmds, h⟩ => ⟨ans, cmds, via h (by kernel_rfl)⟩

/-! tourney/tourref2.pull -/
noncomputable def tourref2_pull.code : Code := Func.cd Try.f133
def tourref2_pull (k : Nat) (a1 : V76) (a2 : V27) (a3 : Int) (a4 : Int) (r0 : (List V49)) : Option (List V49) :=
  req (inL a1.1 r0) <|
  bnd (tourref2_World k (el Z49 r0 a1.1) a1.2.2.1) fun y2 =>
  req (inL a1.2.1 r0) <|
  bnd (tourref2_World k (el Z49 r0 a1.2.1) a1.2.2.2.1) fun y5 =>
  bnd (tourref2_Ease k (el Z49 r0 a1.1) y2 a2) fun y7 =>
  bnd (tourref2_Ease k (el Z49 r0 a1.2.1) y5 a2) fun y9 =>
  bnd (fix_Add k y7 y9) fun y11 =>
  bif' (ieq y11 0)
  (some r0)
  (bnd (tourref2_along k r0 a1.1 a1.2.1 y2 y5 a2) fun y14 =>
   bnd (fix_Mul k a3 16384) fun y16 =>
   bnd (tourref2_quotient k y16 a4) fun y18 =>
   bnd (fix_Sub k (ineg .i64 y14) y18) fun y20 =>
   bnd (tourref2_quotient k y20 y11) fun y22 =>
   bnd (vec_Scale k a2 y22) fun y24 =>
   bnd (tourref2_pushed k a1.1 a1.2.1 y2 y5 y24 r0) fun y26 =>
   some y26)
noncomputable def tourref2_pull.h (k : Nat) : Go.Sx.HSp := ⟨(.pair T76 (.pair T27 (.pair T2 (.pair T2 (.pair (.slice T49) .unit))))), (.slice T49), 1, fun x => [.lent (.val .own (0 : Nat)), .dat T76 x.1, .dat T27 x.2.1, .dat T2 x.2.2.1, .dat T2 x.2.2.2.1], fun x => [(0, .row T49 x.2.2.2.2.1 50)], fun x => tourref2_pull k x.1 x.2.1 x.2.2.1 x.2.2.2.1 x.2.2.2.2.1, fun x y => [(0, .row T49 y 50)], .none, fun y => (), false⟩
noncomputable def tourref2_pull.cx (k : Nat) : Go.Sx.Ctx := ⟨tys, [(53, tourref2_World.sp k), (179, tourref2_Ease.sp k), (104, fix_Add.sp k), (180, tourref2_along.sp k), (105, fix_Mul.sp k), (182, tourref2_quotient.sp k), (127, fix_Sub.sp k), (27, vec_Scale.sp k)], eqs, 77, 1, [(181, tourref2_pushed.h k)], false⟩
theorem tourref2_pull.cok (k : Nat) : CtxOk PR (tourref2_pull.cx k) := ctx_ok tysOk eqsOk (FnsOk.cons (tourref2_World.ok k) (FnsOk.cons (tourref2_Ease.ok k) (FnsOk.cons (fix_Add.ok k) (FnsOk.cons (tourref2_along.ok k) (FnsOk.cons (fix_Mul.ok k) (FnsOk.cons (tourref2_quotient.ok k) (FnsOk.cons (fix_Sub.ok k) (FnsOk.cons (vec_Scale.ok k) FnsOk.nil)))))))) (HsOk.cons (tourref2_pushed.ok k) HsOk.nil)
@[irreducible] noncomputable def tourref2_pull.P (k : Nat) (a1 : V76) (a2 : V27) (a3 : Int) (a4 : Int) (r0 : (List V49)) (y : (List V49)) (answers : List Ans) (cmds : List Cmd) : Prop := exec PR (tourref2_pull.cx k) tourref2_pull.code 1 (entryH (tourref2_pull.h k) (a1, a2, a3, a4, r0, ())).st answers (RetH (tourref2_pull.cx k) Try.f133 cmds (tourref2_pull.h k) (a1, a2, a3, a4, r0, ()) y)
theorem tourref2_pull.way (k : Nat) (a1 : V76) (a2 : V27) (a3 : Int) (a4 : Int) (r0 : (List V49)) : Owp (tourref2_pull k a1 a2 a3 a4 r0) fun y => ∃ answers cmds, tourref2_pull.P k a1 a2 a3 a4 r0 y answers cmds := by
  unfold tourref2_pull; exact
   Owp.req fun h1 =>
   Owp.bnd fun y2 e3 =>
   Owp.req fun h4 =>
   Owp.bnd fun y5 e6 =>
   Owp.bnd fun y7 e8 =>
   Owp.bnd fun y9 e10 =>
   Owp.bnd fun y11 e12 =>
   Owp.bif (fun e13 =>
   Owp.some (⟨[.res (.one (.dp T27)) y2, .res (.one (.dp T27)) y5, .res (.one (.dp T2)) y7, .res (.one (.dp T2)) y9, .res (.one (.dp T2)) y11, .dec true], [], via (rethP (And.intro (And.intro (And.intro (And.intro (And.intro (And.intro (And.intro (And.intro (And.intro (And.intro (And.intro (And.intro (And.intro (And.intro trivial h1) h1) e3) h4) h4) e6) h1) h1) e8) h4) h4) e10) e12) e13) [(0, .row T49 r0 50)] .none (() : Unit)) (by kernel_rfl)⟩)) (fun e13 =>
   Owp.bnd fun y14 e15 =>
    Owp.bnd fun y16 e17 =>
    Owp.bnd fun y18 e19 =>
    Owp.bnd fun y20 e21 =>
    Owp.bnd fun y22 e23 =>
    Owp.bnd fun y24 e25 =>
    Owp.bnd fun y26 e27 =>
    Owp.some (⟨[.res (.one (.dp T27)) y2, .res (.one (.dp T27)) y5, .res (.one (.dp T2)) y7, .res (.one (.dp T2)) y9, .res (.one (.dp T2)) y11, .dec false, .res (.one (.dp T2)) y14, .res (.one (.dp T2)) y16, .res (.one (.dp T2)) y18, .res (.one (.dp T2)) y20, .res (.one (.dp T2)) y22, .res (.one (.dp T27)) y24, .hres [(0, 0)] (.pair T2 (.pair T2 (.pair T27 (.pair T27 (.pair T27 (.pair (.slice T49) .unit)))))) (a1.1, a1.2.1, y2, y5, y24, r0, ()) (.slice T49) y26], [], via (rethP (And.intro (And.intro (And.intro (And.intro (And.intro (And.intro (And.intro (And.intro (And.intro (And.intro (And.intro (And.intro (And.intro (And.intro (And.intro (And.intro (And.intro (And.intro (And.intro (And.intro (And.intro trivial h1) h1) e3) h4) h4) e6) h1) h1) e8) h4) h4) e10) e12) e13) e15) e17) e19) e21) e23) e25) (callHP (tourref2_pushed.h k) [(0, 0)] (a1.1, a1.2.1, y2, y5, y24, r0, ()) e27)) [(0, .row T49 y26 50)] .none (() : Unit)) (by kernel_rfl)⟩))
theorem tourref2_pull.ok (k : Nat) : HOk PR 133 (tourref2_pull.h k) :=
  fnH_ok (tourref2_pull.cok k) hmix Try.func133 (code := tourref2_pull.code) (by kernel_rfl) (by kernel_rfl) (by kernel_rfl) (by kernel_rfl) (by kernel_rfl) (fun x => Nat.le_of_ble_eq_true (by kernel_rfl)) fun x y hy => match (tourref2_pull.way k x.1 x.2.1 x.2.2.1 x.2.2.2.1 x.2.2.2.2.1).ap hy with | ⟨ans, cmds, h⟩ => ⟨ans, cmds, via h (by kernel_rfl)⟩

/-! tourney/tourref2.Pull -/
noncomputable def tourref2_Pull.code : Code := Func.cd Try.f59
def tourref2_Pull.c2 (k : Nat) (a1 : (List V76)) (a2 : Int) : Nat → Int → (List V49) → Option ((List V49))
  | 0, _, _ => none
  | n + 1, v6, v7 =>
   bif' (ilt v6 (len a1))
   (req (inL v6 a1) <|
    req (inL (el Z76 a1 v6).2.1 v7) <|
    bnd (tourref2_World k (el Z49 v7 (el Z76 a1 v6).2.1) (el Z76 a1 v6).2.2.2.1) fun y11 =>
    req (inL (el Z76 a1 v6).1 v7) <|
    bnd (tourref2_World k (el Z49 v7 (el Z76 a1 v6).1) (el Z76 a1 v6).2.2.1) fun y14 =>
    bnd (vec_Sub k y11 y14) fun y16 =>
    bif' (ieq (el Z76 a1 v6).2.2.2.2.1 0)
    (bnd (tourref2_pull k (el Z76 a1 v6) (65536, 0, ()) y16.1 a2 v7) fun y19 =>
     bnd (tourref2_pull k (el Z76 a1 v6) (0, 65536, ()) y16.2.1 a2 y19) fun y21 =>
     tourref2_Pull.c2 k a1 a2 n (iadd .i64 v6 1) y21)
    (bif' (Ty.eqb T27 y16 ((0 : Int), (0 : Int), ()))
     (bnd (tourref2_pull k (el Z76 a1 v6) (65536, 0, ()) (ineg .i64 (el Z76 a1 v6).2.2.2.2.1) a2 v7) fun y24 =>
      tourref2_Pull.c2 k a1 a2 n (iadd .i64 v6 1) y24)
     (bnd (vec_Unit k y16) fun y26 =>
      bnd (vec_Len k y16) fun y28 =>
      bnd (tourref2_pull k (el Z76 a1 v6) y26 (isub .i64 y28 (el Z76 a1 v6).2.2.2.2.1) a2 v7) fun y30 =>
      tourref2_Pull.c2 k a1 a2 n (iadd .i64 v6 1) y30)))
   (some v7)
def tourref2_Pull.c1 (k : Nat) (a1 : (List V76)) (a2 : Int) (a3 : Int) : Nat → Int → (List V49) → Option ((List V49))
  | 0, _, _ => none
  | n + 1, v3, v4 =>
   bif' (ilt v3 a3)
   (bnd (tourref2_Pull.c2 k a1 a2 k 0 v4) fun o32 =>
    tourref2_Pull.c1 k a1 a2 a3 n (iadd .i64 v3 1) o32)
   (some v4)
def tourref2_Pull (k : Nat) (a0 : (List V49)) (a1 : (List V76)) (a2 : Int) (a3 : Int) : Option (List V49) :=
  bnd (slices_Clone_132 k a0) fun y1 =>
  bnd (tourref2_Pull.c1 k a1 a2 a3 k 0 y1) fun o34 =>
  some o34
noncomputable def tourref2_Pull.sp (k : Nat) : Go.Sx.Spec := ⟨(.pair (.slice T49) (.pair (.slice T76) T27)), (.one (.ow T49 50)), fun x => tourref2_Pull k x.1 x.2.1 x.2.2.1 x.2.2.2.1, false⟩
noncomputable def tourref2_Pull.cx (k : Nat) : Go.Sx.Ctx := ⟨tys, [(132, slices_Clone_132.sp k), (53, tourref2_World.sp k), (55, vec_Sub.sp k), (129, vec_Unit.sp k), (54, vec_Len.sp k)], eqs, 85, 0, [(133, tourref2_pull.h k)], false⟩
theorem tourref2_Pull.cok (k : Nat) : CtxOk PR (tourref2_Pull.cx k) := ctx_ok tysOk eqsOk (FnsOk.cons (slices_Clone_132.ok k) (FnsOk.cons (tourref2_World.ok k) (FnsOk.cons (vec_Sub.ok k) (FnsOk.cons (vec_Unit.ok k) (FnsOk.cons (vec_Len.ok k) FnsOk.nil))))) (HsOk.cons (tourref2_pull.ok k) HsOk.nil)
noncomputable def tourref2_Pull.c2p (a1 : (List V76)) (a2 : Int) (a3 : Int) (v3 : Int) (v6 : Int) (v7 : (List V49)) : SL := ⟨[(1, (.val (.slice T76) a1)), (2, (.val T2 a2)), (9, (.val .own (0 : Nat))), (15, (.val T2 a3)), (16, (.val T2 v3)), (18, (.val (.slice T76) a1)), (19, (.val T2 (len a1))), (20, (.val T2 v6))], [(0, .row T49 v7 50)]⟩
noncomputable def tourref2_Pull.c2q (a1 : (List V76)) (a2 : Int) (a3 : Int) (v3 : Int) (o : (List V49)) : SL := (fun v => ⟨[(1, (.val (.slice T76) a1)), (2, (.val T2 a2)), (9, (.val .own (0 : Nat))), (15, (.val T2 a3)), (16, (.val T2 v3))], [(0, .row T49 v 50)]⟩) o
noncomputable def tourref2_Pull.c2x (o : (List V49)) : Ex := (fun _ => (.exit 2)) o
noncomputable def tourref2_Pull.c2n (o : (List V49)) : Nat := (fun _ => 1) o
theorem tourref2_Pull.c2_ok (k : Nat) (a1 : (List V76)) (a2 : Int) (a3 : Int) (v3 : Int) : ∀ (n : Nat) (v6 : Int) (v7 : (List V49)), Owp (tourref2_Pull.c2 k a1 a2 n v6 v7) fun o => LTriple PR (tourref2_Pull.cx k) (sub tourref2_Pull.code [1, 1, 0, 1, 0, 0, 1, 1, 0, 0, 1, 0, 0]) 1 (tourref2_Pull.c2p a1 a2 a3 v3 v6 v7) (tourref2_Pull.c2x o) (tourref2_Pull.c2n o) (tourref2_Pull.c2q a1 a2 a3 v3 o)
  | 0, _, _ => fun _ h => nomatch h
  | n + 1, v6, v7 => Owp.of (tourref2_Pull.c2.eq_2 ..) (
   Owp.bif (fun e8 =>
   Owp.req fun h9 =>
    Owp.req fun h10 =>
    Owp.bnd fun y11 e12 =>
    Owp.req fun h13 =>
    Owp.bnd fun y14 e15 =>
    Owp.bnd fun y16 e17 =>
    Owp.bif (fun e18 =>
    Owp.bnd fun y19 e20 =>
     Owp.bnd fun y21 e22 =>
     fun y hy => loop_back (tourref2_Pull.cok k) hmix 1 (tourref2_Pull.c2p a1 a2 a3 v3 (iadd .i64 v6 (1 : Int)) y21) [.dec true, .res (.one (.dp T27)) y11, .res (.one (.dp T27)) y14, .res (.one (.dp T27)) y16, .dec true, .hres [(0, 0)] (.pair T76 (.pair T27 (.pair T2 (.pair T2 (.pair (.slice T49) .unit))))) ((el Z76 a1 v6), ((65536 : Int), (0 : Int), ()), y16.1, a2, v7, ()) (.slice T49) y19, .hres [(0, 0)] (.pair T76 (.pair T27 (.pair T2 (.pair T2 (.pair (.slice T49) .unit))))) ((el Z76 a1 v6), ((0 : Int), (65536 : Int), ()), y16.2.1, a2, y19, ()) (.slice T49) y21] [] [(0, 0)] (via (finP (And.intro (And.intro (And.intro (And.intro (And.intro (And.intro (And.intro (And.intro (And.intro (And.intro (And.intro (And.intro trivial e8) h9) h10) h10) e12) h13) h13) e15) e17) e18) (callHP (tourref2_pull.h k) [(0, 0)] ((el Z76 a1 v6), ((65536 : Int), (0 : Int), ()), y16.1, a2, v7, ()) e20)) (callHP (tourref2_pull.h k) [(0, 0)] ((el Z76 a1 v6), ((0 : Int), (65536 : Int), ()), y16.2.1, a2, y19, ()) e22)) .normal [(0, 0)] (tourref2_Pull.c2p a1 a2 a3 v3 (iadd .i64 v6 (1 : Int)) y21)) (by kernel_rfl)) ((tourref2_Pull.c2_ok k a1 a2 a3 v3 n (iadd .i64 v6 (1 : Int)) y21).ap hy)) (fun e18 =>
    Owp.bif (fun e23 =>
     Owp.bnd fun y24 e25 =>
      fun y hy => loop_back (tourref2_Pull.cok k) hmix 1 (tourref2_Pull.c2p a1 a2 a3 v3 (iadd .i64 v6 (1 : Int)) y24) [.dec true, .res (.one (.dp T27)) y11, .res (.one (.dp T27)) y14, .res (.one (.dp T27)) y16, .dec false, .dec true, .hres [(0, 0)] (.pair T76 (.pair T27 (.pair T2 (.pair T2 (.pair (.slice T49) .unit))))) ((el Z76 a1 v6), ((65536 : Int), (0 : Int), ()), (ineg .i64 (el Z76 a1 v6).2.2.2.2.1), a2, v7, ()) (.slice T49) y24] [] [(0, 0)] (via (finP (And.intro (And.intro (And.intro (And.intro (And.intro (And.intro (And.intro (And.intro (And.intro (And.intro (And.intro (And.intro trivial e8) h9) h10) h10) e12) h13) h13) e15) e17) e18) e23) (callHP (tourref2_pull.h k) [(0, 0)] ((el Z76 a1 v6), ((65536 : Int), (0 : Int), ()), (ineg .i64 (el Z76 a1 v6).2.2.2.2.1), a2, v7, ()) e25)) .normal [(0, 0)] (tourref2_Pull.c2p a1 a2 a3 v3 (iadd .i64 v6 (1 : Int)) y24)) (by kernel_rfl)) ((tourref2_Pull.c2_ok k a1 a2 a3 v3 n (iadd .i64 v6 (1 : Int)) y24).ap hy)) (fun e23 =>
     Owp.bnd fun y26 e27 =>
      Owp.bnd fun y28 e29 =>
      Owp.bnd fun y30 e31 =>
      fun y hy => loop_back (tourref2_Pull.cok k) hmix 1 (tourref2_Pull.c2p a1 a2 a3 v3 (iadd .i64 v6 (1 : Int)) y30) [.dec true, .res (.one (.dp T27)) y11, .res (.one (.dp T27)) y14, .res (.one (.dp T27)) y16, .dec false, .dec false, .res (.one (.dp T27)) y26, .res (.one (.dp T2)) y28, .hres [(0, 0)] (.pair T76 (.pair T27 (.pair T2 (.pair T2 (.pair (.slice T49) .unit))))) ((el Z76 a1 v6), y26, (isub .i64 y28 (el Z76 a1 v6).2.2.2.2.1), a2, v7, ()) (.slice T49) y30] [] [(0, 0)] (via (finP (And.intro (And.intro (And.intro (And.intro (And.intro (And.intro (And.intro (And.intro (And.intro (And.intro (And.intro (And.intro (And.intro (And.intro trivial e8) h9) h10) h10) e12) h13) h13) e15) e17) e18) e23) e27) e29) (callHP (tourref2_pull.h k) [(0, 0)] ((el Z76 a1 v6), y26, (isub .i64 y28 (el Z76 a1 v6).2.2.2.2.1), a2, v7, ()) e31)) .normal [(0, 0)] (tourref2_Pull.c2p a1 a2 a3 v3 (iadd .i64 v6 (1 : Int)) y30)) (by kernel_rfl)) ((tourref2_Pull.c2_ok k a1 a2 a3 v3 n (iadd .i64 v6 (1 : Int)) y30).ap hy)))) (fun e8 =>
   Owp.some (loop_exit (tourref2_Pull.cok k) hmix [.dec false] [] [(0, 0)] (exne 2) (via (finP (And.intro trivial e8) (.exit 2) [(0, 0)] (tourref2_Pull.c2q a1 a2 a3 v3 v7)) (by kernel_rfl)))))
noncomputable def tourref2_Pull.c1p (a1 : (List V76)) (a2 : Int) (a3 : Int) (v3 : Int) (v4 : (List V49)) : SL := ⟨[(1, (.val (.slice T76) a1)), (2, (.val T2 a2)), (9, (.val .own (0 : Nat))), (15, (.val T2 a3)), (16, (.val T2 v3))], [(0, .row T49 v4 50)]⟩
noncomputable def tourref2_Pull.c1q (o : (List V49)) : SL := (fun v => ⟨[(9, (.val .own (0 : Nat)))], [(0, .row T49 v 50)]⟩) o
noncomputable def tourref2_Pull.c1x (o : (List V49)) : Ex := (fun _ => (.exit 0)) o
noncomputable def tourref2_Pull.c1n (o : (List V49)) : Nat := (fun _ => 1) o
theorem tourref2_Pull.c1_ok (k : Nat) (a1 : (List V76)) (a2 : Int) (a3 : Int) : ∀ (n : Nat) (v3 : Int) (v4 : (List V49)), Owp (tourref2_Pull.c1 k a1 a2 a3 n v3 v4) fun o => LTriple PR (tourref2_Pull.cx k) (sub tourref2_Pull.code [1, 1, 0, 1, 0, 0]) 1 (tourref2_Pull.c1p a1 a2 a3 v3 v4) (tourref2_Pull.c1x o) (tourref2_Pull.c1n o) (tourref2_Pull.c1q o)
  | 0, _, _ => fun _ h => nomatch h
  | n + 1, v3, v4 => Owp.of (tourref2_Pull.c1.eq_2 ..) (
   Owp.bif (fun e5 =>
   Owp.bnd fun o32 e33 =>
    fun y hy => loop_back (tourref2_Pull.cok k) hmix 1 (tourref2_Pull.c1p a1 a2 a3 (iadd .i64 v3 (1 : Int)) o32) [.dec true, .cut ⟨[], [(0, 0)], (tourref2_Pull.c2p a1 a2 a3 v3 (0 : Int) v4), 1, (.exit 2), (tourref2_Pull.c2q a1 a2 a3 v3 o32), 1⟩] [] [(0, 0)] (via (cutP (And.intro trivial e5) [(0, 0)] (tourref2_Pull.c2p a1 a2 a3 v3 (0 : Int) v4) (((tourref2_Pull.c2_ok k a1 a2 a3 v3 k (0 : Int) v4).ap e33).triple) (finP trivial .normal [(0, 0)] (tourref2_Pull.c1p a1 a2 a3 (iadd .i64 v3 (1 : Int)) o32))) (by kernel_rfl)) ((tourref2_Pull.c1_ok k a1 a2 a3 n (iadd .i64 v3 (1 : Int)) o32).ap hy)) (fun e5 =>
   Owp.some (loop_exit (tourref2_Pull.cok k) hmix [.dec false] [] [(0, 0)] (exne 0) (via (finP (And.intro trivial e5) (.exit 0) [(0, 0)] (tourref2_Pull.c1q v4)) (by kernel_rfl)))))
theorem tourref2_Pull.way (k : Nat) (a0 : (List V49)) (a1 : (List V76)) (a2 : Int) (a3 : Int) : Owp (tourref2_Pull k a0 a1 a2 a3) fun y => ∃ answers cmds, exec PR (tourref2_Pull.cx k) tourref2_Pull.code 0 (entry (.pair (.slice T49) (.pair (.slice T76) T27)) (a0, a1, a2, a3, ())).st answers (Ret (tourref2_Pull.cx k) Try.f59 cmds (.one (.ow T49 50)) y) := by
  unfold tourref2_Pull; exact
   Owp.bnd fun y1 e2 =>
   Owp.bnd fun o34 e35 =>
   Owp.some (⟨[.res (.one (.ow T49 50)) y1, .cut ⟨[], [(0, 2)], (tourref2_Pull.c1p a1 a2 a3 (0 : Int) y1), 1, (.exit 0), (tourref2_Pull.c1q o34), 1⟩], [], via (cutP (And.intro trivial e2) [(0, 2)] (tourref2_Pull.c1p a1 a2 a3 (0 : Int) y1) (((tourref2_Pull.c1_ok k a1 a2 a3 k (0 : Int) y1).ap e35).triple) (retP trivial (.one (.ow T49 50)) (o34 : (List V49)))) (by kernel_rfl)⟩)
theorem tourref2_Pull.ok (k : Nat) : FnOk PR 59 (tourref2_Pull.sp k) :=
  fn_ok (tourref2_Pull.cok k) hmix Try.func59 (code := tourref2_Pull.code) (by kernel_rfl) (by kernel_rfl) (by kernel_rfl) rfl rfl (by kernel_rfl) (by kernel_rfl) (by kernel_rfl) (fun x => Nat.le_of_ble_eq_true (by kernel_rfl)) fun x y hy => (tourref2_Pull.way k x.1 x.2.1 x.2.2.1 x.2.2.2.1).ap hy

/-! slices.EqualFunc[[]tourney/api.Body,[]tourney/api.Body,tourney/api.Body,tourney/api.Body] -/
noncomputable def slices_EqualFunc.code : Code := Func.cd Try.f62
def slices_EqualFunc.c1 (k : Nat) (a0 : (List V49)) (a1 : (List V49)) (a2 : ((V49 × (V49 × Unit)) → Option Bool)) : Nat → Int → Option (Unit ⊕ Unit)
  | 0, _ => none
  | n + 1, v2 =>
   bif' (ilt v2 (len a0))
   (req (inL v2 a0) <|
    req (inL v2 a1) <|
    bnd (a2 ((el Z49 a0 v2), (el Z49 a1 v2), ())) fun y6 =>
    bif' y6
    (slices_EqualFunc.c1 k a0 a1 a2 n (iadd .i64 v2 1))
    (some (.inl ())))
   (some (.inr ()))
def slices_EqualFunc (k : Nat) (a0 : (List V49)) (a1 : (List V49)) (a2 : ((V49 × (V49 × Unit)) → Option Bool)) : Option Bool :=
  bif' (ine (len a0) (len a1))
  (some false)
  (bnd (slices_EqualFunc.c1 k a0 a1 a2 k 0) fun o9 =>
   two o9 (fun y11 =>
   some false) (fun y13 =>
   some true))
noncomputable def slices_EqualFunc.sp (k : Nat) : Go.Sx.Spec := ⟨(.pair (.slice T49) (.pair (.slice T49) (.pair (.fn (.pair T49 (.pair T49 .unit)) T4) .unit))), (.one (.dp T4)), fun x => slices_EqualFunc k x.1 x.2.1 x.2.2.1, false⟩
noncomputable def slices_EqualFunc.cx (k : Nat) : Go.Sx.Ctx := ⟨tys, [], eqs, 32, 0, [], false⟩
theorem slices_EqualFunc.cok (k : Nat) : CtxOk PR (slices_EqualFunc.cx k) := ctx_ok tysOk eqsOk FnsOk.nil HsOk.nil
noncomputable def slices_EqualFunc.c1p (a0 : (List V49)) (a1 : (List V49)) (a2 : ((V49 × (V49 × Unit)) → Option Bool)) (v2 : Int) : SL := ⟨[(1, (.val (.slice T49) a1)), (2, (.val (.fn (.pair T49 (.pair T49 .unit)) T4) a2)), (15, (.val (.slice T49) a0)), (16, (.val T2 (len a0))), (17, (.val T2 v2))], []⟩
noncomputable def slices_EqualFunc.c1q (o : Unit ⊕ Unit) : SL := (fun o => two o (fun v => ⟨[(6, (.val T4 false))], []⟩) (fun v => ⟨[], []⟩)) o
noncomputable def slices_EqualFunc.c1x (o : Unit ⊕ Unit) : Ex := (fun o => two o (fun _ => .ret) (fun _ => (.exit 0))) o
noncomputable def slices_EqualFunc.c1n (o : Unit ⊕ Unit) : Nat := (fun o => two o (fun _ => 0) (fun _ => 0)) o
theorem slices_EqualFunc.c1_ok (k : Nat) (a0 : (List V49)) (a1 : (List V49)) (a2 : ((V49 × (V49 × Unit)) → Option Bool)) : ∀ (n : Nat) (v2 : Int), Owp (slices_EqualFunc.c1 k a0 a1 a2 n v2) fun o => LTriple PR (slices_EqualFunc.cx k) (sub slices_EqualFunc.code [1, 1, 0, 1, 0, 0]) 0 (slices_EqualFunc.c1p a0 a1 a2 v2) (slices_EqualFunc.c1x o) (slices_EqualFunc.c1n o) (slices_EqualFunc.c1q o)
  | 0, _ => fun _ h => nomatch h
  | n + 1, v2 => Owp.of (slices_EqualFunc.c1.eq_2 ..) (
   Owp.bif (fun e3 =>
   Owp.req fun h4 =>
    Owp.req fun h5 =>
    Owp.bnd fun y6 e7 =>
    Owp.bif (fun e8 =>
    fun y hy => loop_back (slices_EqualFunc.cok k) hmix 0 (slices_EqualFunc.c1p a0 a1 a2 (iadd .i64 v2 (1 : Int))) [.dec true, .res (.one (.dp T4)) y6, .dec false] [] [] (via (finP (And.intro (And.intro (And.intro (And.intro (And.intro trivial e3) h4) h5) e7) (congrArg not e8)) .normal [] (slices_EqualFunc.c1p a0 a1 a2 (iadd .i64 v2 (1 : Int)))) (by kernel_rfl)) ((slices_EqualFunc.c1_ok k a0 a1 a2 n (iadd .i64 v2 (1 : Int))).ap hy)) (fun e8 =>
    Owp.some (loop_exit (slices_EqualFunc.cok k) hmix [.dec true, .res (.one (.dp T4)) y6, .dec true] [] [] exne_ret (via (finP (And.intro (And.intro (And.intro (And.intro (And.intro trivial e3) h4) h5) e7) (congrArg not e8)) .ret [] (slices_EqualFunc.c1q (.inl ()))) (by kernel_rfl))))) (fun e3 =>
   Owp.some (loop_exit (slices_EqualFunc.cok k) hmix [.dec false] [] [] (exne 0) (via (finP (And.intro trivial e3) (.exit 0) [] (slices_EqualFunc.c1q (.inr ()))) (by kernel_rfl)))))
theorem slices_EqualFunc.way (k : Nat) (a0 : (List V49)) (a1 : (List V49)) (a2 : ((V49 × (V49 × Unit)) → Option Bool)) : Owp (slices_EqualFunc k a0 a1 a2) fun y => ∃ answers cmds, exec PR (slices_EqualFunc.cx k) slices_EqualFunc.code 0 (entry (.pair (.slice T49) (.pair (.slice T49) (.pair (.fn (.pair T49 (.pair T49 .unit)) T4) .unit))) (a0, a1, a2, ())).st answers (Ret (slices_EqualFunc.cx k) Try.f62 cmds (.one (.dp T4)) y) := by
  unfold slices_EqualFunc; exact
   Owp.bif (fun e1 =>
   Owp.some (⟨[.dec true], [], via (retP (And.intro trivial e1) (.one (.dp T4)) (false : Bool)) (by kernel_rfl)⟩)) (fun e1 =>
   Owp.bnd fun o9 e10 =>
    Owp.two (fun y11 e12 =>
    Owp.some (⟨[.dec false, .cut ⟨[], [], (slices_EqualFunc.c1p a0 a1 a2 (0 : Int)), 0, .ret, (slices_EqualFunc.c1q (.inl ())), 0⟩], [], via (cutP (And.intro trivial e1) [] (slices_EqualFunc.c1p a0 a1 a2 (0 : Int)) (((slices_EqualFunc.c1_ok k a0 a1 a2 k (0 : Int)).ap (e10.trans (congrArg some e12))).triple) (retP trivial (.one (.dp T4)) (false : Bool))) (by kernel_rfl)⟩)) (fun y13 e14 =>
    Owp.some (⟨[.dec false, .cut ⟨[], [], (slices_EqualFunc.c1p a0 a1 a2 (0 : Int)), 0, (.exit 0), (slices_EqualFunc.c1q (.inr ())), 0⟩], [], via (cutP (And.intro trivial e1) [] (slices_EqualFunc.c1p a0 a1 a2 (0 : Int)) (((slices_EqualFunc.c1_ok k a0 a1 a2 k (0 : Int)).ap (e10.trans (congrArg some e14))).triple) (retP trivial (.one (.dp T4)) (true : Bool))) (by kernel_rfl)⟩)))
theorem slices_EqualFunc.ok (k : Nat) : FnOk PR 62 (slices_EqualFunc.sp k) :=
  fn_ok (slices_EqualFunc.cok k) hmix Try.func62 (code := slices_EqualFunc.code) (by kernel_rfl) (by kernel_rfl) (by kernel_rfl) rfl rfl (by kernel_rfl) (by kernel_rfl) (by kernel_rfl) (fun x => Nat.le_of_ble_eq_true (by kernel_rfl)) fun x y hy => (slices_EqualFunc.way k x.1 x.2.1 x.2.2.1).ap hy

/-! tourney/tourref2.SameBodies -/
noncomputable def tourref2_SameBodies.code : Code := Func.cd Try.f58
def tourref2_SameBodies (k : Nat) (a0 : (List V49)) (a1 : (List V49)) : Option Bool :=
  bnd (slices_EqualFunc k a0 a1 (fun x : (V49 × (V49 × Unit)) => tourref2_SameBody k (x.1) (x.2.1))) fun y1 =>
  some y1
noncomputable def tourref2_SameBodies.sp (k : Nat) : Go.Sx.Spec := ⟨(.pair (.slice T49) (.pair (.slice T49) .unit)), (.one (.dp T4)), fun x => tourref2_SameBodies k x.1 x.2.1, false⟩
noncomputable def tourref2_SameBodies.cx (k : Nat) : Go.Sx.Ctx := ⟨tys, [(62, slices_EqualFunc.sp k), (131, tourref2_SameBody.sp k)], eqs, 8, 0, [], false⟩
theorem tourref2_SameBodies.cok (k : Nat) : CtxOk PR (tourref2_SameBodies.cx k) := ctx_ok tysOk eqsOk (FnsOk.cons (slices_EqualFunc.ok k) (FnsOk.cons (tourref2_SameBody.ok k) FnsOk.nil)) HsOk.nil
theorem tourref2_SameBodies.way (k : Nat) (a0 : (List V49)) (a1 : (List V49)) : Owp (tourref2_SameBodies k a0 a1) fun y => ∃ answers cmds, exec PR (tourref2_SameBodies.cx k) tourref2_SameBodies.code 0 (entry (.pair (.slice T49) (.pair (.slice T49) .unit)) (a0, a1, ())).st answers (Ret (tourref2_SameBodies.cx k) Try.f58 cmds (.one (.dp T4)) y) := by
  unfold tourref2_SameBodies; exact
   Owp.bnd fun y1 e2 =>
   Owp.some (⟨[.res (.one (.dp T4)) y1], [], via (retP (And.intro trivial e2) (.one (.dp T4)) (y1 : Bool)) (by kernel_rfl)⟩)
theorem tourref2_SameBodies.ok (k : Nat) : FnOk PR 58 (tourref2_SameBodies.sp k) :=
  fn_ok (tourref2_SameBodies.cok k) hmix Try.func58 (code := tourref2_SameBodies.code) (by kernel_rfl) (by kernel_rfl) (by kernel_rfl) rfl rfl (by kernel_rfl) (by kernel_rfl) (by kernel_rfl) (fun x => Nat.le_of_ble_eq_true (by kernel_rfl)) fun x y hy => (tourref2_SameBodies.way k x.1 x.2.1).ap hy

/-! tourney/tourlaw2.JointSays -/
noncomputable def tourlaw2_JointSays.code : Code := Func.cd Try.f9
def tourlaw2_JointSays.c2 (k : Nat) (y8 : Int) (y10 : (V27 × (V27 × Int))) (y12 : (Int × Int)) : Option (Bool) :=
  bif' (ine y10.2.2 y8)
  (some true)
  (some (ine y12.2 y8))
def tourlaw2_JointSays.c3 (k : Nat) (y10 : (V27 × (V27 × Int))) (y12 : (Int × Int)) : Option (Bool) :=
  bif' (Ty.eqb T27 y10.1 ((0 : Int), (0 : Int), ()))
  (bif' (Ty.eqb T27 y10.2.1 ((0 : Int), (0 : Int), ()))
   (some (ine y12.1 0))
   (some true))
  (some true)
def tourlaw2_JointSays.c4 (k : Nat) (a1 : (List V76)) (v5 : Int) (y10 : (V27 × (V27 × Int))) (y12 : (Int × Int)) (y25 : V27) (y28 : V27) (y32 : Int) : Option (Bool) :=
  bif' (Ty.eqb T27 y10.1 y25)
  (bif' (Ty.eqb T27 y10.2.1 y28)
   (some (ine y12.1 (imax (isub .i64 y32 (el Z76 (cut a1 0 (imin (len a1) 8)) v5).2.2.2.2.1) (ineg .i64 (isub .i64 y32 (el Z76 (cut a1 0 (imin (len a1) 8)) v5).2.2.2.2.1)))))
   (some true))
  (some true)
def tourlaw2_JointSays.c1 (k : Nat) (a0 : (List V49)) (a1 : (List V76)) : Nat → Int → Option (Unit ⊕ Unit)
  | 0, _ => none
  | n + 1, v5 =>
   bif' (ilt v5 (len (cut a1 0 (imin (len a1) 8))))
   (req (inL v5 (cut a1 0 (imin (len a1) 8))) <|
    bnd (tourref2_Joints k a0 [(el Z76 (cut a1 0 (imin (len a1) 8)) v5)]) fun y8 =>
    bnd (joint_Ends k a0 (el Z76 (cut a1 0 (imin (len a1) 8)) v5)) fun y10 =>
    bnd (joint_Gap k a0 (el Z76 (cut a1 0 (imin (len a1) 8)) v5)) fun y12 =>
    bnd (tourlaw2_JointSays.c2 k y8 y10 y12) fun o15 =>
    bif' o15
    (some (.inl ()))
    (bif' (ine y8 0)
     (bnd (tourlaw2_JointSays.c3 k y10 y12) fun o21 =>
      bif' o21
      (some (.inl ()))
      (tourlaw2_JointSays.c1 k a0 a1 n (iadd .i64 v5 1)))
     (req (inL (el Z76 (cut a1 0 (imin (len a1) 8)) v5).1 a0) <|
      bnd (tourref2_World k (el Z49 a0 (el Z76 (cut a1 0 (imin (len a1) 8)) v5).1) (el Z76 (cut a1 0 (imin (len a1) 8)) v5).2.2.1) fun y25 =>
      req (inL (el Z76 (cut a1 0 (imin (len a1) 8)) v5).2.1 a0) <|
      bnd (tourref2_World k (el Z49 a0 (el Z76 (cut a1 0 (imin (len a1) 8)) v5).2.1) (el Z76 (cut a1 0 (imin (len a1) 8)) v5).2.2.2.1) fun y28 =>
      bnd (vec_Sub k y28 y25) fun y30 =>
      bnd (vec_Len k y30) fun y32 =>
      bnd (tourlaw2_JointSays.c4 k a1 v5 y10 y12 y25 y28 y32) fun o36 =>
      bif' o36
      (some (.inl ()))
      (tourlaw2_JointSays.c1 k a0 a1 n (iadd .i64 v5 1)))))
   (some (.inr ()))
def tourlaw2_JointSays.c5 (k : Nat) (a2 : Int) (a3 : Int) (y47 : Int) : Option (Bool) :=
  bif' (ieq y47 0)
  (bif' (ilt a2 1)
   (some true)
   (bif' (igt a2 65536)
    (some true)
    (bif' (ilt a3 0)
     (some true)
     (some (igt a3 32)))))
  (some false)
def tourlaw2_JointSays.c6 (k : Nat) (o56 : Bool) (y47 : Int) : Option (Int) :=
  bif' o56
  (some 1)
  (some y47)
def tourlaw2_JointSays.c7 (k : Nat) (o59 : Int) (y45 : ((List V49) × Int)) : Option (Bool) :=
  bif' (ieq y45.2 o59)
  (some (ieq (len y45.1) 0))
  (some false)
def tourlaw2_JointSays (k : Nat) (a0 : (List V49)) (a1 : (List V76)) (a2 : Int) (a3 : Int) : Option Bool :=
  bnd (tourlaw2_jointBegun k) fun y1 =>
  bif' y1
  (req (cutOk a1 0 (imin (len a1) 8)) <|
   bnd (tourlaw2_JointSays.c1 k a0 a1 k 0) fun o39 =>
   two o39 (fun y41 =>
   some false) (fun y43 =>
   bnd (joint_Run k a0 a1 a2 a3) fun y45 =>
    bnd (tourref2_Joints k a0 a1) fun y47 =>
    bnd (joint_Check k a0 a1) fun y49 =>
    bif' (ine y49 y47)
    (some false)
    (bnd (tourlaw2_JointSays.c5 k a2 a3 y47) fun o56 =>
     bnd (tourlaw2_JointSays.c6 k o56 y47) fun o59 =>
     bif' (ine o59 0)
     (bnd (tourlaw2_JointSays.c7 k o59 y45) fun o63 =>
      some o63)
     (bif' (ieq y45.2 0)
      (bnd (tourref2_Pull k a0 a1 a2 a3) fun y66 =>
       bnd (tourref2_SameBodies k y45.1 y66) fun y68 =>
       some y68)
      (some false)))))
  (some false)
noncomputable def tourlaw2_JointSays.sp (k : Nat) : Go.Sx.Spec := ⟨(.pair (.slice T49) (.pair (.slice T76) T27)), (.one (.dp T4)), fun x => tourlaw2_JointSays k x.1 x.2.1 x.2.2.1 x.2.2.2.1, false⟩
noncomputable def tourlaw2_JointSays.cx (k : Nat) : Go.Sx.Ctx := ⟨tys, [(49, tourlaw2_jointBegun.sp k), (50, tourref2_Joints.sp k), (51, joint_Ends.sp k), (52, joint_Gap.sp k), (53, tourref2_World.sp k), (55, vec_Sub.sp k), (54, vec_Len.sp k), (56, joint_Run.sp k), (57, joint_Check.sp k), (59, tourref2_Pull.sp k), (58, tourref2_SameBodies.sp k)], eqs, 169, 0, [], false⟩
theorem tourlaw2_JointSays.cok (k : Nat) : CtxOk PR (tourlaw2_JointSays.cx k) := ctx_ok tysOk eqsOk (FnsOk.cons (tourlaw2_jointBegun.ok k) (FnsOk.cons (tourref2_Joints.ok k) (FnsOk.cons (joint_Ends.ok k) (FnsOk.cons (joint_Gap.ok k) (FnsOk.cons (tourref2_World.ok k) (FnsOk.cons (vec_Sub.ok k) (FnsOk.cons (vec_Len.ok k) (FnsOk.cons (joint_Run.ok k) (FnsOk.cons (joint_Check.ok k) (FnsOk.cons (tourref2_Pull.ok k) (FnsOk.cons (tourref2_SameBodies.ok k) FnsOk.nil))))))))))) HsOk.nil
noncomputable def tourlaw2_JointSays.c2p (a0 : (List V49)) (a1 : (List V76)) (a2 : Int) (a3 : Int) (v5 : Int) (y8 : Int) (y10 : (V27 × (V27 × Int))) (y12 : (Int × Int)) : SL := ⟨[(0, (.val (.slice T49) a0)), (1, (.val (.slice T76) a1)), (2, (.val T2 a2)), (3, (.val T2 a3)), (10, (.val .ptr ⟨0, 0, (0 : Int), 0, 0⟩)), (11, (.val T2 y8)), (12, (.val .ptr ⟨1, 0, (0 : Int), 0, 0⟩)), (13, (.val .ptr ⟨2, 0, (0 : Int), 0, 0⟩)), (14, (.val T2 y10.2.2)), (15, (.val T2 y12.1)), (16, (.val T2 y12.2)), (29, (.val (.slice T76) (cut a1 (0 : Int) (imin (len a1) (8 : Int))))), (30, (.val T2 (len (cut a1 (0 : Int) (imin (len a1) (8 : Int)))))), (31, (.val T2 v5))], [(0, .cells T76 (el Z76 (cut a1 (0 : Int) (imin (len a1) (8 : Int))) v5)), (1, .cells T27 y10.1), (2, .cells T27 y10.2.1)]⟩
noncomputable def tourlaw2_JointSays.c2q (a0 : (List V49)) (a1 : (List V76)) (a2 : Int) (a3 : Int) (v5 : Int) (y8 : Int) (y10 : (V27 × (V27 × Int))) (y12 : (Int × Int)) (o : Bool) : SL := (fun v => ⟨[(0, (.val (.slice T49) a0)), (1, (.val (.slice T76) a1)), (2, (.val T2 a2)), (3, (.val T2 a3)), (10, (.val .ptr ⟨0, 0, (0 : Int), 0, 0⟩)), (11, (.val T2 y8)), (12, (.val .ptr ⟨1, 0, (0 : Int), 0, 0⟩)), (13, (.val .ptr ⟨2, 0, (0 : Int), 0, 0⟩)), (15, (.val T2 y12.1)), (29, (.val (.slice T76) (cut a1 (0 : Int) (imin (len a1) (8 : Int))))), (30, (.val T2 (len (cut a1 (0 : Int) (imin (len a1) (8 : Int)))))), (31, (.val T2 v5)), (59, (.val T4 v))], [(0, .cells T76 (el Z76 (cut a1 (0 : Int) (imin (len a1) (8 : Int))) v5)), (1, .cells T27 y10.1), (2, .cells T27 y10.2.1)]⟩) o
noncomputable def tourlaw2_JointSays.c2x (o : Bool) : Ex := (fun _ => .normal) o
noncomputable def tourlaw2_JointSays.c2n (o : Bool) : Nat := (fun _ => 3) o
theorem tourlaw2_JointSays.c2_ok (k : Nat) (a0 : (List V49)) (a1 : (List V76)) (a2 : Int) (a3 : Int) (v5 : Int) (y8 : Int) (y10 : (V27 × (V27 × Int))) (y12 : (Int × Int)) : Owp (tourlaw2_JointSays.c2 k y8 y10 y12) fun o => Triple PR (tourlaw2_JointSays.cx k) (sub tourlaw2_JointSays.code [1, 1, 0, 1, 0, 0, 1, 1, 0, 0, 1, 1, 1, 1, 0, 0]) 3 (tourlaw2_JointSays.c2p a0 a1 a2 a3 v5 y8 y10 y12) (tourlaw2_JointSays.c2x o) (tourlaw2_JointSays.c2n o) (tourlaw2_JointSays.c2q a0 a1 a2 a3 v5 y8 y10 y12 o) := by
  unfold tourlaw2_JointSays.c2; exact
   Owp.bif (fun e14 =>
   Owp.some (triple_way (tourlaw2_JointSays.cok k) hmix [.dec true, .dec true, .dec true, .dec true] [] [(0, 0), (1, 1), (2, 2)] (via (finP (And.intro (And.intro (And.intro (And.intro trivial e14) e14) e14) e14) .normal [(0, 0), (1, 1), (2, 2)] (tourlaw2_JointSays.c2q a0 a1 a2 a3 v5 y8 y10 y12 true)) (by kernel_rfl)))) (fun e14 =>
   Owp.some (triple_way (tourlaw2_JointSays.cok k) hmix [.dec false, .dec false, .dec false, .dec false] [] [(0, 0), (1, 1), (2, 2)] (via (finP (And.intro (And.intro (And.intro (And.intro trivial e14) e14) e14) e14) .normal [(0, 0), (1, 1), (2, 2)] (tourlaw2_JointSays.c2q a0 a1 a2 a3 v5 y8 y10 y12 (ine y12.2 y8))) (by kernel_rfl))))
noncomputable def tourlaw2_JointSays.c3p (a0 : (List V49)) (a1 : (List V76)) (a2 : Int) (a3 : Int) (v5 : Int) (y10 : (V27 × (V27 × Int))) (y12 : (Int × Int)) : SL := ⟨[(0, (.val (.slice T49) a0)), (1, (.val (.slice T76) a1)), (2, (.val T2 a2)), (3, (.val T2 a3)), (12, (.val .ptr ⟨0, 0, (0 : Int), 0, 0⟩)), (13, (.val .ptr ⟨1, 0, (0 : Int), 0, 0⟩)), (15, (.val T2 y12.1)), (29, (.val (.slice T76) (cut a1 (0 : Int) (imin (len a1) (8 : Int))))), (30, (.val T2 (len (cut a1 (0 : Int) (imin (len a1) (8 : Int)))))), (31, (.val T2 v5))], [(0, .cells T27 y10.1), (1, .cells T27 y10.2.1)]⟩
noncomputable def tourlaw2_JointSays.c3q (a0 : (List V49)) (a1 : (List V76)) (a2 : Int) (a3 : Int) (v5 : Int) (o : Bool) : SL := (fun v => ⟨[(0, (.val (.slice T49) a0)), (1, (.val (.slice T76) a1)), (2, (.val T2 a2)), (3, (.val T2 a3)), (29, (.val (.slice T76) (cut a1 (0 : Int) (imin (len a1) (8 : Int))))), (30, (.val T2 (len (cut a1 (0 : Int) (imin (len a1) (8 : Int)))))), (31, (.val T2 v5)), (73, (.val T4 v))], []⟩) o
noncomputable def tourlaw2_JointSays.c3x (o : Bool) : Ex := (fun _ => .normal) o
noncomputable def tourlaw2_JointSays.c3n (o : Bool) : Nat := (fun _ => 0) o
theorem tourlaw2_JointSays.c3_ok (k : Nat) (a0 : (List V49)) (a1 : (List V76)) (a2 : Int) (a3 : Int) (v5 : Int) (y10 : (V27 × (V27 × Int))) (y12 : (Int × Int)) : Owp (tourlaw2_JointSays.c3 k y10 y12) fun o => Triple PR (tourlaw2_JointSays.cx k) (sub tourlaw2_JointSays.code [1, 1, 0, 1, 0, 0, 1, 1, 0, 0, 1, 1, 1, 1, 1, 0, 1, 0, 0, 0]) 2 (tourlaw2_JointSays.c3p a0 a1 a2 a3 v5 y10 y12) (tourlaw2_JointSays.c3x o) (tourlaw2_JointSays.c3n o) (tourlaw2_JointSays.c3q a0 a1 a2 a3 v5 o) := by
  unfold tourlaw2_JointSays.c3; exact
   Owp.bif (fun e19 =>
   Owp.bif (fun e20 =>
    Owp.some (triple_way (tourlaw2_JointSays.cok k) hmix [.dec false, .dec false, .dec false, .dec false, .dec false, .dec false, .dec false] [] [] (via (finP (And.intro (And.intro (And.intro (And.intro (And.intro (And.intro (And.intro trivial (congrArg not e19)) (congrArg not e19)) (congrArg not e19)) (congrArg not e19)) (congrArg not e20)) (congrArg not e20)) (congrArg not e20)) .normal [] (tourlaw2_JointSays.c3q a0 a1 a2 a3 v5 (ine y12.1 (0 : Int)))) (by kernel_rfl)))) (fun e20 =>
    Owp.some (triple_way (tourlaw2_JointSays.cok k) hmix [.dec false, .dec false, .dec false, .dec false, .dec true, .dec true, .dec true] [] [] (via (finP (And.intro (And.intro (And.intro (And.intro (And.intro (And.intro (And.intro trivial (congrArg not e19)) (congrArg not e19)) (congrArg not e19)) (congrArg not e19)) (congrArg not e20)) (congrArg not e20)) (congrArg not e20)) .normal [] (tourlaw2_JointSays.c3q a0 a1 a2 a3 v5 true)) (by kernel_rfl))))) (fun e19 =>
   Owp.some (triple_way (tourlaw2_JointSays.cok k) hmix [.dec true, .dec true, .dec true, .dec true, .dec true, .dec true, .dec true] [] [] (via (finP (And.intro (And.intro (And.intro (And.intro (And.intro (And.intro (And.intro trivial (congrArg not e19)) (congrArg not e19)) (congrArg not e19)) (congrArg not e19)) tt) tt) tt) .normal [] (tourlaw2_JointSays.c3q a0 a1 a2 a3 v5 true)) (by kernel_rfl))))
noncomputable def tourlaw2_JointSays.c4p (a0 : (List V49)) (a1 : (List V76)) (a2 : Int) (a3 : Int) (v5 : Int) (y10 : (V27 × (V27 × Int))) (y12 : (Int × Int)) (y25 : V27) (y28 : V27) (y32 : Int) : SL := ⟨[(0, (.val (.slice T49) a0)), (1, (.val (.slice T76) a1)), (2, (.val T2 a2)), (3, (.val T2 a3)), (12, (.val .ptr ⟨0, 0, (0 : Int), 0, 0⟩)), (13, (.val .ptr ⟨1, 0, (0 : Int), 0, 0⟩)), (15, (.val T2 y12.1)), (17, (.val .ptr ⟨2, 0, (0 : Int), 0, 0⟩)), (18, (.val .ptr ⟨3, 0, (0 : Int), 0, 0⟩)), (19, (.val T2 (isub .i64 y32 (el Z76 (cut a1 (0 : Int) (imin (len a1) (8 : Int))) v5).2.2.2.2.1))), (29, (.val (.slice T76) (cut a1 (0 : Int) (imin (len a1) (8 : Int))))), (30, (.val T2 (len (cut a1 (0 : Int) (imin (len a1) (8 : Int)))))), (31, (.val T2 v5))], [(0, .cells T27 y10.1), (1, .cells T27 y10.2.1), (2, .cells T27 y25), (3, .cells T27 y28)]⟩
noncomputable def tourlaw2_JointSays.c4q (a0 : (List V49)) (a1 : (List V76)) (a2 : Int) (a3 : Int) (v5 : Int) (o : Bool) : SL := (fun v => ⟨[(0, (.val (.slice T49) a0)), (1, (.val (.slice T76) a1)), (2, (.val T2 a2)), (3, (.val T2 a3)), (29, (.val (.slice T76) (cut a1 (0 : Int) (imin (len a1) (8 : Int))))), (30, (.val T2 (len (cut a1 (0 : Int) (imin (len a1) (8 : Int)))))), (31, (.val T2 v5)), (112, (.val T4 v))], []⟩) o
noncomputable def tourlaw2_JointSays.c4x (o : Bool) : Ex := (fun _ => .normal) o
noncomputable def tourlaw2_JointSays.c4n (o : Bool) : Nat := (fun _ => 0) o
theorem tourlaw2_JointSays.c4_ok (k : Nat) (a0 : (List V49)) (a1 : (List V76)) (a2 : Int) (a3 : Int) (v5 : Int) (y10 : (V27 × (V27 × Int))) (y12 : (Int × Int)) (y25 : V27) (y28 : V27) (y32 : Int) : Owp (tourlaw2_JointSays.c4 k a1 v5 y10 y12 y25 y28 y32) fun o => Triple PR (tourlaw2_JointSays.cx k) (sub tourlaw2_JointSays.code [1, 1, 0, 1, 0, 0, 1, 1, 0, 0, 1, 1, 1, 1, 1, 1, 1, 1, 0]) 4 (tourlaw2_JointSays.c4p a0 a1 a2 a3 v5 y10 y12 y25 y28 y32) (tourlaw2_JointSays.c4x o) (tourlaw2_JointSays.c4n o) (tourlaw2_JointSays.c4q a0 a1 a2 a3 v5 o) := by
  unfold tourlaw2_JointSays.c4; exact
   Owp.bif (fun e34 =>
   Owp.bif (fun e35 =>
    Owp.some (triple_way (tourlaw2_JointSays.cok k) hmix [.dec false, .dec false, .dec false, .dec false, .dec false, .dec false, .dec false, .dec false, .dec false, .dec false, .dec false] [] [] (via (finP (And.intro (And.intro (And.intro (And.intro (And.intro (And.intro (And.intro (And.intro (And.intro (And.intro (And.intro trivial (congrArg not e34)) (congrArg not e34)) (congrArg not e34)) (congrArg not e34)) (congrArg not e35)) (congrArg not e35)) (congrArg not e35)) (congrArg not e35)) (congrArg not e35)) (congrArg not e35)) (congrArg not e35)) .normal [] (tourlaw2_JointSays.c4q a0 a1 a2 a3 v5 (ine y12.1 (imax (isub .i64 y32 (el Z76 (cut a1 (0 : Int) (imin (len a1) (8 : Int))) v5).2.2.2.2.1) (ineg .i64 (isub .i64 y32 (el Z76 (cut a1 (0 : Int) (imin (len a1) (8 : Int))) v5).2.2.2.2.1)))))) (by kernel_rfl)))) (fun e35 =>
    Owp.some (triple_way (tourlaw2_JointSays.cok k) hmix [.dec false, .dec false, .dec false, .dec false, .dec true, .dec true, .dec true, .dec true, .dec true, .dec true, .dec true] [] [] (via (finP (And.intro (And.intro (And.intro (And.intro (And.intro (And.intro (And.intro (And.intro (And.intro (And.intro (And.intro trivial (congrArg not e34)) (congrArg not e34)) (congrArg not e34)) (congrArg not e34)) (congrArg not e35)) (congrArg not e35)) (congrArg not e35)) (congrArg not e35)) (congrArg not e35)) (congrArg not e35)) (congrArg not e35)) .normal [] (tourlaw2_JointSays.c4q a0 a1 a2 a3 v5 true)) (by kernel_rfl))))) (fun e34 =>
   Owp.some (triple_way (tourlaw2_JointSays.cok k) hmix [.dec true, .dec true, .dec true, .dec true, .dec true, .dec true, .dec true, .dec true, .dec true, .dec true, .dec true] [] [] (via (finP (And.intro (And.intro (And.intro (And.intro (And.intro (And.intro (And.intro (And.intro (And.intro (And.intro (And.intro trivial (congrArg not e34)) (congrArg not e34)) (congrArg not e34)) (congrArg not e34)) tt) tt) tt) tt) tt) tt) tt) .normal [] (tourlaw2_JointSays.c4q a0 a1 a2 a3 v5 true)) (by kernel_rfl))))
noncomputable def tourlaw2_JointSays.c1p (a0 : (List V49)) (a1 : (List V76)) (a2 : Int) (a3 : Int) (v5 : Int) : SL := ⟨[(0, (.val (.slice T49) a0)), (1, (.val (.slice T76) a1)), (2, (.val T2 a2)), (3, (.val T2 a3)), (29, (.val (.slice T76) (cut a1 (0 : Int) (imin (len a1) (8 : Int))))), (30, (.val T2 (len (cut a1 (0 : Int) (imin (len a1) (8 : Int)))))), (31, (.val T2 v5))], []⟩
noncomputable def tourlaw2_JointSays.c1q (a0 : (List V49)) (a1 : (List V76)) (a2 : Int) (a3 : Int) (o : Unit ⊕ Unit) : SL := (fun o => two o (fun v => ⟨[(8, (.val T4 false))], []⟩) (fun v => ⟨[(0, (.val (.slice T49) a0)), (1, (.val (.slice T76) a1)), (2, (.val T2 a2)), (3, (.val T2 a3))], []⟩)) o
noncomputable def tourlaw2_JointSays.c1x (o : Unit ⊕ Unit) : Ex := (fun o => two o (fun _ => .ret) (fun _ => (.exit 0))) o
noncomputable def tourlaw2_JointSays.c1n (o : Unit ⊕ Unit) : Nat := (fun o => two o (fun _ => 0) (fun _ => 0)) o
theorem tourlaw2_JointSays.c1_ok (k : Nat) (a0 : (List V49)) (a1 : (List V76)) (a2 : Int) (a3 : Int) : ∀ (n : Nat) (v5 : Int), Owp (tourlaw2_JointSays.c1 k a0 a1 n v5) fun o => LTriple PR (tourlaw2_JointSays.cx k) (sub tourlaw2_JointSays.code [1, 1, 0, 1, 0, 0]) 0 (tourlaw2_JointSays.c1p a0 a1 a2 a3 v5) (tourlaw2_JointSays.c1x o) (tourlaw2_JointSays.c1n o) (tourlaw2_JointSays.c1q a0 a1 a2 a3 o)
  | 0, _ => fun _ h => nomatch h
  | n + 1, v5 => Owp.of (tourlaw2_JointSays.c1.eq_2 ..) (
   Owp.bif (fun e6 =>
   Owp.req fun h7 =>
    Owp.bnd fun y8 e9 =>
    Owp.bnd fun y10 e11 =>
    Owp.bnd fun y12 e13 =>
    Owp.bnd fun o15 e16 =>
    Owp.bif (fun e17 =>
    Owp.some (loop_exit (tourlaw2_JointSays.cok k) hmix [.dec true, .dec true, .res (.one (.dp T2)) y8, .res (.more (.dp T27) (.more (.dp T27) (.one (.dp T2)))) y10, .res (.more (.dp T2) (.one (.dp T2))) y12, .cutR 9 ⟨[], [(0, 3), (1, 17), (2, 18)], (tourlaw2_JointSays.c2p a0 a1 a2 a3 v5 y8 y10 y12), 3, .normal, (tourlaw2_JointSays.c2q a0 a1 a2 a3 v5 y8 y10 y12 o15), 3⟩, .dec true] [] [] exne_ret (via (cutP (And.intro (And.intro (And.intro (And.intro (And.intro trivial e6) h7) e9) e11) e13) [(0, 3), (1, 17), (2, 18)] (tourlaw2_JointSays.c2p a0 a1 a2 a3 v5 y8 y10 y12) (((tourlaw2_JointSays.c2_ok k a0 a1 a2 a3 v5 y8 y10 y12).ap e16)) (finP (And.intro trivial e17) .ret [] (tourlaw2_JointSays.c1q a0 a1 a2 a3 (.inl ())))) (by kernel_rfl)))) (fun e17 =>
    Owp.bif (fun e18 =>
     Owp.bnd fun o21 e22 =>
      Owp.bif (fun e23 =>
      Owp.some (loop_exit (tourlaw2_JointSays.cok k) hmix [.dec true, .dec true, .res (.one (.dp T2)) y8, .res (.more (.dp T27) (.more (.dp T27) (.one (.dp T2)))) y10, .res (.more (.dp T2) (.one (.dp T2))) y12, .cutR 9 ⟨[], [(0, 3), (1, 17), (2, 18)], (tourlaw2_JointSays.c2p a0 a1 a2 a3 v5 y8 y10 y12), 3, .normal, (tourlaw2_JointSays.c2q a0 a1 a2 a3 v5 y8 y10 y12 o15), 3⟩, .dec false, .dec true, .cutR 12 ⟨[], [(0, 1), (1, 2)], (tourlaw2_JointSays.c3p a0 a1 a2 a3 v5 y10 y12), 2, .normal, (tourlaw2_JointSays.c3q a0 a1 a2 a3 v5 o21), 0⟩, .dec true] [] [] exne_ret (via (cutP (And.intro (And.intro (And.intro (And.intro (And.intro trivial e6) h7) e9) e11) e13) [(0, 3), (1, 17), (2, 18)] (tourlaw2_JointSays.c2p a0 a1 a2 a3 v5 y8 y10 y12) (((tourlaw2_JointSays.c2_ok k a0 a1 a2 a3 v5 y8 y10 y12).ap e16)) (cutP (And.intro (And.intro trivial e17) e18) [(0, 1), (1, 2)] (tourlaw2_JointSays.c3p a0 a1 a2 a3 v5 y10 y12) (((tourlaw2_JointSays.c3_ok k a0 a1 a2 a3 v5 y10 y12).ap e22)) (finP (And.intro trivial e23) .ret [] (tourlaw2_JointSays.c1q a0 a1 a2 a3 (.inl ()))))) (by kernel_rfl)))) (fun e23 =>
      fun y hy => loop_back (tourlaw2_JointSays.cok k) hmix 0 (tourlaw2_JointSays.c1p a0 a1 a2 a3 (iadd .i64 v5 (1 : Int))) [.dec true, .dec true, .res (.one (.dp T2)) y8, .res (.more (.dp T27) (.more (.dp T27) (.one (.dp T2)))) y10, .res (.more (.dp T2) (.one (.dp T2))) y12, .cutR 9 ⟨[], [(0, 3), (1, 17), (2, 18)], (tourlaw2_JointSays.c2p a0 a1 a2 a3 v5 y8 y10 y12), 3, .normal, (tourlaw2_JointSays.c2q a0 a1 a2 a3 v5 y8 y10 y12 o15), 3⟩, .dec false, .dec true, .cutR 12 ⟨[], [(0, 1), (1, 2)], (tourlaw2_JointSays.c3p a0 a1 a2 a3 v5 y10 y12), 2, .normal, (tourlaw2_JointSays.c3q a0 a1 a2 a3 v5 o21), 0⟩, .dec false] [] [] (via (cutP (And.intro (And.intro (And.intro (And.intro (And.intro trivial e6) h7) e9) e11) e13) [(0, 3), (1, 17), (2, 18)] (tourlaw2_JointSays.c2p a0 a1 a2 a3 v5 y8 y10 y12) (((tourlaw2_JointSays.c2_ok k a0 a1 a2 a3 v5 y8 y10 y12).ap e16)) (cutP (And.intro (And.intro trivial e17) e18) [(0, 1), (1, 2)] (tourlaw2_JointSays.c3p a0 a1 a2 a3 v5 y10 y12) (((tourlaw2_JointSays.c3_ok k a0 a1 a2 a3 v5 y10 y12).ap e22)) (finP (And.intro trivial e23) .normal [] (tourlaw2_JointSays.c1p a0 a1 a2 a3 (iadd .i64 v5 (1 : Int)))))) (by kernel_rfl)) ((tourlaw2_JointSays.c1_ok k a0 a1 a2 a3 n (iadd .i64 v5 (1 : Int))).ap hy))) (fun e18 =>
     Owp.req fun h24 =>
      Owp.bnd fun y25 e26 =>
      Owp.req fun h27 =>
      Owp.bnd fun y28 e29 =>
      Owp.bnd fun y30 e31 =>
      Owp.bnd fun y32 e33 =>
      Owp.bnd fun o36 e37 =>
      Owp.bif (fun e38 =>
      Owp.some (loop_exit (tourlaw2_JointSays.cok k) hmix [.dec true, .dec true, .res (.one (.dp T2)) y8, .res (.more (.dp T27) (.more (.dp T27) (.one (.dp T2)))) y10, .res (.more (.dp T2) (.one (.dp T2))) y12, .cutR 9 ⟨[], [(0, 3), (1, 17), (2, 18)], (tourlaw2_JointSays.c2p a0 a1 a2 a3 v5 y8 y10 y12), 3, .normal, (tourlaw2_JointSays.c2q a0 a1 a2 a3 v5 y8 y10 y12 o15), 3⟩, .dec false, .dec false, .res (.one (.dp T27)) y25, .res (.one (.dp T27)) y28, .res (.one (.dp T27)) y30, .res (.one (.dp T2)) y32, .cutR 16 ⟨[], [(0, 1), (1, 2), (2, 21), (3, 22)], (tourlaw2_JointSays.c4p a0 a1 a2 a3 v5 y10 y12 y25 y28 y32), 4, .normal, (tourlaw2_JointSays.c4q a0 a1 a2 a3 v5 o36), 0⟩, .dec true] [] [] exne_ret (via (cutP (And.intro (And.intro (And.intro (And.intro (And.intro trivial e6) h7) e9) e11) e13) [(0, 3), (1, 17), (2, 18)] (tourlaw2_JointSays.c2p a0 a1 a2 a3 v5 y8 y10 y12) (((tourlaw2_JointSays.c2_ok k a0 a1 a2 a3 v5 y8 y10 y12).ap e16)) (cutP (And.intro (And.intro (And.intro (And.intro (And.intro (And.intro (And.intro (And.intro trivial e17) e18) h24) e26) h27) e29) e31) e33) [(0, 1), (1, 2), (2, 21), (3, 22)] (tourlaw2_JointSays.c4p a0 a1 a2 a3 v5 y10 y12 y25 y28 y32) (((tourlaw2_JointSays.c4_ok k a0 a1 a2 a3 v5 y10 y12 y25 y28 y32).ap e37)) (finP (And.intro trivial e38) .ret [] (tourlaw2_JointSays.c1q a0 a1 a2 a3 (.inl ()))))) (by kernel_rfl)))) (fun e38 =>
      fun y hy => loop_back (tourlaw2_JointSays.cok k) hmix 0 (tourlaw2_JointSays.c1p a0 a1 a2 a3 (iadd .i64 v5 (1 : Int))) [.dec true, .dec true, .res (.one (.dp T2)) y8, .res (.more (.dp T27) (.more (.dp T27) (.one (.dp T2)))) y10, .res (.more (.dp T2) (.one (.dp T2))) y12, .cutR 9 ⟨[], [(0, 3), (1, 17), (2, 18)], (tourlaw2_JointSays.c2p a0 a1 a2 a3 v5 y8 y10 y12), 3, .normal, (tourlaw2_JointSays.c2q a0 a1 a2 a3 v5 y8 y10 y12 o15), 3⟩, .dec false, .dec false, .res (.one (.dp T27)) y25, .res (.one (.dp T27)) y28, .res (.one (.dp T27)) y30, .res (.one (.dp T2)) y32, .cutR 16 ⟨[], [(0, 1), (1, 2), (2, 21), (3, 22)], (tourlaw2_JointSays.c4p a0 a1 a2 a3 v5 y10 y12 y25 y28 y32), 4, .normal, (tourlaw2_JointSays.c4q a0 a1 a2 a3 v5 o36), 0⟩, .dec false] [] [] (via (cutP (And.intro (And.intro (And.intro (And.intro (And.intro trivial e6) h7) e9) e11) e13) [(0, 3), (1, 17), (2, 18)] (tourlaw2_JointSays.c2p a0 a1 a2 a3 v5 y8 y10 y12) (((tourlaw2_JointSays.c2_ok k a0 a1 a2 a3 v5 y8 y10 y12).ap e16)) (cutP (And.intro (And.intro (And.intro (And.intro (And.intro (And.intro (And.intro (And.intro trivial e17) e18) h24) e26) h27) e29) e31) e33) [(0, 1), (1, 2), (2, 21), (3, 22)] (tourlaw2_JointSays.c4p a0 a1 a2 a3 v5 y10 y12 y25 y28 y32) (((tourlaw2_JointSays.c4_ok k a0 a1 a2 a3 v5 y10 y12 y25 y28 y32).ap e37)) (finP (And.intro trivial e38) .normal [] (tourlaw2_JointSays.c1p a0 a1 a2 a3 (iadd .i64 v5 (1 : Int)))))) (by kernel_rfl)) ((tourlaw2_JointSays.c1_ok k a0 a1 a2 a3 n (iadd .i64 v5 (1 : Int))).ap hy))))) (fun e6 =>
   Owp.some (loop_exit (tourlaw2_JointSays.cok k) hmix [.dec false] [] [] (exne 0) (via (finP (And.intro trivial e6) (.exit 0) [] (tourlaw2_JointSays.c1q a0 a1 a2 a3 (.inr ()))) (by kernel_rfl)))))
noncomputable def tourlaw2_JointSays.c5p (a0 : (List V49)) (a1 : (List V76)) (a2 : Int) (a3 : Int) (y45 : ((List V49) × Int)) (y47 : Int) : SL := ⟨[(0, (.val (.slice T49) a0)), (1, (.val (.slice T76) a1)), (2, (.val T2 a2)), (3, (.val T2 a3)), (20, (.val .own (0 : Nat))), (21, (.val T2 y45.2)), (22, (.val T2 y47))], [(0, .row T49 y45.1 50)]⟩
noncomputable def tourlaw2_JointSays.c5q (a0 : (List V49)) (a1 : (List V76)) (a2 : Int) (a3 : Int) (y45 : ((List V49) × Int)) (y47 : Int) (o : Bool) : SL := (fun v => ⟨[(0, (.val (.slice T49) a0)), (1, (.val (.slice T76) a1)), (2, (.val T2 a2)), (3, (.val T2 a3)), (20, (.val .own (0 : Nat))), (21, (.val T2 y45.2)), (22, (.val T2 y47)), (147, (.val T4 v))], [(0, .row T49 y45.1 50)]⟩) o
noncomputable def tourlaw2_JointSays.c5x (o : Bool) : Ex := (fun _ => .normal) o
noncomputable def tourlaw2_JointSays.c5n (o : Bool) : Nat := (fun _ => 1) o
theorem tourlaw2_JointSays.c5_ok (k : Nat) (a0 : (List V49)) (a1 : (List V76)) (a2 : Int) (a3 : Int) (y45 : ((List V49) × Int)) (y47 : Int) : Owp (tourlaw2_JointSays.c5 k a2 a3 y47) fun o => Triple PR (tourlaw2_JointSays.cx k) (sub tourlaw2_JointSays.code [1, 1, 1, 1, 1, 1, 0, 0]) 1 (tourlaw2_JointSays.c5p a0 a1 a2 a3 y45 y47) (tourlaw2_JointSays.c5x o) (tourlaw2_JointSays.c5n o) (tourlaw2_JointSays.c5q a0 a1 a2 a3 y45 y47 o) := by
  unfold tourlaw2_JointSays.c5; exact
   Owp.bif (fun e52 =>
   Owp.bif (fun e53 =>
    Owp.some (triple_way (tourlaw2_JointSays.cok k) hmix [.dec true, .dec true, .dec true, .dec true, .dec true, .dec true, .dec true, .dec true, .dec true, .dec true, .dec true, .dec true, .dec true, .dec true, .dec true, .dec true, .dec true, .dec true] [] [(0, 0)] (via (finP (And.intro (And.intro (And.intro (And.intro (And.intro (And.intro (And.intro (And.intro (And.intro (And.intro (And.intro (And.intro (And.intro (And.intro (And.intro trivial e52) e52) e52) e53) e53) (And.intro e52 e53)) e52) tt) tt) (And.intro e52 tt)) e52) tt) tt) (And.intro e52 tt)) e52) .normal [(0, 0)] (tourlaw2_JointSays.c5q a0 a1 a2 a3 y45 y47 true)) (by kernel_rfl)))) (fun e53 =>
    Owp.bif (fun e54 =>
     Owp.some (triple_way (tourlaw2_JointSays.cok k) hmix [.dec true, .dec true, .dec true, .dec false, .dec false, .dec true, .dec false, .dec true, .dec true, .dec true, .dec true, .dec true, .dec true, .dec true, .dec true, .dec true, .dec true, .dec true] [] [(0, 0)] (via (finP (And.intro (And.intro (And.intro (And.intro (And.intro (And.intro (And.intro (And.intro (And.intro (And.intro (And.intro (And.intro (And.intro (And.intro (And.intro trivial e52) e52) e52) e53) e53) (And.intro e52 e53)) e52) e54) e54) (And.intro e52 e54)) e52) tt) tt) (And.intro e52 tt)) e52) .normal [(0, 0)] (tourlaw2_JointSays.c5q a0 a1 a2 a3 y45 y47 true)) (by kernel_rfl)))) (fun e54 =>
     Owp.bif (fun e55 =>
      Owp.some (triple_way (tourlaw2_JointSays.cok k) hmix [.dec true, .dec true, .dec true, .dec false, .dec false, .dec true, .dec false, .dec true, .dec false, .dec false, .dec true, .dec false, .dec true, .dec true, .dec true, .dec true, .dec true, .dec true] [] [(0, 0)] (via (finP (And.intro (And.intro (And.intro (And.intro (And.intro (And.intro (And.intro (And.intro (And.intro (And.intro (And.intro (And.intro (And.intro (And.intro (And.intro trivial e52) e52) e52) e53) e53) (And.intro e52 e53)) e52) e54) e54) (And.intro e52 e54)) e52) e55) e55) (And.intro e52 e55)) e52) .normal [(0, 0)] (tourlaw2_JointSays.c5q a0 a1 a2 a3 y45 y47 true)) (by kernel_rfl)))) (fun e55 =>
      Owp.some (triple_way (tourlaw2_JointSays.cok k) hmix [.dec true, .dec true, .dec true, .dec false, .dec false, .dec true, .dec false, .dec true, .dec false, .dec false, .dec true, .dec false, .dec true, .dec false, .dec false, .dec true, .dec false, .dec true] [] [(0, 0)] (via (finP (And.intro (And.intro (And.intro (And.intro (And.intro (And.intro (And.intro (And.intro (And.intro (And.intro (And.intro (And.intro (And.intro (And.intro (And.intro trivial e52) e52) e52) e53) e53) (And.intro e52 e53)) e52) e54) e54) (And.intro e52 e54)) e52) e55) e55) (And.intro e52 e55)) e52) .normal [(0, 0)] (tourlaw2_JointSays.c5q a0 a1 a2 a3 y45 y47 (igt a3 (32 : Int)))) (by kernel_rfl))))))) (fun e52 =>
   Owp.some (triple_way (tourlaw2_JointSays.cok k) hmix [.dec false, .dec false, .dec false, .dec true, .dec true, .dec false, .dec true, .dec false, .dec true, .dec true, .dec false, .dec true, .dec false, .dec true, .dec true, .dec false, .dec true, .dec false] [] [(0, 0)] (via (finP (And.intro (And.intro (And.intro (And.intro (And.intro (And.intro (And.intro (And.intro (And.intro trivial e52) e52) e52) e52) e52) e52) e52) e52) e52) .normal [(0, 0)] (tourlaw2_JointSays.c5q a0 a1 a2 a3 y45 y47 false)) (by kernel_rfl))))
noncomputable def tourlaw2_JointSays.c6p (a0 : (List V49)) (a1 : (List V76)) (a2 : Int) (a3 : Int) (o56 : Bool) (y45 : ((List V49) × Int)) (y47 : Int) : SL := ⟨[(0, (.val (.slice T49) a0)), (1, (.val (.slice T76) a1)), (2, (.val T2 a2)), (3, (.val T2 a3)), (20, (.val .own (0 : Nat))), (21, (.val T2 y45.2)), (22, (.val T2 y47)), (147, (.val T4 o56))], [(0, .row T49 y45.1 50)]⟩
noncomputable def tourlaw2_JointSays.c6q (a0 : (List V49)) (a1 : (List V76)) (a2 : Int) (a3 : Int) (y45 : ((List V49) × Int)) (o : Int) : SL := (fun v => ⟨[(0, (.val (.slice T49) a0)), (1, (.val (.slice T76) a1)), (2, (.val T2 a2)), (3, (.val T2 a3)), (20, (.val .own (0 : Nat))), (21, (.val T2 y45.2)), (22, (.val T2 v))], [(0, .row T49 y45.1 50)]⟩) o
noncomputable def tourlaw2_JointSays.c6x (o : Int) : Ex := (fun _ => .normal) o
noncomputable def tourlaw2_JointSays.c6n (o : Int) : Nat := (fun _ => 1) o
theorem tourlaw2_JointSays.c6_ok (k : Nat) (a0 : (List V49)) (a1 : (List V76)) (a2 : Int) (a3 : Int) (o56 : Bool) (y45 : ((List V49) × Int)) (y47 : Int) : Owp (tourlaw2_JointSays.c6 k o56 y47) fun o => Triple PR (tourlaw2_JointSays.cx k) (sub tourlaw2_JointSays.code [1, 1, 1, 1, 1, 1, 0, 1]) 1 (tourlaw2_JointSays.c6p a0 a1 a2 a3 o56 y45 y47) (tourlaw2_JointSays.c6x o) (tourlaw2_JointSays.c6n o) (tourlaw2_JointSays.c6q a0 a1 a2 a3 y45 o) := by
  unfold tourlaw2_JointSays.c6; exact
   Owp.bif (fun e58 =>
   Owp.some (triple_way (tourlaw2_JointSays.cok k) hmix [.dec true] [] [(0, 0)] (via (finP (And.intro trivial e58) .normal [(0, 0)] (tourlaw2_JointSays.c6q a0 a1 a2 a3 y45 (1 : Int))) (by kernel_rfl)))) (fun e58 =>
   Owp.some (triple_way (tourlaw2_JointSays.cok k) hmix [.dec false] [] [(0, 0)] (via (finP (And.intro trivial e58) .normal [(0, 0)] (tourlaw2_JointSays.c6q a0 a1 a2 a3 y45 y47)) (by kernel_rfl))))
noncomputable def tourlaw2_JointSays.c7p (o59 : Int) (y45 : ((List V49) × Int)) : SL := ⟨[(20, (.val .own (0 : Nat))), (21, (.val T2 y45.2)), (22, (.val T2 o59))], [(0, .row T49 y45.1 50)]⟩
noncomputable def tourlaw2_JointSays.c7q (o : Bool) : SL := (fun v => ⟨[(8, (.val T4 v))], []⟩) o
noncomputable def tourlaw2_JointSays.c7x (o : Bool) : Ex := (fun _ => .normal) o
noncomputable def tourlaw2_JointSays.c7n (o : Bool) : Nat := (fun _ => 0) o
theorem tourlaw2_JointSays.c7_ok (k : Nat) (o59 : Int) (y45 : ((List V49) × Int)) : Owp (tourlaw2_JointSays.c7 k o59 y45) fun o => Triple PR (tourlaw2_JointSays.cx k) (sub tourlaw2_JointSays.code [1, 1, 1, 1, 1, 1, 1, 0, 1, 0, 0]) 1 (tourlaw2_JointSays.c7p o59 y45) (tourlaw2_JointSays.c7x o) (tourlaw2_JointSays.c7n o) (tourlaw2_JointSays.c7q o) := by
  unfold tourlaw2_JointSays.c7; exact
   Owp.bif (fun e62 =>
   Owp.some (triple_way (tourlaw2_JointSays.cok k) hmix [.dec true, .dec true, .dec true, .dec true] [] [] (via (finP (And.intro (And.intro (And.intro (And.intro trivial e62) e62) e62) e62) .normal [] (tourlaw2_JointSays.c7q (ieq (len y45.1) (0 : Int)))) (by kernel_rfl)))) (fun e62 =>
   Owp.some (triple_way (tourlaw2_JointSays.cok k) hmix [.dec false, .dec false, .dec false, .dec false] [] [] (via (finP (And.intro (And.intro (And.intro (And.intro trivial e62) e62) e62) e62) .normal [] (tourlaw2_JointSays.c7q false)) (by kernel_rfl))))
theorem tourlaw2_JointSays.way (k : Nat) (a0 : (List V49)) (a1 : (List V76)) (a2 : Int) (a3 : Int) : Owp (tourlaw2_JointSays k a0 a1 a2 a3) fun y => ∃ answers cmds, exec PR (tourlaw2_JointSays.cx k) tourlaw2_JointSays.code 0 (entry (.pair (.slice T49) (.pair (.slice T76) T27)) (a0, a1, a2, a3, ())).st answers (Ret (tourlaw2_JointSays.cx k) Try.f9 cmds (.one (.dp T4)) y) := by
  unfold tourlaw2_JointSays; exact
   Owp.bnd fun y1 e2 =>
   Owp.bif (fun e3 =>
   Owp.req fun h4 =>
    Owp.bnd fun o39 e40 =>
    Owp.two (fun y41 e42 =>
    Owp.some (⟨[.res (.one (.dp T4)) y1, .dec false, .cut ⟨[], [], (tourlaw2_JointSays.c1p a0 a1 a2 a3 (0 : Int)), 0, .ret, (tourlaw2_JointSays.c1q a0 a1 a2 a3 (.inl ())), 0⟩], [], via (cutP (And.intro (And.intro (And.intro trivial e2) (congrArg not e3)) h4) [] (tourlaw2_JointSays.c1p a0 a1 a2 a3 (0 : Int)) (((tourlaw2_JointSays.c1_ok k a0 a1 a2 a3 k (0 : Int)).ap (e40.trans (congrArg some e42))).triple) (retP trivial (.one (.dp T4)) (false : Bool))) (by kernel_rfl)⟩)) (fun y43 e44 =>
    Owp.bnd fun y45 e46 =>
     Owp.bnd fun y47 e48 =>
     Owp.bnd fun y49 e50 =>
     Owp.bif (fun e51 =>
     Owp.some (⟨[.res (.one (.dp T4)) y1, .dec false, .cut ⟨[], [], (tourlaw2_JointSays.c1p a0 a1 a2 a3 (0 : Int)), 0, (.exit 0), (tourlaw2_JointSays.c1q a0 a1 a2 a3 (.inr ())), 0⟩, .res (.more (.ow T49 50) (.one (.dp T2))) y45, .res (.one (.dp T2)) y47, .res (.one (.dp T2)) y49, .dec true], [], via (cutP (And.intro (And.intro (And.intro trivial e2) (congrArg not e3)) h4) [] (tourlaw2_JointSays.c1p a0 a1 a2 a3 (0 : Int)) (((tourlaw2_JointSays.c1_ok k a0 a1 a2 a3 k (0 : Int)).ap (e40.trans (congrArg some e44))).triple) (retP (And.intro (And.intro (And.intro (And.intro trivial e46) e48) e50) e51) (.one (.dp T4)) (false : Bool))) (by kernel_rfl)⟩)) (fun e51 =>
     Owp.bnd fun o56 e57 =>
      Owp.bnd fun o59 e60 =>
      Owp.bif (fun e61 =>
      Owp.bnd fun o63 e64 =>
       Owp.some (⟨[.res (.one (.dp T4)) y1, .dec false, .cut ⟨[], [], (tourlaw2_JointSays.c1p a0 a1 a2 a3 (0 : Int)), 0, (.exit 0), (tourlaw2_JointSays.c1q a0 a1 a2 a3 (.inr ())), 0⟩, .res (.more (.ow T49 50) (.one (.dp T2))) y45, .res (.one (.dp T2)) y47, .res (.one (.dp T2)) y49, .dec false, .cutR 23 ⟨[], [(0, 4)], (tourlaw2_JointSays.c5p a0 a1 a2 a3 y45 y47), 1, .normal, (tourlaw2_JointSays.c5q a0 a1 a2 a3 y45 y47 o56), 1⟩, .cut ⟨[], [(0, 0)], (tourlaw2_JointSays.c6p a0 a1 a2 a3 o56 y45 y47), 1, .normal, (tourlaw2_JointSays.c6q a0 a1 a2 a3 y45 o59), 1⟩, .dec true, .cutR 26 ⟨[], [(0, 0)], (tourlaw2_JointSays.c7p o59 y45), 1, .normal, (tourlaw2_JointSays.c7q o63), 0⟩], [], via (cutP (And.intro (And.intro (And.intro trivial e2) (congrArg not e3)) h4) [] (tourlaw2_JointSays.c1p a0 a1 a2 a3 (0 : Int)) (((tourlaw2_JointSays.c1_ok k a0 a1 a2 a3 k (0 : Int)).ap (e40.trans (congrArg some e44))).triple) (cutP (And.intro (And.intro (And.intro (And.intro trivial e46) e48) e50) e51) [(0, 4)] (tourlaw2_JointSays.c5p a0 a1 a2 a3 y45 y47) (((tourlaw2_JointSays.c5_ok k a0 a1 a2 a3 y45 y47).ap e57)) (cutP trivial [(0, 0)] (tourlaw2_JointSays.c6p a0 a1 a2 a3 o56 y45 y47) (((tourlaw2_JointSays.c6_ok k a0 a1 a2 a3 o56 y45 y47).ap e60)) (cutP (And.intro trivial e61) [(0, 0)] (tourlaw2_JointSays.c7p o59 y45) (((tourlaw2_JointSays.c7_ok k o59 y45).ap e64)) (retP trivial (.one (.dp T4)) (o63 : Bool)))))) (by kernel_rfl)⟩)) (fun e61 =>
      Owp.bif (fun e65 =>
       Owp.bnd fun y66 e67 =>
        Owp.bnd fun y68 e69 =>
        Owp.some (⟨[.res (.one (.dp T4)) y1, .dec false, .cut ⟨[], [], (tourlaw2_JointSays.c1p a0 a1 a2 a3 (0 : Int)), 0, (.exit 0), (tourlaw2_JointSays.c1q a0 a1 a2 a3 (.inr ())), 0⟩, .res (.more (.ow T49 50) (.one (.dp T2))) y45, .res (.one (.dp T2)) y47, .res (.one (.dp T2)) y49, .dec false, .cutR 23 ⟨[], [(0, 4)], (tourlaw2_JointSays.c5p a0 a1 a2 a3 y45 y47), 1, .normal, (tourlaw2_JointSays.c5q a0 a1 a2 a3 y45 y47 o56), 1⟩, .cut ⟨[], [(0, 0)], (tourlaw2_JointSays.c6p a0 a1 a2 a3 o56 y45 y47), 1, .normal, (tourlaw2_JointSays.c6q a0 a1 a2 a3 y45 o59), 1⟩, .dec false, .dec true, .dec true, .dec true, .dec true, .dec true, .dec true, .res (.one (.ow T49 50)) y66, .dec true, .res (.one (.dp T4)) y68, .dec true], [], via (cutP (And.intro (And.intro (And.intro trivial e2) (congrArg not e3)) h4) [] (tourlaw2_JointSays.c1p a0 a1 a2 a3 (0 : Int)) (((tourlaw2_JointSays.c1_ok k a0 a1 a2 a3 k (0 : Int)).ap (e40.trans (congrArg some e44))).triple) (cutP (And.intro (And.intro (And.intro (And.intro trivial e46) e48) e50) e51) [(0, 4)] (tourlaw2_JointSays.c5p a0 a1 a2 a3 y45 y47) (((tourlaw2_JointSays.c5_ok k a0 a1 a2 a3 y45 y47).ap e57)) (cutP trivial [(0, 0)] (tourlaw2_JointSays.c6p a0 a1 a2 a3 o56 y45 y47) (((tourlaw2_JointSays.c6_ok k a0 a1 a2 a3 o56 y45 y47).ap e60)) (retP (And.intro (And.intro (And.intro (And.intro (And.intro (And.intro (And.intro (And.intro (And.intro trivial e61) e65) e65) e65) e65) e65) (And.intro e65 e67)) (And.intro e65 e69)) e65) (.one (.dp T4)) (y68 : Bool))))) (by kernel_rfl)⟩)) (fun e65 =>
       Owp.some (⟨[.res (.one (.dp T4)) y1, .dec false, .cut ⟨[], [], (tourlaw2_JointSays.c1p a0 a1 a2 a3 (0 : Int)), 0, (.exit 0), (tourlaw2_JointSays.c1q a0 a1 a2 a3 (.inr ())), 0⟩, .res (.more (.ow T49 50) (.one (.dp T2))) y45, .res (.one (.dp T2)) y47, .res (.one (.dp T2)) y49, .dec false, .cutR 23 ⟨[], [(0, 4)], (tourlaw2_JointSays.c5p a0 a1 a2 a3 y45 y47), 1, .normal, (tourlaw2_JointSays.c5q a0 a1 a2 a3 y45 y47 o56), 1⟩, .cut ⟨[], [(0, 0)], (tourlaw2_JointSays.c6p a0 a1 a2 a3 o56 y45 y47), 1, .normal, (tourlaw2_JointSays.c6q a0 a1 a2 a3 y45 o59), 1⟩, .dec false, .dec false, .dec false, .dec false, .dec false, .dec false, .dec false, .dec true, .dec false, .dec true, .dec false], [], via (cutP (And.intro (And.intro (And.intro trivial e2) (congrArg not e3)) h4) [] (tourlaw2_JointSays.c1p a0 a1 a2 a3 (0 : Int)) (((tourlaw2_JointSays.c1_ok k a0 a1 a2 a3 k (0 : Int)).ap (e40.trans (congrArg some e44))).triple) (cutP (And.intro (And.intro (And.intro (And.intro trivial e46) e48) e50) e51) [(0, 4)] (tourlaw2_JointSays.c5p a0 a1 a2 a3 y45 y47) (((tourlaw2_JointSays.c5_ok k a0 a1 a2 a3 y45 y47).ap e57)) (cutP trivial [(0, 0)] (tourlaw2_JointSays.c6p a0 a1 a2 a3 o56 y45 y47) (((tourlaw2_JointSays.c6_ok k a0 a1 a2 a3 o56 y45 y47).ap e60)) (retP (And.intro (And.intro (And.intro (And.intro (And.intro (And.intro (And.intro (And.intro (And.intro trivial e61) e65) e65) e65) e65) e65) e65) e65) e65) (.one (.dp T4)) (false : Bool))))) (by kernel_rfl)⟩)))))) (fun e3 =>
   Owp.some (⟨[.res (.one (.dp T4)) y1, .dec true], [], via (retP (And.intro (And.intro trivial e2) (congrArg not e3)) (.one (.dp T4)) (false : Bool)) (by kernel_rfl)⟩))
theorem tourlaw2_JointSays.ok (k : Nat) : FnOk PR 9 (tourlaw2_JointSays.sp k) :=
  fn_ok (tourlaw2_JointSays.cok k) hmix Try.func9 (code := tourlaw2_JointSays.code) (by kernel_rfl) (by kernel_rfl) (by kernel_rfl) rfl rfl (by kernel_rfl) (by kernel_rfl) (by kernel_rfl) (fun x => Nat.le_of_ble_eq_true (by kernel_rfl)) fun x y hy => (tourlaw2_JointSays.way k x.1 x.2.1 x.2.2.1 x.2.2.2.1).ap hy

end Go.Proofs.T1
