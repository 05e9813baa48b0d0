import Derived.Test.YtabllngnpponiaaG0
import Derived.Test.YtabllngnpponiaaG2
import Derived.Test.YtabllngnpponiaaG4
import Derived.Test.YtabllngnpponiaaG6
import Derived.Test.YtabllngnpponiaaG8
import Derived.Test.YtabllngnpponiaaG9
import Derived.Test.YtabllngnpponiaaG10
namespace Go.Proofs.T1
open Go Go.Sx Go.Proofs
set_option maxRecDepth 100000
set_option linter.unusedVariables false
/-! tourney/tourkeep2.joins -/
noncomputable def tourkeep2_joins.code : Code := Func.cd Try.f60
def tourkeep2_joins (k : Nat) : Option Bool :=
  bnd (tourkeep2_block k 0 0 1 true) fun y1 =>
  bnd (tourkeep2_block k 4 0 1 true) fun y3 =>
  req (inL 1 [y1, y3]) <|
  bnd (joint_Run_h k [(0, 1, (0, 0, ()), (0, 0, ()), 262144, ())] 8192 1 (st [y1, y3] 1 ((el Z49 [y1, y3] 1).1, (65536, (el Z49 [y1, y3] 1).2.1.2), (el Z49 [y1, y3] 1).2.2))) fun y6 =>
  bnd (joint_Gap k (st [y1, y3] 1 ((el Z49 [y1, y3] 1).1, (65536, (el Z49 [y1, y3] 1).2.1.2), (el Z49 [y1, y3] 1).2.2)) (0, 1, (0, 0, ()), (0, 0, ()), 65536, ())) fun y8 =>
  bif' (ieq y6.2 0)
  (bif' (ieq y8.2 0)
   (bif' (ieq y8.1 196608)
    (bif' (ieq (len y6.1) 2)
     (req (inL 0 y6.1) <|
      some (ieq (el Z49 y6.1 0).2.1.1 32768))
     (some false))
    (some false))
   (some false))
  (some false)
noncomputable def tourkeep2_joins.sp (k : Nat) : Go.Sx.Spec := ⟨.unit, (.one (.dp T4)), fun x => tourkeep2_joins k, false⟩
noncomputable def tourkeep2_joins.cx (k : Nat) : Go.Sx.Ctx := ⟨tys, [(103, tourkeep2_block.sp k), (52, joint_Gap.sp k)], eqs, 49, 0, [(56, joint_Run_h.h k)], false⟩
theorem tourkeep2_joins.cok (k : Nat) : CtxOk PR (tourkeep2_joins.cx k) := ctx_ok tysOk eqsOk (FnsOk.cons (tourkeep2_block.ok k) (FnsOk.cons (joint_Gap.ok k) FnsOk.nil)) (HsOk.cons (joint_Run_h.ok k) HsOk.nil)
theorem tourkeep2_joins.way (k : Nat) : Owp (tourkeep2_joins k) fun y => ∃ answers cmds, exec PR (tourkeep2_joins.cx k) tourkeep2_joins.code 0 (entry .unit ()).st answers (Ret (tourkeep2_joins.cx k) Try.f60 cmds (.one (.dp T4)) y) := by
  unfold tourkeep2_joins; exact
   Owp.bnd fun y1 e2 =>
   Owp.bnd fun y3 e4 =>
   Owp.req fun h5 =>
   Owp.bnd fun y6 e7 =>
   Owp.bnd fun y8 e9 =>
   Owp.bif (fun e10 =>
   Owp.bif (fun e11 =>
    Owp.bif (fun e12 =>
     Owp.bif (fun e13 =>
      Owp.req fun h14 =>
       Owp.some (⟨[.res (.one (.dp T49)) y1, .res (.one (.dp T49)) y3, .dec true, .dec false, .hres [(0, 3)] (.pair (.slice T76) (.pair T2 (.pair T2 (.pair (.slice T49) .unit)))) ([((0 : Int), (1 : Int), ((0 : Int), (0 : Int), ()), ((0 : Int), (0 : Int), ()), (262144 : Int), ())], (8192 : Int), (1 : Int), (st [y1, y3] (1 : Int) ((el Z49 [y1, y3] (1 : Int)).1, ((65536 : Int), (el Z49 [y1, y3] (1 : Int)).2.1.2), (el Z49 [y1, y3] (1 : Int)).2.2)), ()) (.pair (.slice T49) T2) y6, .res (.more (.dp T2) (.one (.dp T2))) y8, .dec true, .dec true, .dec true, .dec true, .dec true, .dec true, .dec true, .dec true, .dec true, .dec true, .dec true, .dec true, .dec true, .dec true, .dec true, .dec true, .dec true], [], via (retP (And.intro (And.intro (And.intro (And.intro (And.intro (And.intro (And.intro (And.intro (And.intro (And.intro (And.intro (And.intro (And.intro (And.intro (And.intro (And.intro (And.intro (And.intro (And.intro (And.intro (And.intro (And.intro (And.intro trivial e2) e4) h5) h5) (callHP (joint_Run_h.h k) [(0, 3)] ([((0 : Int), (1 : Int), ((0 : Int), (0 : Int), ()), ((0 : Int), (0 : Int), ()), (262144 : Int), ())], (8192 : Int), (1 : Int), (st [y1, y3] (1 : Int) ((el Z49 [y1, y3] (1 : Int)).1, ((65536 : Int), (el Z49 [y1, y3] (1 : Int)).2.1.2), (el Z49 [y1, y3] (1 : Int)).2.2)), ()) e7)) e9) e10) e10) e10) e11) e11) e11) e12) e12) e12) e12) e13) (And.intro e13 h14)) e13) e13) e13) e13) e13) (.one (.dp T4)) ((ieq (el Z49 y6.1 (0 : Int)).2.1.1 (32768 : Int)) : Bool)) (by kernel_rfl)⟩)) (fun e13 =>
      Owp.some (⟨[.res (.one (.dp T49)) y1, .res (.one (.dp T49)) y3, .dec true, .dec false, .hres [(0, 3)] (.pair (.slice T76) (.pair T2 (.pair T2 (.pair (.slice T49) .unit)))) ([((0 : Int), (1 : Int), ((0 : Int), (0 : Int), ()), ((0 : Int), (0 : Int), ()), (262144 : Int), ())], (8192 : Int), (1 : Int), (st [y1, y3] (1 : Int) ((el Z49 [y1, y3] (1 : Int)).1, ((65536 : Int), (el Z49 [y1, y3] (1 : Int)).2.1.2), (el Z49 [y1, y3] (1 : Int)).2.2)), ()) (.pair (.slice T49) T2) y6, .res (.more (.dp T2) (.one (.dp T2))) y8, .dec true, .dec true, .dec true, .dec true, .dec true, .dec true, .dec true, .dec true, .dec true, .dec true, .dec false, .dec false, .dec false, .dec false, .dec false, .dec false, .dec false], [], via (retP (And.intro (And.intro (And.intro (And.intro (And.intro (And.intro (And.intro (And.intro (And.intro (And.intro (And.intro (And.intro (And.intro (And.intro (And.intro (And.intro (And.intro (And.intro (And.intro (And.intro (And.intro (And.intro (And.intro trivial e2) e4) h5) h5) (callHP (joint_Run_h.h k) [(0, 3)] ([((0 : Int), (1 : Int), ((0 : Int), (0 : Int), ()), ((0 : Int), (0 : Int), ()), (262144 : Int), ())], (8192 : Int), (1 : Int), (st [y1, y3] (1 : Int) ((el Z49 [y1, y3] (1 : Int)).1, ((65536 : Int), (el Z49 [y1, y3] (1 : Int)).2.1.2), (el Z49 [y1, y3] (1 : Int)).2.2)), ()) e7)) e9) e10) e10) e10) e11) e11) e11) e12) e12) e12) e12) e13) e13) e13) e13) e13) e13) e13) (.one (.dp T4)) (false : Bool)) (by kernel_rfl)⟩))) (fun e12 =>
     Owp.some (⟨[.res (.one (.dp T49)) y1, .res (.one (.dp T49)) y3, .dec true, .dec false, .hres [(0, 3)] (.pair (.slice T76) (.pair T2 (.pair T2 (.pair (.slice T49) .unit)))) ([((0 : Int), (1 : Int), ((0 : Int), (0 : Int), ()), ((0 : Int), (0 : Int), ()), (262144 : Int), ())], (8192 : Int), (1 : Int), (st [y1, y3] (1 : Int) ((el Z49 [y1, y3] (1 : Int)).1, ((65536 : Int), (el Z49 [y1, y3] (1 : Int)).2.1.2), (el Z49 [y1, y3] (1 : Int)).2.2)), ()) (.pair (.slice T49) T2) y6, .res (.more (.dp T2) (.one (.dp T2))) y8, .dec true, .dec true, .dec true, .dec true, .dec true, .dec true, .dec false, .dec false, .dec false, .dec false, .dec false, .dec false, .dec false, .dec false, .dec false, .dec false, .dec false], [], via (retP (And.intro (And.intro (And.intro (And.intro (And.intro (And.intro (And.intro (And.intro (And.intro (And.intro (And.intro (And.intro (And.intro (And.intro (And.intro (And.intro (And.intro (And.intro (And.intro (And.intro (And.intro (And.intro (And.intro trivial e2) e4) h5) h5) (callHP (joint_Run_h.h k) [(0, 3)] ([((0 : Int), (1 : Int), ((0 : Int), (0 : Int), ()), ((0 : Int), (0 : Int), ()), (262144 : Int), ())], (8192 : Int), (1 : Int), (st [y1, y3] (1 : Int) ((el Z49 [y1, y3] (1 : Int)).1, ((65536 : Int), (el Z49 [y1, y3] (1 : Int)).2.1.2), (el Z49 [y1, y3] (1 : Int)).2.2)), ()) e7)) e9) e10) e10) e10) e11) e11) e11) e12) e12) e12) e12) ff) ff) ff) ff) ff) ff) ff) (.one (.dp T4)) (false : Bool)) (by kernel_rfl)⟩))) (fun e11 =>
    Owp.some (⟨[.res (.one (.dp T49)) y1, .res (.one (.dp T49)) y3, .dec true, .dec false, .hres [(0, 3)] (.pair (.slice T76) (.pair T2 (.pair T2 (.pair (.slice T49) .unit)))) ([((0 : Int), (1 : Int), ((0 : Int), (0 : Int), ()), ((0 : Int), (0 : Int), ()), (262144 : Int), ())], (8192 : Int), (1 : Int), (st [y1, y3] (1 : Int) ((el Z49 [y1, y3] (1 : Int)).1, ((65536 : Int), (el Z49 [y1, y3] (1 : Int)).2.1.2), (el Z49 [y1, y3] (1 : Int)).2.2)), ()) (.pair (.slice T49) T2) y6, .res (.more (.dp T2) (.one (.dp T2))) y8, .dec true, .dec true, .dec true, .dec false, .dec false, .dec false, .dec false, .dec false, .dec false, .dec false, .dec false, .dec false, .dec false, .dec false, .dec false, .dec false, .dec false], [], via (retP (And.intro (And.intro (And.intro (And.intro (And.intro (And.intro (And.intro (And.intro (And.intro (And.intro (And.intro (And.intro (And.intro (And.intro (And.intro (And.intro (And.intro (And.intro (And.intro (And.intro (And.intro (And.intro (And.intro trivial e2) e4) h5) h5) (callHP (joint_Run_h.h k) [(0, 3)] ([((0 : Int), (1 : Int), ((0 : Int), (0 : Int), ()), ((0 : Int), (0 : Int), ()), (262144 : Int), ())], (8192 : Int), (1 : Int), (st [y1, y3] (1 : Int) ((el Z49 [y1, y3] (1 : Int)).1, ((65536 : Int), (el Z49 [y1, y3] (1 : Int)).2.1.2), (el Z49 [y1, y3] (1 : Int)).2.2)), ()) e7)) e9) e10) e10) e10) e11) e11) e11) ff) ff) ff) ff) ff) ff) ff) ff) ff) ff) ff) (.one (.dp T4)) (false : Bool)) (by kernel_rfl)⟩))) (fun e10 =>
   Owp.some (⟨[.res (.one (.dp T49)) y1, .res (.one (.dp T49)) y3, .dec true, .dec false, .hres [(0, 3)] (.pair (.slice T76) (.pair T2 (.pair T2 (.pair (.slice T49) .unit)))) ([((0 : Int), (1 : Int), ((0 : Int), (0 : Int), ()), ((0 : Int), (0 : Int), ()), (262144 : Int), ())], (8192 : Int), (1 : Int), (st [y1, y3] (1 : Int) ((el Z49 [y1, y3] (1 : Int)).1, ((65536 : Int), (el Z49 [y1, y3] (1 : Int)).2.1.2), (el Z49 [y1, y3] (1 : Int)).2.2)), ()) (.pair (.slice T49) T2) y6, .res (.more (.dp T2) (.one (.dp T2))) y8, .dec false, .dec false, .dec false, .dec false, .dec false, .dec false, .dec false, .dec false, .dec false, .dec false, .dec false, .dec false, .dec false, .dec false, .dec false, .dec false, .dec false], [], via (retP (And.intro (And.intro (And.intro (And.intro (And.intro (And.intro (And.intro (And.intro (And.intro (And.intro (And.intro (And.intro (And.intro (And.intro (And.intro (And.intro (And.intro (And.intro (And.intro (And.intro (And.intro (And.intro (And.intro trivial e2) e4) h5) h5) (callHP (joint_Run_h.h k) [(0, 3)] ([((0 : Int), (1 : Int), ((0 : Int), (0 : Int), ()), ((0 : Int), (0 : Int), ()), (262144 : Int), ())], (8192 : Int), (1 : Int), (st [y1, y3] (1 : Int) ((el Z49 [y1, y3] (1 : Int)).1, ((65536 : Int), (el Z49 [y1, y3] (1 : Int)).2.1.2), (el Z49 [y1, y3] (1 : Int)).2.2)), ()) e7)) e9) e10) e10) e10) ff) ff) ff) ff) ff) ff) ff) ff) ff) ff) ff) ff) ff) ff) (.one (.dp T4)) (false : Bool)) (by kernel_rfl)⟩))
theorem tourkeep2_joins.ok (k : Nat) : FnOk PR 60 (tourkeep2_joins.sp k) :=
  fn_ok (tourkeep2_joins.cok k) hmix Try.func60 (code := tourkeep2_joins.code) (by kernel_rfl) (by kernel_rfl) (by kernel_rfl) rfl rfl (by kernel_rfl) (by kernel_rfl) (by kernel_rfl) (fun x => Nat.le_of_ble_eq_true (by kernel_rfl)) fun x y hy => (tourkeep2_joins.way k).ap hy

/-! tourney/tourkeep2.JointStill -/
noncomputable def tourkeep2_JointStill.code : Code := Func.cd Try.f10
def tourkeep2_JointStill.c1 (k : Nat) (y1 : V43) (y9 : ((List V49) × Int)) (y13 : ((List V49) × Int)) : Option (Bool) :=
  bif' (ine y9.2 0)
  (some true)
  (bif' (ine y13.2 0)
   (some true)
   (bnd (slices_EqualFunc k y9.1 y1.1 (fun x : (V49 × (V49 × Unit)) => tourkeep2_same k (x.1) (x.2.1))) fun y17 =>
    bif' y17
    (some (ine (len y13.1) (len y1.1)))
    (some true)))
def tourkeep2_JointStill.c3 (k : Nat) (v23 : Int) (y1 : V43) (y13 : ((List V49) × Int)) : Option (Bool) :=
  bif' (ieq (el Z49 y1.1 v23).2.2.2.2.1 0)
  (req (inL v23 y13.1) <|
   bnd (tourkeep2_same k (el Z49 y13.1 v23) (el Z49 y1.1 v23)) fun y28 =>
   bif' y28
   (bif' (Ty.eqb T27 (el Z49 y13.1 v23).1 (el Z49 y1.1 v23).1)
    (some (ine (el Z49 y13.1 v23).2.2.1 (el Z49 y1.1 v23).2.2.1))
    (some true))
   (some true))
  (req (inL v23 y13.1) <|
   bif' (Ty.eqb T27 (el Z49 y13.1 v23).1 (el Z49 y1.1 v23).1)
   (some (ine (el Z49 y13.1 v23).2.2.1 (el Z49 y1.1 v23).2.2.1))
   (some true))
def tourkeep2_JointStill.c2 (k : Nat) (y1 : V43) (y13 : ((List V49) × Int)) : Nat → Int → Option (Unit ⊕ Unit)
  | 0, _ => none
  | n + 1, v23 =>
   bif' (ilt v23 (len y1.1))
   (req (inL v23 y1.1) <|
    bnd (tourkeep2_JointStill.c3 k v23 y1 y13) fun o34 =>
    bif' o34
    (some (.inl ()))
    (tourkeep2_JointStill.c2 k y1 y13 n (iadd .i64 v23 1)))
   (some (.inr ()))
def tourkeep2_JointStill.c5 (k : Nat) (v43 : Int) (y1 : V43) (y46 : (V27 × (V27 × Int))) (y48 : (Int × Int)) (y52 : Int) : Option (Bool) :=
  bif' (ine y46.2.2 0)
  (some true)
  (bif' (ine y48.2 0)
   (some true)
   (some (ine y48.1 (imax (isub .i64 y52 (el Z76 y1.2.1 v43).2.2.2.2.1) (ineg .i64 (isub .i64 y52 (el Z76 y1.2.1 v43).2.2.2.2.1))))))
def tourkeep2_JointStill.c4 (k : Nat) (y1 : V43) : Nat → Int → Option (Unit ⊕ Unit)
  | 0, _ => none
  | n + 1, v43 =>
   bif' (ilt v43 (len y1.2.1))
   (req (inL v43 y1.2.1) <|
    bnd (joint_Ends k y1.1 (el Z76 y1.2.1 v43)) fun y46 =>
    bnd (joint_Gap k y1.1 (el Z76 y1.2.1 v43)) fun y48 =>
    bnd (vec_Sub k y46.1 y46.2.1) fun y50 =>
    bnd (vec_Len k y50) fun y52 =>
    bnd (tourkeep2_JointStill.c5 k v43 y1 y46 y48 y52) fun o56 =>
    bif' o56
    (some (.inl ()))
    (tourkeep2_JointStill.c4 k y1 n (iadd .i64 v43 1)))
   (some (.inr ()))
def tourkeep2_JointStill (k : Nat) (a0 : (List Int)) (a1 : Int) : Option Bool :=
  bnd (tourmake_Scene k a0) fun y1 =>
  bnd (tourkeep2_joins k) fun y3 =>
  bif' y3
  (bnd (joint_Check k y1.1 y1.2.1) fun y6 =>
   bif' (ine y6 0)
   (some true)
   (bnd (joint_Run k y1.1 y1.2.1 y1.2.2.2.2.1 0) fun y9 =>
    bnd (tourmake_Below k a1 33) fun y11 =>
    bnd (joint_Run k y1.1 y1.2.1 y1.2.2.2.2.1 y11) fun y13 =>
    bnd (tourkeep2_JointStill.c1 k y1 y9 y13) fun o20 =>
    bif' o20
    (some false)
    (bnd (tourkeep2_JointStill.c2 k y1 y13 k 0) fun o37 =>
     two o37 (fun y39 =>
     some false) (fun y41 =>
     bnd (tourkeep2_JointStill.c4 k y1 k 0) fun o59 =>
      two o59 (fun y61 =>
      some false) (fun y63 =>
      some true)))))
  (some false)
noncomputable def tourkeep2_JointStill.sp (k : Nat) : Go.Sx.Spec := ⟨(.pair T31 (.pair T2 .unit)), (.one (.dp T4)), fun x => tourkeep2_JointStill k x.1 x.2.1, false⟩
noncomputable def tourkeep2_JointStill.cx (k : Nat) : Go.Sx.Ctx := ⟨tys, [(22, tourmake_Scene.sp k), (60, tourkeep2_joins.sp k), (57, joint_Check.sp k), (56, joint_Run.sp k), (61, tourmake_Below.sp k), (62, slices_EqualFunc.sp k), (63, tourkeep2_same.sp k), (51, joint_Ends.sp k), (52, joint_Gap.sp k), (55, vec_Sub.sp k), (54, vec_Len.sp k)], eqs, 158, 0, [], false⟩
theorem tourkeep2_JointStill.cok (k : Nat) : CtxOk PR (tourkeep2_JointStill.cx k) := ctx_ok tysOk eqsOk (FnsOk.cons (tourmake_Scene.ok k) (FnsOk.cons (tourkeep2_joins.ok k) (FnsOk.cons (joint_Check.ok k) (FnsOk.cons (joint_Run.ok k) (FnsOk.cons (tourmake_Below.ok k) (FnsOk.cons (slices_EqualFunc.ok k) (FnsOk.cons (tourkeep2_same.ok k) (FnsOk.cons (joint_Ends.ok k) (FnsOk.cons (joint_Gap.ok k) (FnsOk.cons (vec_Sub.ok k) (FnsOk.cons (vec_Len.ok k) FnsOk.nil))))))))))) HsOk.nil
noncomputable def tourkeep2_JointStill.c1p (y1 : V43) (y9 : ((List V49) × Int)) (y13 : ((List V49) × Int)) : SL := ⟨[(5, (.val .ptr ⟨0, 0, (0 : Int), 0, 0⟩)), (6, (.val .own (1 : Nat))), (7, (.val T2 y9.2)), (8, (.val .own (2 : Nat))), (9, (.val T2 y13.2))], [(0, .cells T43 y1), (1, .row T49 y9.1 50), (2, .row T49 y13.1 50)]⟩
noncomputable def tourkeep2_JointStill.c1q (y1 : V43) (y13 : ((List V49) × Int)) (o : Bool) : SL := (fun v => ⟨[(5, (.val .ptr ⟨0, 0, (0 : Int), 0, 0⟩)), (8, (.val .own (1 : Nat))), (72, (.val T4 v))], [(0, .cells T43 y1), (1, .row T49 y13.1 50)]⟩) o
noncomputable def tourkeep2_JointStill.c1x (o : Bool) : Ex := (fun _ => .normal) o
noncomputable def tourkeep2_JointStill.c1n (o : Bool) : Nat := (fun _ => 2) o
theorem tourkeep2_JointStill.c1_ok (k : Nat) (y1 : V43) (y9 : ((List V49) × Int)) (y13 : ((List V49) × Int)) : Owp (tourkeep2_JointStill.c1 k y1 y9 y13) fun o => Triple PR (tourkeep2_JointStill.cx k) (sub tourkeep2_JointStill.code [1, 1, 1, 1, 1, 1, 0, 0]) 3 (tourkeep2_JointStill.c1p y1 y9 y13) (tourkeep2_JointStill.c1x o) (tourkeep2_JointStill.c1n o) (tourkeep2_JointStill.c1q y1 y13 o) := by
  unfold tourkeep2_JointStill.c1; exact
   Owp.bif (fun e15 =>
   Owp.some (triple_way (tourkeep2_JointStill.cok k) hmix [.dec true, .dec true, .dec true, .dec true, .dec true, .dec true, .dec true, .dec true, .dec true, .dec true, .dec true, .dec true, .dec true, .dec true, .dec true, .dec true, .dec true] [] [(0, 0), (1, 2)] (via (finP (And.intro (And.intro (And.intro (And.intro (And.intro (And.intro (And.intro (And.intro (And.intro (And.intro (And.intro (And.intro (And.intro (And.intro (And.intro (And.intro trivial e15) e15) e15) tt) tt) tt) tt) tt) tt) tt) tt) tt) tt) tt) tt) tt) .normal [(0, 0), (1, 2)] (tourkeep2_JointStill.c1q y1 y13 true)) (by kernel_rfl)))) (fun e15 =>
   Owp.bif (fun e16 =>
    Owp.some (triple_way (tourkeep2_JointStill.cok k) hmix [.dec false, .dec false, .dec false, .dec true, .dec true, .dec true, .dec true, .dec true, .dec true, .dec true, .dec true, .dec true, .dec true, .dec true, .dec true, .dec true, .dec true] [] [(0, 0), (1, 2)] (via (finP (And.intro (And.intro (And.intro (And.intro (And.intro (And.intro (And.intro (And.intro (And.intro (And.intro (And.intro (And.intro (And.intro (And.intro (And.intro (And.intro trivial e15) e15) e15) e16) e16) e16) e16) e16) e16) tt) tt) tt) tt) tt) tt) tt) .normal [(0, 0), (1, 2)] (tourkeep2_JointStill.c1q y1 y13 true)) (by kernel_rfl)))) (fun e16 =>
    Owp.bnd fun y17 e18 =>
     Owp.bif (fun e19 =>
     Owp.some (triple_way (tourkeep2_JointStill.cok k) hmix [.dec false, .dec false, .dec false, .dec false, .dec false, .dec false, .dec false, .res (.one (.dp T4)) y17, .dec false, .dec false, .dec false, .dec false, .dec false, .dec false, .dec false, .dec false, .dec false] [] [(0, 0), (1, 2)] (via (finP (And.intro (And.intro (And.intro (And.intro (And.intro (And.intro (And.intro (And.intro (And.intro (And.intro (And.intro (And.intro (And.intro (And.intro (And.intro (And.intro trivial e15) e15) e15) e16) e16) e16) (And.intro e16 e18)) e16) e16) (congrArg not e19)) (congrArg not e19)) (congrArg not e19)) (congrArg not e19)) (congrArg not e19)) (congrArg not e19)) (congrArg not e19)) .normal [(0, 0), (1, 2)] (tourkeep2_JointStill.c1q y1 y13 (ine (len y13.1) (len y1.1)))) (by kernel_rfl)))) (fun e19 =>
     Owp.some (triple_way (tourkeep2_JointStill.cok k) hmix [.dec false, .dec false, .dec false, .dec false, .dec false, .dec false, .dec false, .res (.one (.dp T4)) y17, .dec false, .dec false, .dec true, .dec true, .dec true, .dec true, .dec true, .dec true, .dec true] [] [(0, 0), (1, 2)] (via (finP (And.intro (And.intro (And.intro (And.intro (And.intro (And.intro (And.intro (And.intro (And.intro (And.intro (And.intro (And.intro (And.intro (And.intro (And.intro (And.intro trivial e15) e15) e15) e16) e16) e16) (And.intro e16 e18)) e16) e16) (congrArg not e19)) (congrArg not e19)) (congrArg not e19)) (congrArg not e19)) (congrArg not e19)) (congrArg not e19)) (congrArg not e19)) .normal [(0, 0), (1, 2)] (tourkeep2_JointStill.c1q y1 y13 true)) (by kernel_rfl))))))
noncomputable def tourkeep2_JointStill.c3p (v23 : Int) (y1 : V43) (y13 : ((List V49) × Int)) : SL := ⟨[(5, (.val .ptr ⟨0, 0, (0 : Int), 0, 0⟩)), (8, (.val .own (1 : Nat))), (10, (.val T2 v23)), (11, (.val .ptr ⟨2, 0, (0 : Int), 0, 0⟩)), (74, (.val (.slice T49) y1.1)), (75, (.val T2 (len y1.1))), (76, (.val T2 v23))], [(0, .cells T43 y1), (1, .row T49 y13.1 50), (2, .cells T49 (el Z49 y1.1 v23))]⟩
noncomputable def tourkeep2_JointStill.c3q (v23 : Int) (y1 : V43) (y13 : ((List V49) × Int)) (o : Bool) : SL := (fun v => ⟨[(5, (.val .ptr ⟨0, 0, (0 : Int), 0, 0⟩)), (8, (.val .own (1 : Nat))), (74, (.val (.slice T49) y1.1)), (75, (.val T2 (len y1.1))), (76, (.val T2 v23)), (112, (.val T4 v))], [(0, .cells T43 y1), (1, .row T49 y13.1 50)]⟩) o
noncomputable def tourkeep2_JointStill.c3x (o : Bool) : Ex := (fun _ => .normal) o
noncomputable def tourkeep2_JointStill.c3n (o : Bool) : Nat := (fun _ => 2) o
theorem tourkeep2_JointStill.c3_ok (k : Nat) (v23 : Int) (y1 : V43) (y13 : ((List V49) × Int)) : Owp (tourkeep2_JointStill.c3 k v23 y1 y13) fun o => Triple PR (tourkeep2_JointStill.cx k) (sub tourkeep2_JointStill.code [1, 1, 1, 1, 1, 1, 1, 0, 1, 0, 0, 1, 1, 0, 0, 1, 0]) 3 (tourkeep2_JointStill.c3p v23 y1 y13) (tourkeep2_JointStill.c3x o) (tourkeep2_JointStill.c3n o) (tourkeep2_JointStill.c3q v23 y1 y13 o) := by
  unfold tourkeep2_JointStill.c3; exact
   Owp.bif (fun e26 =>
   Owp.req fun h27 =>
    Owp.bnd fun y28 e29 =>
    Owp.bif (fun e30 =>
    Owp.bif (fun e31 =>
     Owp.some (triple_way (tourkeep2_JointStill.cok k) hmix [.dec true, .dec true, .dec true, .dec true, .dec true, .dec true, .res (.one (.dp T4)) y28, .dec true, .dec true, .dec false, .dec false, .dec false, .dec false, .dec false, .dec false, .dec false, .dec false, .dec false, .dec false, .dec false, .dec false, .dec false, .dec false, .dec false, .dec false, .dec false, .dec false] [] [(0, 0), (1, 1)] (via (finP (And.intro (And.intro (And.intro (And.intro (And.intro (And.intro (And.intro (And.intro (And.intro (And.intro (And.intro (And.intro (And.intro (And.intro (And.intro (And.intro (And.intro (And.intro (And.intro (And.intro (And.intro (And.intro (And.intro (And.intro (And.intro (And.intro trivial e26) e26) (And.intro e26 h27)) (And.intro e26 h27)) e26) (And.intro e26 e29)) e26) e26) (congrArg not e30)) (congrArg not e30)) (And.intro (congrArg not e30) h27)) (congrArg not e30)) (And.intro (congrArg not e30) h27)) (congrArg not e30)) (congrArg not e30)) (congrArg not e30)) (congrArg not e30)) (congrArg not e31)) (congrArg not e31)) (And.intro (congrArg not e31) h27)) (congrArg not e31)) (And.intro (congrArg not e31) h27)) (congrArg not e31)) (congrArg not e31)) (congrArg not e31)) (congrArg not e31)) .normal [(0, 0), (1, 1)] (tourkeep2_JointStill.c3q v23 y1 y13 (ine (el Z49 y13.1 v23).2.2.1 (el Z49 y1.1 v23).2.2.1))) (by kernel_rfl)))) (fun e31 =>
     Owp.some (triple_way (tourkeep2_JointStill.cok k) hmix [.dec true, .dec true, .dec true, .dec true, .dec true, .dec true, .res (.one (.dp T4)) y28, .dec true, .dec true, .dec false, .dec false, .dec false, .dec false, .dec false, .dec false, .dec false, .dec false, .dec false, .dec true, .dec true, .dec true, .dec true, .dec true, .dec true, .dec true, .dec true, .dec true] [] [(0, 0), (1, 1)] (via (finP (And.intro (And.intro (And.intro (And.intro (And.intro (And.intro (And.intro (And.intro (And.intro (And.intro (And.intro (And.intro (And.intro (And.intro (And.intro (And.intro (And.intro (And.intro (And.intro (And.intro (And.intro (And.intro (And.intro (And.intro (And.intro (And.intro trivial e26) e26) (And.intro e26 h27)) (And.intro e26 h27)) e26) (And.intro e26 e29)) e26) e26) (congrArg not e30)) (congrArg not e30)) (And.intro (congrArg not e30) h27)) (congrArg not e30)) (And.intro (congrArg not e30) h27)) (congrArg not e30)) (congrArg not e30)) (congrArg not e30)) (congrArg not e30)) (congrArg not e31)) (congrArg not e31)) (congrArg not e31)) (congrArg not e31)) (congrArg not e31)) (congrArg not e31)) (congrArg not e31)) (congrArg not e31)) (congrArg not e31)) .normal [(0, 0), (1, 1)] (tourkeep2_JointStill.c3q v23 y1 y13 true)) (by kernel_rfl))))) (fun e30 =>
    Owp.some (triple_way (tourkeep2_JointStill.cok k) hmix [.dec true, .dec true, .dec true, .dec true, .dec true, .dec true, .res (.one (.dp T4)) y28, .dec true, .dec true, .dec true, .dec true, .dec true, .dec true, .dec true, .dec true, .dec true, .dec true, .dec true, .dec true, .dec true, .dec true, .dec true, .dec true, .dec true, .dec true, .dec true, .dec true] [] [(0, 0), (1, 1)] (via (finP (And.intro (And.intro (And.intro (And.intro (And.intro (And.intro (And.intro (And.intro (And.intro (And.intro (And.intro (And.intro (And.intro (And.intro (And.intro (And.intro (And.intro (And.intro (And.intro (And.intro (And.intro (And.intro (And.intro (And.intro (And.intro (And.intro trivial e26) e26) (And.intro e26 h27)) (And.intro e26 h27)) e26) (And.intro e26 e29)) e26) e26) (congrArg not e30)) (congrArg not e30)) (congrArg not e30)) (congrArg not e30)) (congrArg not e30)) (congrArg not e30)) (congrArg not e30)) (congrArg not e30)) (congrArg not e30)) tt) tt) tt) tt) tt) tt) tt) tt) tt) .normal [(0, 0), (1, 1)] (tourkeep2_JointStill.c3q v23 y1 y13 true)) (by kernel_rfl))))) (fun e26 =>
   Owp.req fun h32 =>
    Owp.bif (fun e33 =>
    Owp.some (triple_way (tourkeep2_JointStill.cok k) hmix [.dec false, .dec false, .dec false, .dec false, .dec false, .dec false, .dec true, .dec false, .dec false, .dec false, .dec false, .dec false, .dec false, .dec false, .dec false, .dec false, .dec false, .dec false, .dec false, .dec false, .dec false, .dec false, .dec false, .dec false, .dec false, .dec false, .dec false] [] [(0, 0), (1, 1)] (via (finP (And.intro (And.intro (And.intro (And.intro (And.intro (And.intro (And.intro (And.intro (And.intro (And.intro (And.intro (And.intro (And.intro (And.intro (And.intro (And.intro (And.intro (And.intro (And.intro (And.intro (And.intro (And.intro (And.intro (And.intro (And.intro (And.intro trivial e26) e26) e26) e26) e26) e26) e26) e26) ff) ff) (And.intro ff h32)) ff) (And.intro ff h32)) ff) ff) ff) ff) (congrArg not e33)) (congrArg not e33)) (And.intro (congrArg not e33) h32)) (congrArg not e33)) (And.intro (congrArg not e33) h32)) (congrArg not e33)) (congrArg not e33)) (congrArg not e33)) (congrArg not e33)) .normal [(0, 0), (1, 1)] (tourkeep2_JointStill.c3q v23 y1 y13 (ine (el Z49 y13.1 v23).2.2.1 (el Z49 y1.1 v23).2.2.1))) (by kernel_rfl)))) (fun e33 =>
    Owp.some (triple_way (tourkeep2_JointStill.cok k) hmix [.dec false, .dec false, .dec false, .dec false, .dec false, .dec false, .dec true, .dec false, .dec false, .dec false, .dec false, .dec false, .dec false, .dec false, .dec false, .dec false, .dec false, .dec false, .dec true, .dec true, .dec true, .dec true, .dec true, .dec true, .dec true, .dec true, .dec true] [] [(0, 0), (1, 1)] (via (finP (And.intro (And.intro (And.intro (And.intro (And.intro (And.intro (And.intro (And.intro (And.intro (And.intro (And.intro (And.intro (And.intro (And.intro (And.intro (And.intro (And.intro (And.intro (And.intro (And.intro (And.intro (And.intro (And.intro (And.intro (And.intro (And.intro trivial e26) e26) e26) e26) e26) e26) e26) e26) ff) ff) (And.intro ff h32)) ff) (And.intro ff h32)) ff) ff) ff) ff) (congrArg not e33)) (congrArg not e33)) (congrArg not e33)) (congrArg not e33)) (congrArg not e33)) (congrArg not e33)) (congrArg not e33)) (congrArg not e33)) (congrArg not e33)) .normal [(0, 0), (1, 1)] (tourkeep2_JointStill.c3q v23 y1 y13 true)) (by kernel_rfl)))))
noncomputable def tourkeep2_JointStill.c2p (y1 : V43) (y13 : ((List V49) × Int)) (v23 : Int) : SL := ⟨[(5, (.val .ptr ⟨0, 0, (0 : Int), 0, 0⟩)), (8, (.val .own (1 : Nat))), (74, (.val (.slice T49) y1.1)), (75, (.val T2 (len y1.1))), (76, (.val T2 v23))], [(0, .cells T43 y1), (1, .row T49 y13.1 50)]⟩
noncomputable def tourkeep2_JointStill.c2q (y1 : V43) (o : Unit ⊕ Unit) : SL := (fun o => two o (fun v => ⟨[(4, (.val T4 false))], []⟩) (fun v => ⟨[(5, (.val .ptr ⟨0, 0, (0 : Int), 0, 0⟩))], [(0, .cells T43 y1)]⟩)) o
noncomputable def tourkeep2_JointStill.c2x (o : Unit ⊕ Unit) : Ex := (fun o => two o (fun _ => .ret) (fun _ => (.exit 0))) o
noncomputable def tourkeep2_JointStill.c2n (o : Unit ⊕ Unit) : Nat := (fun o => two o (fun _ => 0) (fun _ => 1)) o
theorem tourkeep2_JointStill.c2_ok (k : Nat) (y1 : V43) (y13 : ((List V49) × Int)) : ∀ (n : Nat) (v23 : Int), Owp (tourkeep2_JointStill.c2 k y1 y13 n v23) fun o => LTriple PR (tourkeep2_JointStill.cx k) (sub tourkeep2_JointStill.code [1, 1, 1, 1, 1, 1, 1, 0, 1, 0, 0]) 2 (tourkeep2_JointStill.c2p y1 y13 v23) (tourkeep2_JointStill.c2x o) (tourkeep2_JointStill.c2n o) (tourkeep2_JointStill.c2q y1 o)
  | 0, _ => fun _ h => nomatch h
  | n + 1, v23 => Owp.of (tourkeep2_JointStill.c2.eq_2 ..) (
   Owp.bif (fun e24 =>
   Owp.req fun h25 =>
    Owp.bnd fun o34 e35 =>
    Owp.bif (fun e36 =>
    Owp.some (loop_exit (tourkeep2_JointStill.cok k) hmix [.dec true, .cutR 13 ⟨[], [(0, 0), (1, 1), (2, 6)], (tourkeep2_JointStill.c3p v23 y1 y13), 3, .normal, (tourkeep2_JointStill.c3q v23 y1 y13 o34), 2⟩, .dec true] [] [] exne_ret (via (cutP (And.intro (And.intro trivial e24) h25) [(0, 0), (1, 1), (2, 6)] (tourkeep2_JointStill.c3p v23 y1 y13) (((tourkeep2_JointStill.c3_ok k v23 y1 y13).ap e35)) (finP (And.intro trivial e36) .ret [] (tourkeep2_JointStill.c2q y1 (.inl ())))) (by kernel_rfl)))) (fun e36 =>
    fun y hy => loop_back (tourkeep2_JointStill.cok k) hmix 2 (tourkeep2_JointStill.c2p y1 y13 (iadd .i64 v23 (1 : Int))) [.dec true, .cutR 13 ⟨[], [(0, 0), (1, 1), (2, 6)], (tourkeep2_JointStill.c3p v23 y1 y13), 3, .normal, (tourkeep2_JointStill.c3q v23 y1 y13 o34), 2⟩, .dec false] [] [(0, 0), (1, 1)] (via (cutP (And.intro (And.intro trivial e24) h25) [(0, 0), (1, 1), (2, 6)] (tourkeep2_JointStill.c3p v23 y1 y13) (((tourkeep2_JointStill.c3_ok k v23 y1 y13).ap e35)) (finP (And.intro trivial e36) .normal [(0, 0), (1, 1)] (tourkeep2_JointStill.c2p y1 y13 (iadd .i64 v23 (1 : Int))))) (by kernel_rfl)) ((tourkeep2_JointStill.c2_ok k y1 y13 n (iadd .i64 v23 (1 : Int))).ap hy))) (fun e24 =>
   Owp.some (loop_exit (tourkeep2_JointStill.cok k) hmix [.dec false] [] [(0, 0)] (exne 0) (via (finP (And.intro trivial e24) (.exit 0) [(0, 0)] (tourkeep2_JointStill.c2q y1 (.inr ()))) (by kernel_rfl)))))
noncomputable def tourkeep2_JointStill.c5p (v43 : Int) (y1 : V43) (y46 : (V27 × (V27 × Int))) (y48 : (Int × Int)) (y52 : Int) : SL := ⟨[(5, (.val .ptr ⟨0, 0, (0 : Int), 0, 0⟩)), (16, (.val T2 y46.2.2)), (17, (.val T2 y48.1)), (18, (.val T2 y48.2)), (19, (.val T2 (isub .i64 y52 (el Z76 y1.2.1 v43).2.2.2.2.1))), (115, (.val (.slice T76) y1.2.1)), (116, (.val T2 (len y1.2.1))), (117, (.val T2 v43))], [(0, .cells T43 y1)]⟩
noncomputable def tourkeep2_JointStill.c5q (v43 : Int) (y1 : V43) (o : Bool) : SL := (fun v => ⟨[(5, (.val .ptr ⟨0, 0, (0 : Int), 0, 0⟩)), (115, (.val (.slice T76) y1.2.1)), (116, (.val T2 (len y1.2.1))), (117, (.val T2 v43)), (156, (.val T4 v))], [(0, .cells T43 y1)]⟩) o
noncomputable def tourkeep2_JointStill.c5x (o : Bool) : Ex := (fun _ => .normal) o
noncomputable def tourkeep2_JointStill.c5n (o : Bool) : Nat := (fun _ => 1) o
theorem tourkeep2_JointStill.c5_ok (k : Nat) (v43 : Int) (y1 : V43) (y46 : (V27 × (V27 × Int))) (y48 : (Int × Int)) (y52 : Int) : Owp (tourkeep2_JointStill.c5 k v43 y1 y46 y48 y52) fun o => Triple PR (tourkeep2_JointStill.cx k) (sub tourkeep2_JointStill.code [1, 1, 1, 1, 1, 1, 1, 1, 0, 1, 0, 0, 1, 1, 0, 0, 1, 1, 1, 1, 0]) 1 (tourkeep2_JointStill.c5p v43 y1 y46 y48 y52) (tourkeep2_JointStill.c5x o) (tourkeep2_JointStill.c5n o) (tourkeep2_JointStill.c5q v43 y1 o) := by
  unfold tourkeep2_JointStill.c5; exact
   Owp.bif (fun e54 =>
   Owp.some (triple_way (tourkeep2_JointStill.cok k) hmix [.dec true, .dec true, .dec true, .dec true, .dec true, .dec true, .dec true, .dec true, .dec true, .dec true] [] [(0, 0)] (via (finP (And.intro (And.intro (And.intro (And.intro (And.intro (And.intro (And.intro (And.intro (And.intro (And.intro trivial e54) e54) e54) tt) tt) tt) tt) tt) tt) tt) .normal [(0, 0)] (tourkeep2_JointStill.c5q v43 y1 true)) (by kernel_rfl)))) (fun e54 =>
   Owp.bif (fun e55 =>
    Owp.some (triple_way (tourkeep2_JointStill.cok k) hmix [.dec false, .dec false, .dec false, .dec true, .dec true, .dec true, .dec true, .dec true, .dec true, .dec true] [] [(0, 0)] (via (finP (And.intro (And.intro (And.intro (And.intro (And.intro (And.intro (And.intro (And.intro (And.intro (And.intro trivial e54) e54) e54) e55) e55) e55) e55) e55) e55) e55) .normal [(0, 0)] (tourkeep2_JointStill.c5q v43 y1 true)) (by kernel_rfl)))) (fun e55 =>
    Owp.some (triple_way (tourkeep2_JointStill.cok k) hmix [.dec false, .dec false, .dec false, .dec false, .dec false, .dec false, .dec false, .dec false, .dec false, .dec false] [] [(0, 0)] (via (finP (And.intro (And.intro (And.intro (And.intro (And.intro (And.intro (And.intro (And.intro (And.intro (And.intro trivial e54) e54) e54) e55) e55) e55) e55) e55) e55) e55) .normal [(0, 0)] (tourkeep2_JointStill.c5q v43 y1 (ine y48.1 (imax (isub .i64 y52 (el Z76 y1.2.1 v43).2.2.2.2.1) (ineg .i64 (isub .i64 y52 (el Z76 y1.2.1 v43).2.2.2.2.1)))))) (by kernel_rfl)))))
noncomputable def tourkeep2_JointStill.c4p (y1 : V43) (v43 : Int) : SL := ⟨[(5, (.val .ptr ⟨0, 0, (0 : Int), 0, 0⟩)), (115, (.val (.slice T76) y1.2.1)), (116, (.val T2 (len y1.2.1))), (117, (.val T2 v43))], [(0, .cells T43 y1)]⟩
noncomputable def tourkeep2_JointStill.c4q (o : Unit ⊕ Unit) : SL := (fun o => two o (fun v => ⟨[(4, (.val T4 false))], []⟩) (fun v => ⟨[], []⟩)) o
noncomputable def tourkeep2_JointStill.c4x (o : Unit ⊕ Unit) : Ex := (fun o => two o (fun _ => .ret) (fun _ => (.exit 2))) o
noncomputable def tourkeep2_JointStill.c4n (o : Unit ⊕ Unit) : Nat := (fun o => two o (fun _ => 0) (fun _ => 0)) o
theorem tourkeep2_JointStill.c4_ok (k : Nat) (y1 : V43) : ∀ (n : Nat) (v43 : Int), Owp (tourkeep2_JointStill.c4 k y1 n v43) fun o => LTriple PR (tourkeep2_JointStill.cx k) (sub tourkeep2_JointStill.code [1, 1, 1, 1, 1, 1, 1, 1, 0, 1, 0, 0]) 1 (tourkeep2_JointStill.c4p y1 v43) (tourkeep2_JointStill.c4x o) (tourkeep2_JointStill.c4n o) (tourkeep2_JointStill.c4q o)
  | 0, _ => fun _ h => nomatch h
  | n + 1, v43 => Owp.of (tourkeep2_JointStill.c4.eq_2 ..) (
   Owp.bif (fun e44 =>
   Owp.req fun h45 =>
    Owp.bnd fun y46 e47 =>
    Owp.bnd fun y48 e49 =>
    Owp.bnd fun y50 e51 =>
    Owp.bnd fun y52 e53 =>
    Owp.bnd fun o56 e57 =>
    Owp.bif (fun e58 =>
    Owp.some (loop_exit (tourkeep2_JointStill.cok k) hmix [.dec true, .res (.more (.dp T27) (.more (.dp T27) (.one (.dp T2)))) y46, .res (.more (.dp T2) (.one (.dp T2))) y48, .res (.one (.dp T27)) y50, .res (.one (.dp T2)) y52, .cutR 22 ⟨[], [(0, 0)], (tourkeep2_JointStill.c5p v43 y1 y46 y48 y52), 1, .normal, (tourkeep2_JointStill.c5q v43 y1 o56), 1⟩, .dec true] [] [] exne_ret (via (cutP (And.intro (And.intro (And.intro (And.intro (And.intro (And.intro trivial e44) h45) e47) e49) e51) e53) [(0, 0)] (tourkeep2_JointStill.c5p v43 y1 y46 y48 y52) (((tourkeep2_JointStill.c5_ok k v43 y1 y46 y48 y52).ap e57)) (finP (And.intro trivial e58) .ret [] (tourkeep2_JointStill.c4q (.inl ())))) (by kernel_rfl)))) (fun e58 =>
    fun y hy => loop_back (tourkeep2_JointStill.cok k) hmix 1 (tourkeep2_JointStill.c4p y1 (iadd .i64 v43 (1 : Int))) [.dec true, .res (.more (.dp T27) (.more (.dp T27) (.one (.dp T2)))) y46, .res (.more (.dp T2) (.one (.dp T2))) y48, .res (.one (.dp T27)) y50, .res (.one (.dp T2)) y52, .cutR 22 ⟨[], [(0, 0)], (tourkeep2_JointStill.c5p v43 y1 y46 y48 y52), 1, .normal, (tourkeep2_JointStill.c5q v43 y1 o56), 1⟩, .dec false] [] [(0, 0)] (via (cutP (And.intro (And.intro (And.intro (And.intro (And.intro (And.intro trivial e44) h45) e47) e49) e51) e53) [(0, 0)] (tourkeep2_JointStill.c5p v43 y1 y46 y48 y52) (((tourkeep2_JointStill.c5_ok k v43 y1 y46 y48 y52).ap e57)) (finP (And.intro trivial e58) .normal [(0, 0)] (tourkeep2_JointStill.c4p y1 (iadd .i64 v43 (1 : Int))))) (by kernel_rfl)) ((tourkeep2_JointStill.c4_ok k y1 n (iadd .i64 v43 (1 : Int))).ap hy))) (fun e44 =>
   Owp.some (loop_exit (tourkeep2_JointStill.cok k) hmix [.dec false] [] [] (exne 2) (via (finP (And.intro trivial e44) (.exit 2) [] (tourkeep2_JointStill.c4q (.inr ()))) (by kernel_rfl)))))
theorem tourkeep2_JointStill.way (k : Nat) (a0 : (List Int)) (a1 : Int) : Owp (tourkeep2_JointStill k a0 a1) fun y => ∃ answers cmds, exec PR (tourkeep2_JointStill.cx k) tourkeep2_JointStill.code 0 (entry (.pair T31 (.pair T2 .unit)) (a0, a1, ())).st answers (Ret (tourkeep2_JointStill.cx k) Try.f10 cmds (.one (.dp T4)) y) := by
  unfold tourkeep2_JointStill; exact
   Owp.bnd fun y1 e2 =>
   Owp.bnd fun y3 e4 =>
   Owp.bif (fun e5 =>
   Owp.bnd fun y6 e7 =>
    Owp.bif (fun e8 =>
    Owp.some (⟨[.res (.one (.dp T43)) y1, .res (.one (.dp T4)) y3, .dec false, .res (.one (.dp T2)) y6, .dec true], [], via (retP (And.intro (And.intro (And.intro (And.intro (And.intro trivial e2) e4) (congrArg not e5)) e7) e8) (.one (.dp T4)) (true : Bool)) (by kernel_rfl)⟩)) (fun e8 =>
    Owp.bnd fun y9 e10 =>
     Owp.bnd fun y11 e12 =>
     Owp.bnd fun y13 e14 =>
     Owp.bnd fun o20 e21 =>
     Owp.bif (fun e22 =>
     Owp.some (⟨[.res (.one (.dp T43)) y1, .res (.one (.dp T4)) y3, .dec false, .res (.one (.dp T2)) y6, .dec false, .res (.more (.ow T49 50) (.one (.dp T2))) y9, .res (.one (.dp T2)) y11, .res (.more (.ow T49 50) (.one (.dp T2))) y13, .cutR 8 ⟨[], [(0, 3), (1, 19), (2, 33)], (tourkeep2_JointStill.c1p y1 y9 y13), 3, .normal, (tourkeep2_JointStill.c1q y1 y13 o20), 2⟩, .dec true], [], via (cutP (And.intro (And.intro (And.intro (And.intro (And.intro (And.intro (And.intro (And.intro trivial e2) e4) (congrArg not e5)) e7) e8) e10) e12) e14) [(0, 3), (1, 19), (2, 33)] (tourkeep2_JointStill.c1p y1 y9 y13) (((tourkeep2_JointStill.c1_ok k y1 y9 y13).ap e21)) (retP (And.intro trivial e22) (.one (.dp T4)) (false : Bool))) (by kernel_rfl)⟩)) (fun e22 =>
     Owp.bnd fun o37 e38 =>
      Owp.two (fun y39 e40 =>
      Owp.some (⟨[.res (.one (.dp T43)) y1, .res (.one (.dp T4)) y3, .dec false, .res (.one (.dp T2)) y6, .dec false, .res (.more (.ow T49 50) (.one (.dp T2))) y9, .res (.one (.dp T2)) y11, .res (.more (.ow T49 50) (.one (.dp T2))) y13, .cutR 8 ⟨[], [(0, 3), (1, 19), (2, 33)], (tourkeep2_JointStill.c1p y1 y9 y13), 3, .normal, (tourkeep2_JointStill.c1q y1 y13 o20), 2⟩, .dec false, .cut ⟨[], [(0, 0), (1, 1)], (tourkeep2_JointStill.c2p y1 y13 (0 : Int)), 2, .ret, (tourkeep2_JointStill.c2q y1 (.inl ())), 0⟩], [], via (cutP (And.intro (And.intro (And.intro (And.intro (And.intro (And.intro (And.intro (And.intro trivial e2) e4) (congrArg not e5)) e7) e8) e10) e12) e14) [(0, 3), (1, 19), (2, 33)] (tourkeep2_JointStill.c1p y1 y9 y13) (((tourkeep2_JointStill.c1_ok k y1 y9 y13).ap e21)) (cutP (And.intro trivial e22) [(0, 0), (1, 1)] (tourkeep2_JointStill.c2p y1 y13 (0 : Int)) (((tourkeep2_JointStill.c2_ok k y1 y13 k (0 : Int)).ap (e38.trans (congrArg some e40))).triple) (retP trivial (.one (.dp T4)) (false : Bool)))) (by kernel_rfl)⟩)) (fun y41 e42 =>
      Owp.bnd fun o59 e60 =>
       Owp.two (fun y61 e62 =>
       Owp.some (⟨[.res (.one (.dp T43)) y1, .res (.one (.dp T4)) y3, .dec false, .res (.one (.dp T2)) y6, .dec false, .res (.more (.ow T49 50) (.one (.dp T2))) y9, .res (.one (.dp T2)) y11, .res (.more (.ow T49 50) (.one (.dp T2))) y13, .cutR 8 ⟨[], [(0, 3), (1, 19), (2, 33)], (tourkeep2_JointStill.c1p y1 y9 y13), 3, .normal, (tourkeep2_JointStill.c1q y1 y13 o20), 2⟩, .dec false, .cut ⟨[], [(0, 0), (1, 1)], (tourkeep2_JointStill.c2p y1 y13 (0 : Int)), 2, (.exit 0), (tourkeep2_JointStill.c2q y1 (.inr ())), 1⟩, .cut ⟨[], [(0, 0)], (tourkeep2_JointStill.c4p y1 (0 : Int)), 1, .ret, (tourkeep2_JointStill.c4q (.inl ())), 0⟩], [], via (cutP (And.intro (And.intro (And.intro (And.intro (And.intro (And.intro (And.intro (And.intro trivial e2) e4) (congrArg not e5)) e7) e8) e10) e12) e14) [(0, 3), (1, 19), (2, 33)] (tourkeep2_JointStill.c1p y1 y9 y13) (((tourkeep2_JointStill.c1_ok k y1 y9 y13).ap e21)) (cutP (And.intro trivial e22) [(0, 0), (1, 1)] (tourkeep2_JointStill.c2p y1 y13 (0 : Int)) (((tourkeep2_JointStill.c2_ok k y1 y13 k (0 : Int)).ap (e38.trans (congrArg some e42))).triple) (cutP trivial [(0, 0)] (tourkeep2_JointStill.c4p y1 (0 : Int)) (((tourkeep2_JointStill.c4_ok k y1 k (0 : Int)).ap (e60.trans (congrArg some e62))).triple) (retP trivial (.one (.dp T4)) (false : Bool))))) (by kernel_rfl)⟩)) (fun y63 e64 =>
       Owp.some (⟨[.res (.one (.dp T43)) y1, .res (.one (.dp T4)) y3, .dec false, .res (.one (.dp T2)) y6, .dec false, .res (.more (.ow T49 50) (.one (.dp T2))) y9, .res (.one (.dp T2)) y11, .res (.more (.ow T49 50) (.one (.dp T2))) y13, .cutR 8 ⟨[], [(0, 3), (1, 19), (2, 33)], (tourkeep2_JointStill.c1p y1 y9 y13), 3, .normal, (tourkeep2_JointStill.c1q y1 y13 o20), 2⟩, .dec false, .cut ⟨[], [(0, 0), (1, 1)], (tourkeep2_JointStill.c2p y1 y13 (0 : Int)), 2, (.exit 0), (tourkeep2_JointStill.c2q y1 (.inr ())), 1⟩, .cut ⟨[], [(0, 0)], (tourkeep2_JointStill.c4p y1 (0 : Int)), 1, (.exit 2), (tourkeep2_JointStill.c4q (.inr ())), 0⟩], [], via (cutP (And.intro (And.intro (And.intro (And.intro (And.intro (And.intro (And.intro (And.intro trivial e2) e4) (congrArg not e5)) e7) e8) e10) e12) e14) [(0, 3), (1, 19), (2, 33)] (tourkeep2_JointStill.c1p y1 y9 y13) (((tourkeep2_JointStill.c1_ok k y1 y9 y13).ap e21)) (cutP (And.intro trivial e22) [(0, 0), (1, 1)] (tourkeep2_JointStill.c2p y1 y13 (0 : Int)) (((tourkeep2_JointStill.c2_ok k y1 y13 k (0 : Int)).ap (e38.trans (congrArg some e42))).triple) (cutP trivial [(0, 0)] (tourkeep2_JointStill.c4p y1 (0 : Int)) (((tourkeep2_JointStill.c4_ok k y1 k (0 : Int)).ap (e60.trans (congrArg some e64))).triple) (retP trivial (.one (.dp T4)) (true : Bool))))) (by kernel_rfl)⟩)))))) (fun e5 =>
   Owp.some (⟨[.res (.one (.dp T43)) y1, .res (.one (.dp T4)) y3, .dec true], [], via (retP (And.intro (And.intro (And.intro trivial e2) e4) (congrArg not e5)) (.one (.dp T4)) (false : Bool)) (by kernel_rfl)⟩))
theorem tourkeep2_JointStill.ok (k : Nat) : FnOk PR 10 (tourkeep2_JointStill.sp k) :=
  fn_ok (tourkeep2_JointStill.cok k) hmix Try.func10 (code := tourkeep2_JointStill.code) (by kernel_rfl) (by kernel_rfl) (by kernel_rfl) rfl rfl (by kernel_rfl) (by kernel_rfl) (by kernel_rfl) (fun x => Nat.le_of_ble_eq_true (by kernel_rfl)) fun x y hy => (tourkeep2_JointStill.way k x.1 x.2.1).ap hy

end Go.Proofs.T1
