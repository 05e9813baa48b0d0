import Derived.Test.YtabllngnpponiaaG0
import Derived.Test.YtabllngnpponiaaG1
import Derived.Test.YtabllngnpponiaaG2
import Derived.Test.YtabllngnpponiaaG6
import Derived.Test.YtabllngnpponiaaG7
namespace Go.Proofs.T1
open Go Go.Sx Go.Proofs
set_option maxRecDepth 100000
set_option linter.unusedVariables false
/-! tourney/keep.Check -/
noncomputable def keep_Check.code : Code := Func.cd Try.f98
def keep_Check.c1 (k : Nat) (a0 : (List V49)) : Nat → Int → Option (Int ⊕ Unit)
  | 0, _ => none
  | n + 1, v2 =>
   bif' (ilt v2 (len a0))
   (req (inL v2 a0) <|
    bnd (body_Check k (el Z49 a0 v2)) fun y5 =>
    bif' (ine y5 0)
    (some (.inl y5))
    (keep_Check.c1 k a0 n (iadd .i64 v2 1)))
   (some (.inr ()))
def keep_Check (k : Nat) (a0 : (List V49)) : Option Int :=
  bif' (igt (len a0) 64)
  (some 2)
  (bnd (keep_Check.c1 k a0 k 0) fun o8 =>
   two o8 (fun y10 =>
   some y10) (fun y12 =>
   some 0))
noncomputable def keep_Check.sp (k : Nat) : Go.Sx.Spec := ⟨(.pair (.slice T49) .unit), (.one (.dp T2)), fun x => keep_Check k x.1, false⟩
noncomputable def keep_Check.cx (k : Nat) : Go.Sx.Ctx := ⟨tys, [(151, body_Check.sp k)], eqs, 21, 0, [], false⟩
theorem keep_Check.cok (k : Nat) : CtxOk PR (keep_Check.cx k) := ctx_ok tysOk eqsOk (FnsOk.cons (body_Check.ok k) FnsOk.nil) HsOk.nil
noncomputable def keep_Check.c1p (a0 : (List V49)) (v2 : Int) : SL := ⟨[(9, (.val (.slice T49) a0)), (10, (.val T2 (len a0))), (11, (.val T2 v2))], []⟩
noncomputable def keep_Check.c1q (o : Int ⊕ Unit) : SL := (fun o => two o (fun v => ⟨[(2, (.val T2 v))], []⟩) (fun v => ⟨[], []⟩)) o
noncomputable def keep_Check.c1x (o : Int ⊕ Unit) : Ex := (fun o => two o (fun _ => .ret) (fun _ => (.exit 0))) o
noncomputable def keep_Check.c1n (o : Int ⊕ Unit) : Nat := (fun o => two o (fun _ => 0) (fun _ => 0)) o
theorem keep_Check.c1_ok (k : Nat) (a0 : (List V49)) : ∀ (n : Nat) (v2 : Int), Owp (keep_Check.c1 k a0 n v2) fun o => LTriple PR (keep_Check.cx k) (sub keep_Check.code [1, 1, 0, 1, 0, 0]) 0 (keep_Check.c1p a0 v2) (keep_Check.c1x o) (keep_Check.c1n o) (keep_Check.c1q o)
  | 0, _ => fun _ h => nomatch h
  | n + 1, v2 => Owp.of (keep_Check.c1.eq_2 ..) (
   Owp.bif (fun e3 =>
   Owp.req fun h4 =>
    Owp.bnd fun y5 e6 =>
    Owp.bif (fun e7 =>
    Owp.some (loop_exit (keep_Check.cok k) hmix [.dec true, .res (.one (.dp T2)) y5, .dec true] [] [] exne_ret (via (finP (And.intro (And.intro (And.intro (And.intro trivial e3) h4) e6) e7) .ret [] (keep_Check.c1q (.inl y5))) (by kernel_rfl)))) (fun e7 =>
    fun y hy => loop_back (keep_Check.cok k) hmix 0 (keep_Check.c1p a0 (iadd .i64 v2 (1 : Int))) [.dec true, .res (.one (.dp T2)) y5, .dec false] [] [] (via (finP (And.intro (And.intro (And.intro (And.intro trivial e3) h4) e6) e7) .normal [] (keep_Check.c1p a0 (iadd .i64 v2 (1 : Int)))) (by kernel_rfl)) ((keep_Check.c1_ok k a0 n (iadd .i64 v2 (1 : Int))).ap hy))) (fun e3 =>
   Owp.some (loop_exit (keep_Check.cok k) hmix [.dec false] [] [] (exne 0) (via (finP (And.intro trivial e3) (.exit 0) [] (keep_Check.c1q (.inr ()))) (by kernel_rfl)))))
theorem keep_Check.way (k : Nat) (a0 : (List V49)) : Owp (keep_Check k a0) fun y => ∃ answers cmds, exec PR (keep_Check.cx k) keep_Check.code 0 (entry (.pair (.slice T49) .unit) (a0, ())).st answers (Ret (keep_Check.cx k) Try.f98 cmds (.one (.dp T2)) y) := by
  unfold keep_Check; exact
   Owp.bif (fun e1 =>
   Owp.some (⟨[.dec true], [], via (retP (And.intro trivial e1) (.one (.dp T2)) ((2 : Int) : Int)) (by kernel_rfl)⟩)) (fun e1 =>
   Owp.bnd fun o8 e9 =>
    Owp.two (fun y10 e11 =>
    Owp.some (⟨[.dec false, .cut ⟨[], [], (keep_Check.c1p a0 (0 : Int)), 0, .ret, (keep_Check.c1q (.inl y10)), 0⟩], [], via (cutP (And.intro trivial e1) [] (keep_Check.c1p a0 (0 : Int)) (((keep_Check.c1_ok k a0 k (0 : Int)).ap (e9.trans (congrArg some e11))).triple) (retP trivial (.one (.dp T2)) (y10 : Int))) (by kernel_rfl)⟩)) (fun y12 e13 =>
    Owp.some (⟨[.dec false, .cut ⟨[], [], (keep_Check.c1p a0 (0 : Int)), 0, (.exit 0), (keep_Check.c1q (.inr ())), 0⟩], [], via (cutP (And.intro trivial e1) [] (keep_Check.c1p a0 (0 : Int)) (((keep_Check.c1_ok k a0 k (0 : Int)).ap (e9.trans (congrArg some e13))).triple) (retP trivial (.one (.dp T2)) ((0 : Int) : Int))) (by kernel_rfl)⟩)))
theorem keep_Check.ok (k : Nat) : FnOk PR 98 (keep_Check.sp k) :=
  fn_ok (keep_Check.cok k) hmix Try.func98 (code := keep_Check.code) (by kernel_rfl) (by kernel_rfl) (by kernel_rfl) rfl rfl (by kernel_rfl) (by kernel_rfl) (by kernel_rfl) (fun x => Nat.le_of_ble_eq_true (by kernel_rfl)) fun x y hy => (keep_Check.way k x.1).ap hy

/-! tourney/joint.Check$1 -/
noncomputable def joint_Check_1.code : Code := Func.cd Try.f130
def joint_Check_1 (k : Nat) (a0 : V27) : Option Bool :=
  bif' (ige (imin a0.1 a0.2.1) (-2097152))
  (some (ile (imax a0.1 a0.2.1) 2097152))
  (some false)
noncomputable def joint_Check_1.sp (k : Nat) : Go.Sx.Spec := ⟨(.pair T27 .unit), (.one (.dp T4)), fun x => joint_Check_1 k x.1, false⟩
noncomputable def joint_Check_1.cx (k : Nat) : Go.Sx.Ctx := ⟨tys, [], eqs, 17, 0, [], false⟩
theorem joint_Check_1.cok (k : Nat) : CtxOk PR (joint_Check_1.cx k) := ctx_ok tysOk eqsOk FnsOk.nil HsOk.nil
theorem joint_Check_1.way (k : Nat) (a0 : V27) : Owp (joint_Check_1 k a0) fun y => ∃ answers cmds, exec PR (joint_Check_1.cx k) joint_Check_1.code 0 (entry (.pair T27 .unit) (a0, ())).st answers (Ret (joint_Check_1.cx k) Try.f130 cmds (.one (.dp T4)) y) := by
  unfold joint_Check_1; exact
   Owp.bif (fun e1 =>
   Owp.some (⟨[.dec true, .dec true, .dec true, .dec true, .dec true, .dec true, .dec true], [], via (retP (And.intro (And.intro (And.intro (And.intro (And.intro (And.intro (And.intro trivial e1) e1) e1) e1) e1) e1) e1) (.one (.dp T4)) ((ile (imax a0.1 a0.2.1) (2097152 : Int)) : Bool)) (by kernel_rfl)⟩)) (fun e1 =>
   Owp.some (⟨[.dec false, .dec false, .dec false, .dec false, .dec false, .dec false, .dec false], [], via (retP (And.intro (And.intro (And.intro (And.intro (And.intro (And.intro (And.intro trivial e1) e1) e1) e1) e1) e1) e1) (.one (.dp T4)) (false : Bool)) (by kernel_rfl)⟩))
theorem joint_Check_1.ok (k : Nat) : FnOk PR 130 (joint_Check_1.sp k) :=
  fn_ok (joint_Check_1.cok k) hmix Try.func130 (code := joint_Check_1.code) (by kernel_rfl) (by kernel_rfl) (by kernel_rfl) rfl rfl (by kernel_rfl) (by kernel_rfl) (by kernel_rfl) (fun x => Nat.le_of_ble_eq_true (by kernel_rfl)) fun x y hy => (joint_Check_1.way k x.1).ap hy

/-! tourney/joint.Check -/
noncomputable def joint_Check.code : Code := Func.cd Try.f57
def joint_Check.c2 (k : Nat) (a0 : (List V49)) (a1 : (List V76)) (v5 : Int) : Option (Bool) :=
  bif' (ilt (el Z76 a1 v5).1 0)
  (some true)
  (bif' (ige (el Z76 a1 v5).2.1 (len a0))
   (some true)
   (bif' (ige (el Z76 a1 v5).1 (el Z76 a1 v5).2.1)
    (some true)
    (bnd (joint_Check_1 k (el Z76 a1 v5).2.2.1) fun y11 =>
     bif' y11
     (bnd (joint_Check_1 k (el Z76 a1 v5).2.2.2.1) fun y14 =>
      bif' y14
      (bif' (ilt (el Z76 a1 v5).2.2.2.2.1 0)
       (some true)
       (some (igt (el Z76 a1 v5).2.2.2.2.1 65536000)))
      (some true))
     (some true))))
def joint_Check.c3 (k : Nat) (a0 : (List V49)) (a1 : (List V76)) (v5 : Int) : Option (Bool) :=
  req (inL (el Z76 a1 v5).1 a0) <|
  bif' (ieq (el Z49 a0 (el Z76 a1 v5).1).2.2.2.2.1 0)
  (req (inL (el Z76 a1 v5).2.1 a0) <|
   some (ieq (el Z49 a0 (el Z76 a1 v5).2.1).2.2.2.2.1 0))
  (some false)
def joint_Check.c1 (k : Nat) (a0 : (List V49)) (a1 : (List V76)) : Nat → Int → Option (Int ⊕ Unit)
  | 0, _ => none
  | n + 1, v5 =>
   bif' (ilt v5 (len a1))
   (req (inL v5 a1) <|
    bnd (joint_Check.c2 k a0 a1 v5) fun o18 =>
    bif' o18
    (some (.inl 1))
    (bnd (joint_Check.c3 k a0 a1 v5) fun o24 =>
     bif' o24
     (some (.inl 3))
     (joint_Check.c1 k a0 a1 n (iadd .i64 v5 1))))
   (some (.inr ()))
def joint_Check (k : Nat) (a0 : (List V49)) (a1 : (List V76)) : Option Int :=
  bnd (keep_Check k a0) fun y1 =>
  bif' (ine y1 0)
  (some y1)
  (bif' (igt (len a1) 32)
   (some 2)
   (bnd (joint_Check.c1 k a0 a1 k 0) fun o27 =>
    two o27 (fun y29 =>
    some y29) (fun y31 =>
    some 0)))
noncomputable def joint_Check.sp (k : Nat) : Go.Sx.Spec := ⟨(.pair (.slice T49) (.pair (.slice T76) .unit)), (.one (.dp T2)), fun x => joint_Check k x.1 x.2.1, false⟩
noncomputable def joint_Check.cx (k : Nat) : Go.Sx.Ctx := ⟨tys, [(98, keep_Check.sp k), (130, joint_Check_1.sp k)], eqs, 81, 0, [], false⟩
theorem joint_Check.cok (k : Nat) : CtxOk PR (joint_Check.cx k) := ctx_ok tysOk eqsOk (FnsOk.cons (keep_Check.ok k) (FnsOk.cons (joint_Check_1.ok k) FnsOk.nil)) HsOk.nil
noncomputable def joint_Check.c2p (a0 : (List V49)) (a1 : (List V76)) (v5 : Int) : SL := ⟨[(0, (.val (.slice T49) a0)), (6, (.val .clo (130, []))), (8, (.val .ptr ⟨0, 0, (0 : Int), 0, 0⟩)), (17, (.val (.slice T76) a1)), (18, (.val T2 (len a1))), (19, (.val T2 v5))], [(0, .cells T76 (el Z76 a1 v5))]⟩
noncomputable def joint_Check.c2q (a0 : (List V49)) (a1 : (List V76)) (v5 : Int) (o : Bool) : SL := (fun v => ⟨[(0, (.val (.slice T49) a0)), (6, (.val .clo (130, []))), (8, (.val .ptr ⟨0, 0, (0 : Int), 0, 0⟩)), (17, (.val (.slice T76) a1)), (18, (.val T2 (len a1))), (19, (.val T2 v5)), (63, (.val T4 v))], [(0, .cells T76 (el Z76 a1 v5))]⟩) o
noncomputable def joint_Check.c2x (o : Bool) : Ex := (fun _ => .normal) o
noncomputable def joint_Check.c2n (o : Bool) : Nat := (fun _ => 1) o
theorem joint_Check.c2_ok (k : Nat) (a0 : (List V49)) (a1 : (List V76)) (v5 : Int) : Owp (joint_Check.c2 k a0 a1 v5) fun o => Triple PR (joint_Check.cx k) (sub joint_Check.code [1, 1, 1, 1, 0, 1, 0, 0, 1, 1, 0, 0, 1, 0, 0]) 1 (joint_Check.c2p a0 a1 v5) (joint_Check.c2x o) (joint_Check.c2n o) (joint_Check.c2q a0 a1 v5 o) := by
  unfold joint_Check.c2; exact
   Owp.bif (fun e8 =>
   Owp.some (triple_way (joint_Check.cok k) hmix [.dec true, .dec true, .dec true, .dec true, .dec true, .dec true, .dec true, .dec true, .dec true, .dec true, .dec true, .dec true, .dec true, .dec true, .dec true, .dec true, .dec true, .dec true, .dec true, .dec true, .dec true, .dec true, .dec true, .dec true, .dec true, .dec true, .dec true, .dec true, .dec true, .dec true, .dec true, .dec true, .dec true, .dec true] [] [(0, 0)] (via (finP (And.intro (And.intro (And.intro (And.intro (And.intro (And.intro (And.intro (And.intro (And.intro (And.intro (And.intro (And.intro (And.intro (And.intro (And.intro (And.intro (And.intro (And.intro (And.intro (And.intro (And.intro (And.intro (And.intro (And.intro (And.intro (And.intro (And.intro (And.intro (And.intro (And.intro (And.intro (And.intro trivial e8) e8) e8) e8) e8) e8) tt) tt) tt) tt) tt) tt) tt) tt) tt) tt) tt) tt) tt) tt) tt) tt) tt) tt) tt) tt) tt) tt) tt) tt) tt) tt) .normal [(0, 0)] (joint_Check.c2q a0 a1 v5 true)) (by kernel_rfl)))) (fun e8 =>
   Owp.bif (fun e9 =>
    Owp.some (triple_way (joint_Check.cok k) hmix [.dec false, .dec false, .dec false, .dec false, .dec false, .dec false, .dec true, .dec true, .dec true, .dec true, .dec true, .dec true, .dec true, .dec true, .dec true, .dec true, .dec true, .dec true, .dec true, .dec true, .dec true, .dec true, .dec true, .dec true, .dec true, .dec true, .dec true, .dec true, .dec true, .dec true, .dec true, .dec true, .dec true, .dec true] [] [(0, 0)] (via (finP (And.intro (And.intro (And.intro (And.intro (And.intro (And.intro (And.intro (And.intro (And.intro (And.intro (And.intro (And.intro (And.intro (And.intro (And.intro (And.intro (And.intro (And.intro (And.intro (And.intro (And.intro (And.intro (And.intro (And.intro (And.intro (And.intro (And.intro (And.intro (And.intro (And.intro (And.intro (And.intro trivial e8) e8) e8) e8) e8) e8) e9) e9) e9) e9) e9) e9) tt) tt) tt) tt) tt) tt) tt) tt) tt) tt) tt) tt) tt) tt) tt) tt) tt) tt) tt) tt) .normal [(0, 0)] (joint_Check.c2q a0 a1 v5 true)) (by kernel_rfl)))) (fun e9 =>
    Owp.bif (fun e10 =>
     Owp.some (triple_way (joint_Check.cok k) hmix [.dec false, .dec false, .dec false, .dec false, .dec false, .dec false, .dec false, .dec false, .dec false, .dec false, .dec false, .dec false, .dec true, .dec true, .dec true, .dec true, .dec true, .dec true, .dec true, .dec true, .dec true, .dec true, .dec true, .dec true, .dec true, .dec true, .dec true, .dec true, .dec true, .dec true, .dec true, .dec true, .dec true, .dec true] [] [(0, 0)] (via (finP (And.intro (And.intro (And.intro (And.intro (And.intro (And.intro (And.intro (And.intro (And.intro (And.intro (And.intro (And.intro (And.intro (And.intro (And.intro (And.intro (And.intro (And.intro (And.intro (And.intro (And.intro (And.intro (And.intro (And.intro (And.intro (And.intro (And.intro (And.intro (And.intro (And.intro (And.intro (And.intro trivial e8) e8) e8) e8) e8) e8) e9) e9) e9) e9) e9) e9) e10) e10) e10) e10) e10) e10) tt) tt) tt) tt) tt) tt) tt) tt) tt) tt) tt) tt) tt) tt) .normal [(0, 0)] (joint_Check.c2q a0 a1 v5 true)) (by kernel_rfl)))) (fun e10 =>
     Owp.bnd fun y11 e12 =>
      Owp.bif (fun e13 =>
      Owp.bnd fun y14 e15 =>
       Owp.bif (fun e16 =>
       Owp.bif (fun e17 =>
        Owp.some (triple_way (joint_Check.cok k) hmix [.dec false, .dec false, .dec false, .dec false, .dec false, .dec false, .dec false, .dec false, .dec false, .dec false, .dec false, .dec false, .dec false, .dec false, .dec false, .dec false, .res (.one (.dp T4)) y11, .dec false, .dec false, .dec false, .dec false, .dec false, .dec false, .res (.one (.dp T4)) y14, .dec false, .dec false, .dec false, .dec false, .dec false, .dec false, .dec true, .dec true, .dec true, .dec true] [] [(0, 0)] (via (finP (And.intro (And.intro (And.intro (And.intro (And.intro (And.intro (And.intro (And.intro (And.intro (And.intro (And.intro (And.intro (And.intro (And.intro (And.intro (And.intro (And.intro (And.intro (And.intro (And.intro (And.intro (And.intro (And.intro (And.intro (And.intro (And.intro (And.intro (And.intro (And.intro (And.intro (And.intro (And.intro trivial e8) e8) e8) e8) e8) e8) e9) e9) e9) e9) e9) e9) e10) e10) e10) (And.intro e10 e12)) e10) e10) (congrArg not e13)) (congrArg not e13)) (congrArg not e13)) (And.intro (congrArg not e13) e15)) (congrArg not e13)) (congrArg not e13)) (congrArg not e16)) (congrArg not e16)) (congrArg not e16)) (congrArg not e16)) e17) e17) e17) e17) .normal [(0, 0)] (joint_Check.c2q a0 a1 v5 true)) (by kernel_rfl)))) (fun e17 =>
        Owp.some (triple_way (joint_Check.cok k) hmix [.dec false, .dec false, .dec false, .dec false, .dec false, .dec false, .dec false, .dec false, .dec false, .dec false, .dec false, .dec false, .dec false, .dec false, .dec false, .dec false, .res (.one (.dp T4)) y11, .dec false, .dec false, .dec false, .dec false, .dec false, .dec false, .res (.one (.dp T4)) y14, .dec false, .dec false, .dec false, .dec false, .dec false, .dec false, .dec false, .dec false, .dec false, .dec false] [] [(0, 0)] (via (finP (And.intro (And.intro (And.intro (And.intro (And.intro (And.intro (And.intro (And.intro (And.intro (And.intro (And.intro (And.intro (And.intro (And.intro (And.intro (And.intro (And.intro (And.intro (And.intro (And.intro (And.intro (And.intro (And.intro (And.intro (And.intro (And.intro (And.intro (And.intro (And.intro (And.intro (And.intro (And.intro trivial e8) e8) e8) e8) e8) e8) e9) e9) e9) e9) e9) e9) e10) e10) e10) (And.intro e10 e12)) e10) e10) (congrArg not e13)) (congrArg not e13)) (congrArg not e13)) (And.intro (congrArg not e13) e15)) (congrArg not e13)) (congrArg not e13)) (congrArg not e16)) (congrArg not e16)) (congrArg not e16)) (congrArg not e16)) e17) e17) e17) e17) .normal [(0, 0)] (joint_Check.c2q a0 a1 v5 (igt (el Z76 a1 v5).2.2.2.2.1 (65536000 : Int)))) (by kernel_rfl))))) (fun e16 =>
       Owp.some (triple_way (joint_Check.cok k) hmix [.dec false, .dec false, .dec false, .dec false, .dec false, .dec false, .dec false, .dec false, .dec false, .dec false, .dec false, .dec false, .dec false, .dec false, .dec false, .dec false, .res (.one (.dp T4)) y11, .dec false, .dec false, .dec false, .dec false, .dec false, .dec false, .res (.one (.dp T4)) y14, .dec false, .dec false, .dec true, .dec true, .dec true, .dec true, .dec true, .dec true, .dec true, .dec true] [] [(0, 0)] (via (finP (And.intro (And.intro (And.intro (And.intro (And.intro (And.intro (And.intro (And.intro (And.intro (And.intro (And.intro (And.intro (And.intro (And.intro (And.intro (And.intro (And.intro (And.intro (And.intro (And.intro (And.intro (And.intro (And.intro (And.intro (And.intro (And.intro (And.intro (And.intro (And.intro (And.intro (And.intro (And.intro trivial e8) e8) e8) e8) e8) e8) e9) e9) e9) e9) e9) e9) e10) e10) e10) (And.intro e10 e12)) e10) e10) (congrArg not e13)) (congrArg not e13)) (congrArg not e13)) (And.intro (congrArg not e13) e15)) (congrArg not e13)) (congrArg not e13)) (congrArg not e16)) (congrArg not e16)) (congrArg not e16)) (congrArg not e16)) tt) tt) tt) tt) .normal [(0, 0)] (joint_Check.c2q a0 a1 v5 true)) (by kernel_rfl))))) (fun e13 =>
      Owp.some (triple_way (joint_Check.cok k) hmix [.dec false, .dec false, .dec false, .dec false, .dec false, .dec false, .dec false, .dec false, .dec false, .dec false, .dec false, .dec false, .dec false, .dec false, .dec false, .dec false, .res (.one (.dp T4)) y11, .dec false, .dec false, .dec true, .dec true, .dec true, .dec true, .dec true, .dec true, .dec true, .dec true, .dec true, .dec true, .dec true, .dec true, .dec true, .dec true, .dec true] [] [(0, 0)] (via (finP (And.intro (And.intro (And.intro (And.intro (And.intro (And.intro (And.intro (And.intro (And.intro (And.intro (And.intro (And.intro (And.intro (And.intro (And.intro (And.intro (And.intro (And.intro (And.intro (And.intro (And.intro (And.intro (And.intro (And.intro (And.intro (And.intro (And.intro (And.intro (And.intro (And.intro (And.intro (And.intro trivial e8) e8) e8) e8) e8) e8) e9) e9) e9) e9) e9) e9) e10) e10) e10) (And.intro e10 e12)) e10) e10) (congrArg not e13)) (congrArg not e13)) (congrArg not e13)) (congrArg not e13)) (congrArg not e13)) (congrArg not e13)) tt) tt) tt) tt) tt) tt) tt) tt) .normal [(0, 0)] (joint_Check.c2q a0 a1 v5 true)) (by kernel_rfl)))))))
noncomputable def joint_Check.c3p (a0 : (List V49)) (a1 : (List V76)) (v5 : Int) : SL := ⟨[(0, (.val (.slice T49) a0)), (6, (.val .clo (130, []))), (8, (.val .ptr ⟨0, 0, (0 : Int), 0, 0⟩)), (17, (.val (.slice T76) a1)), (18, (.val T2 (len a1))), (19, (.val T2 v5))], [(0, .cells T76 (el Z76 a1 v5))]⟩
noncomputable def joint_Check.c3q (a0 : (List V49)) (a1 : (List V76)) (v5 : Int) (o : Bool) : SL := (fun v => ⟨[(0, (.val (.slice T49) a0)), (6, (.val .clo (130, []))), (17, (.val (.slice T76) a1)), (18, (.val T2 (len a1))), (19, (.val T2 v5)), (79, (.val T4 v))], []⟩) o
noncomputable def joint_Check.c3x (o : Bool) : Ex := (fun _ => .normal) o
noncomputable def joint_Check.c3n (o : Bool) : Nat := (fun _ => 0) o
theorem joint_Check.c3_ok (k : Nat) (a0 : (List V49)) (a1 : (List V76)) (v5 : Int) : Owp (joint_Check.c3 k a0 a1 v5) fun o => Triple PR (joint_Check.cx k) (sub joint_Check.code [1, 1, 1, 1, 0, 1, 0, 0, 1, 1, 0, 0, 1, 1, 0]) 1 (joint_Check.c3p a0 a1 v5) (joint_Check.c3x o) (joint_Check.c3n o) (joint_Check.c3q a0 a1 v5 o) := by
  unfold joint_Check.c3; exact
   Owp.req fun h21 =>
   Owp.bif (fun e22 =>
   Owp.req fun h23 =>
    Owp.some (triple_way (joint_Check.cok k) hmix [.dec true, .dec true, .dec true, .dec true, .dec true, .dec true, .dec true, .dec true] [] [] (via (finP (And.intro (And.intro (And.intro (And.intro (And.intro (And.intro (And.intro (And.intro (And.intro trivial h21) e22) e22) e22) (And.intro e22 h23)) e22) e22) e22) e22) .normal [] (joint_Check.c3q a0 a1 v5 (ieq (el Z49 a0 (el Z76 a1 v5).2.1).2.2.2.2.1 (0 : Int)))) (by kernel_rfl)))) (fun e22 =>
   Owp.some (triple_way (joint_Check.cok k) hmix [.dec false, .dec false, .dec false, .dec false, .dec false, .dec false, .dec false, .dec false] [] [] (via (finP (And.intro (And.intro (And.intro (And.intro (And.intro (And.intro (And.intro (And.intro (And.intro trivial h21) e22) e22) e22) e22) e22) e22) e22) e22) .normal [] (joint_Check.c3q a0 a1 v5 false)) (by kernel_rfl))))
noncomputable def joint_Check.c1p (a0 : (List V49)) (a1 : (List V76)) (v5 : Int) : SL := ⟨[(0, (.val (.slice T49) a0)), (6, (.val .clo (130, []))), (17, (.val (.slice T76) a1)), (18, (.val T2 (len a1))), (19, (.val T2 v5))], []⟩
noncomputable def joint_Check.c1q (o : Int ⊕ Unit) : SL := (fun o => two o (fun v => ⟨[(4, (.val T2 v))], []⟩) (fun v => ⟨[], []⟩)) o
noncomputable def joint_Check.c1x (o : Int ⊕ Unit) : Ex := (fun o => two o (fun _ => .ret) (fun _ => (.exit 0))) o
noncomputable def joint_Check.c1n (o : Int ⊕ Unit) : Nat := (fun o => two o (fun _ => 0) (fun _ => 0)) o
theorem joint_Check.c1_ok (k : Nat) (a0 : (List V49)) (a1 : (List V76)) : ∀ (n : Nat) (v5 : Int), Owp (joint_Check.c1 k a0 a1 n v5) fun o => LTriple PR (joint_Check.cx k) (sub joint_Check.code [1, 1, 1, 1, 0, 1, 0, 0]) 0 (joint_Check.c1p a0 a1 v5) (joint_Check.c1x o) (joint_Check.c1n o) (joint_Check.c1q o)
  | 0, _ => fun _ h => nomatch h
  | n + 1, v5 => Owp.of (joint_Check.c1.eq_2 ..) (
   Owp.bif (fun e6 =>
   Owp.req fun h7 =>
    Owp.bnd fun o18 e19 =>
    Owp.bif (fun e20 =>
    Owp.some (loop_exit (joint_Check.cok k) hmix [.dec true, .cutR 10 ⟨[], [(0, 3)], (joint_Check.c2p a0 a1 v5), 1, .normal, (joint_Check.c2q a0 a1 v5 o18), 1⟩, .dec true] [] [] exne_ret (via (cutP (And.intro (And.intro trivial e6) h7) [(0, 3)] (joint_Check.c2p a0 a1 v5) (((joint_Check.c2_ok k a0 a1 v5).ap e19)) (finP (And.intro trivial e20) .ret [] (joint_Check.c1q (.inl (1 : Int))))) (by kernel_rfl)))) (fun e20 =>
    Owp.bnd fun o24 e25 =>
     Owp.bif (fun e26 =>
     Owp.some (loop_exit (joint_Check.cok k) hmix [.dec true, .cutR 10 ⟨[], [(0, 3)], (joint_Check.c2p a0 a1 v5), 1, .normal, (joint_Check.c2q a0 a1 v5 o18), 1⟩, .dec false, .cutR 12 ⟨[], [(0, 0)], (joint_Check.c3p a0 a1 v5), 1, .normal, (joint_Check.c3q a0 a1 v5 o24), 0⟩, .dec true] [] [] exne_ret (via (cutP (And.intro (And.intro trivial e6) h7) [(0, 3)] (joint_Check.c2p a0 a1 v5) (((joint_Check.c2_ok k a0 a1 v5).ap e19)) (cutP (And.intro trivial e20) [(0, 0)] (joint_Check.c3p a0 a1 v5) (((joint_Check.c3_ok k a0 a1 v5).ap e25)) (finP (And.intro trivial e26) .ret [] (joint_Check.c1q (.inl (3 : Int)))))) (by kernel_rfl)))) (fun e26 =>
     fun y hy => loop_back (joint_Check.cok k) hmix 0 (joint_Check.c1p a0 a1 (iadd .i64 v5 (1 : Int))) [.dec true, .cutR 10 ⟨[], [(0, 3)], (joint_Check.c2p a0 a1 v5), 1, .normal, (joint_Check.c2q a0 a1 v5 o18), 1⟩, .dec false, .cutR 12 ⟨[], [(0, 0)], (joint_Check.c3p a0 a1 v5), 1, .normal, (joint_Check.c3q a0 a1 v5 o24), 0⟩, .dec false] [] [] (via (cutP (And.intro (And.intro trivial e6) h7) [(0, 3)] (joint_Check.c2p a0 a1 v5) (((joint_Check.c2_ok k a0 a1 v5).ap e19)) (cutP (And.intro trivial e20) [(0, 0)] (joint_Check.c3p a0 a1 v5) (((joint_Check.c3_ok k a0 a1 v5).ap e25)) (finP (And.intro trivial e26) .normal [] (joint_Check.c1p a0 a1 (iadd .i64 v5 (1 : Int)))))) (by kernel_rfl)) ((joint_Check.c1_ok k a0 a1 n (iadd .i64 v5 (1 : Int))).ap hy)))) (fun e6 =>
   Owp.some (loop_exit (joint_Check.cok k) hmix [.dec false] [] [] (exne 0) (via (finP (And.intro trivial e6) (.exit 0) [] (joint_Check.c1q (.inr ()))) (by kernel_rfl)))))
theorem joint_Check.way (k : Nat) (a0 : (List V49)) (a1 : (List V76)) : Owp (joint_Check k a0 a1) fun y => ∃ answers cmds, exec PR (joint_Check.cx k) joint_Check.code 0 (entry (.pair (.slice T49) (.pair (.slice T76) .unit)) (a0, a1, ())).st answers (Ret (joint_Check.cx k) Try.f57 cmds (.one (.dp T2)) y) := by
  unfold joint_Check; exact
   Owp.bnd fun y1 e2 =>
   Owp.bif (fun e3 =>
   Owp.some (⟨[.res (.one (.dp T2)) y1, .dec true], [], via (retP (And.intro (And.intro trivial e2) e3) (.one (.dp T2)) (y1 : Int)) (by kernel_rfl)⟩)) (fun e3 =>
   Owp.bif (fun e4 =>
    Owp.some (⟨[.res (.one (.dp T2)) y1, .dec false, .dec true], [], via (retP (And.intro (And.intro (And.intro trivial e2) e3) e4) (.one (.dp T2)) ((2 : Int) : Int)) (by kernel_rfl)⟩)) (fun e4 =>
    Owp.bnd fun o27 e28 =>
     Owp.two (fun y29 e30 =>
     Owp.some (⟨[.res (.one (.dp T2)) y1, .dec false, .dec false, .cut ⟨[], [], (joint_Check.c1p a0 a1 (0 : Int)), 0, .ret, (joint_Check.c1q (.inl y29)), 0⟩], [], via (cutP (And.intro (And.intro (And.intro trivial e2) e3) e4) [] (joint_Check.c1p a0 a1 (0 : Int)) (((joint_Check.c1_ok k a0 a1 k (0 : Int)).ap (e28.trans (congrArg some e30))).triple) (retP trivial (.one (.dp T2)) (y29 : Int))) (by kernel_rfl)⟩)) (fun y31 e32 =>
     Owp.some (⟨[.res (.one (.dp T2)) y1, .dec false, .dec false, .cut ⟨[], [], (joint_Check.c1p a0 a1 (0 : Int)), 0, (.exit 0), (joint_Check.c1q (.inr ())), 0⟩], [], via (cutP (And.intro (And.intro (And.intro trivial e2) e3) e4) [] (joint_Check.c1p a0 a1 (0 : Int)) (((joint_Check.c1_ok k a0 a1 k (0 : Int)).ap (e28.trans (congrArg some e32))).triple) (retP trivial (.one (.dp T2)) ((0 : Int) : Int))) (by kernel_rfl)⟩))))
theorem joint_Check.ok (k : Nat) : FnOk PR 57 (joint_Check.sp k) :=
  fn_ok (joint_Check.cok k) hmix Try.func57 (code := joint_Check.code) (by kernel_rfl) (by kernel_rfl) (by kernel_rfl) rfl rfl (by kernel_rfl) (by kernel_rfl) (by kernel_rfl) (fun x => Nat.le_of_ble_eq_true (by kernel_rfl)) fun x y hy => (joint_Check.way k x.1 x.2.1).ap hy

/-! tourney/joint.Ends -/
noncomputable def joint_Ends.code : Code := Func.cd Try.f51
def joint_Ends (k : Nat) (a0 : (List V49)) (a1 : V76) : Option (V27 × (V27 × Int)) :=
  bnd (joint_Check k a0 [a1]) fun y1 =>
  bif' (ine y1 0)
  (some ((0, 0, ()), (0, 0, ()), y1))
  (req (inL a1.1 a0) <|
   req (inL a1.2.1 a0) <|
   bnd (vec_Turn k a1.2.2.1 (el Z49 a0 a1.1).2.2.1) fun y6 =>
   bnd (vec_Add k (el Z49 a0 a1.1).1 y6) fun y8 =>
   bnd (vec_Turn k a1.2.2.2.1 (el Z49 a0 a1.2.1).2.2.1) fun y10 =>
   bnd (vec_Add k (el Z49 a0 a1.2.1).1 y10) fun y12 =>
   some (y8, y12, 0))
noncomputable def joint_Ends.sp (k : Nat) : Go.Sx.Spec := ⟨(.pair (.slice T49) (.pair T76 .unit)), (.more (.dp T27) (.more (.dp T27) (.one (.dp T2)))), fun x => joint_Ends k x.1 x.2.1, false⟩
noncomputable def joint_Ends.cx (k : Nat) : Go.Sx.Ctx := ⟨tys, [(57, joint_Check.sp k), (124, vec_Turn.sp k), (26, vec_Add.sp k)], eqs, 45, 0, [], false⟩
theorem joint_Ends.cok (k : Nat) : CtxOk PR (joint_Ends.cx k) := ctx_ok tysOk eqsOk (FnsOk.cons (joint_Check.ok k) (FnsOk.cons (vec_Turn.ok k) (FnsOk.cons (vec_Add.ok k) FnsOk.nil))) HsOk.nil
theorem joint_Ends.way (k : Nat) (a0 : (List V49)) (a1 : V76) : Owp (joint_Ends k a0 a1) fun y => ∃ answers cmds, exec PR (joint_Ends.cx k) joint_Ends.code 0 (entry (.pair (.slice T49) (.pair T76 .unit)) (a0, a1, ())).st answers (Ret (joint_Ends.cx k) Try.f51 cmds (.more (.dp T27) (.more (.dp T27) (.one (.dp T2)))) y) := by
  unfold joint_Ends; exact
   Owp.bnd fun y1 e2 =>
   Owp.bif (fun e3 =>
   Owp.some (⟨[.dec true, .res (.one (.dp T2)) y1, .dec true], [], via (retP (And.intro (And.intro trivial e2) e3) (.more (.dp T27) (.more (.dp T27) (.one (.dp T2)))) ((((0 : Int), (0 : Int), ()), ((0 : Int), (0 : Int), ()), y1) : (V27 × (V27 × Int)))) (by kernel_rfl)⟩)) (fun e3 =>
   Owp.req fun h4 =>
    Owp.req fun h5 =>
    Owp.bnd fun y6 e7 =>
    Owp.bnd fun y8 e9 =>
    Owp.bnd fun y10 e11 =>
    Owp.bnd fun y12 e13 =>
    Owp.some (⟨[.dec true, .res (.one (.dp T2)) y1, .dec false, .res (.one (.dp T27)) y6, .res (.one (.dp T27)) y8, .res (.one (.dp T27)) y10, .res (.one (.dp T27)) y12], [], via (retP (And.intro (And.intro (And.intro (And.intro (And.intro (And.intro (And.intro (And.intro trivial e2) e3) h4) h5) e7) e9) e11) e13) (.more (.dp T27) (.more (.dp T27) (.one (.dp T2)))) ((y8, y12, (0 : Int)) : (V27 × (V27 × Int)))) (by kernel_rfl)⟩))
theorem joint_Ends.ok (k : Nat) : FnOk PR 51 (joint_Ends.sp k) :=
  fn_ok (joint_Ends.cok k) hmix Try.func51 (code := joint_Ends.code) (by kernel_rfl) (by kernel_rfl) (by kernel_rfl) rfl rfl (by kernel_rfl) (by kernel_rfl) (by kernel_rfl) (fun x => Nat.le_of_ble_eq_true (by kernel_rfl)) fun x y hy => (joint_Ends.way k x.1 x.2.1).ap hy

/-! tourney/joint.over -/
noncomputable def joint_over.code : Code := Func.cd Try.f176
def joint_over (k : Nat) (a0 : Int) (a1 : Int) : Option Int :=
  bnd (fix_Div k a0 a1) fun y1 =>
  some y1.1
noncomputable def joint_over.sp (k : Nat) : Go.Sx.Spec := ⟨T27, (.one (.dp T2)), fun x => joint_over k x.1 x.2.1, false⟩
noncomputable def joint_over.cx (k : Nat) : Go.Sx.Ctx := ⟨tys, [(218, fix_Div.sp k)], eqs, 14, 0, [], false⟩
theorem joint_over.cok (k : Nat) : CtxOk PR (joint_over.cx k) := ctx_ok tysOk eqsOk (FnsOk.cons (fix_Div.ok k) FnsOk.nil) HsOk.nil
theorem joint_over.way (k : Nat) (a0 : Int) (a1 : Int) : Owp (joint_over k a0 a1) fun y => ∃ answers cmds, exec PR (joint_over.cx k) joint_over.code 0 (entry T27 (a0, a1, ())).st answers (Ret (joint_over.cx k) Try.f176 cmds (.one (.dp T2)) y) := by
  unfold joint_over; exact
   Owp.bnd fun y1 e2 =>
   Owp.some (⟨[.res (.more (.dp T2) (.one (.dp T2))) y1], [], via (retP (And.intro trivial e2) (.one (.dp T2)) (y1.1 : Int)) (by kernel_rfl)⟩)
theorem joint_over.ok (k : Nat) : FnOk PR 176 (joint_over.sp k) :=
  fn_ok (joint_over.cok k) hmix Try.func176 (code := joint_over.code) (by kernel_rfl) (by kernel_rfl) (by kernel_rfl) rfl rfl (by kernel_rfl) (by kernel_rfl) (by kernel_rfl) (fun x => Nat.le_of_ble_eq_true (by kernel_rfl)) fun x y hy => (joint_over.way k x.1 x.2.1).ap hy

/-! tourney/joint.pull -/
noncomputable def joint_pull.code : Code := Func.cd Try.f128
def joint_pull (k : Nat) (a1 : V76) (a2 : V27) (a3 : V27) (a4 : V27) (a5 : Int) (a6 : Int) (r0 : (List V49)) : Option (List V49) :=
  req (inL a1.1 r0) <|
  req (inL a1.2.1 r0) <|
  bnd (body_Ease k (el Z49 r0 a1.1) a2 a4) fun y3 =>
  bnd (body_Ease k (el Z49 r0 a1.2.1) a3 a4) fun y5 =>
  bnd (fix_Add k y3 y5) fun y7 =>
  bif' (ieq y7 0)
  (some r0)
  (bnd (body_At k (el Z49 r0 a1.2.1) a3) fun y10 =>
   bnd (body_At k (el Z49 r0 a1.1) a2) fun y12 =>
   bnd (vec_Sub k y10 y12) fun y14 =>
   bnd (vec_Dot k y14 a4) fun y16 =>
   bnd (fix_Mul k a5 16384) fun y18 =>
   bnd (joint_over k y18 a6) fun y20 =>
   bnd (fix_Sub k (ineg .i64 y16) y20) fun y22 =>
   bnd (joint_over k y22 y7) fun y24 =>
   bnd (vec_Scale k a4 y24) fun y26 =>
   bnd (body_Push k (el Z49 r0 a1.1) ((ineg .i64 y26.1), (ineg .i64 y26.2.1), ()) a2) fun y28 =>
   bnd (body_Push k (el Z49 r0 a1.2.1) y26 a3) fun y30 =>
   req (inL a1.2.1 (st r0 a1.1 y28)) <|
   some (st (st r0 a1.1 y28) a1.2.1 y30))
noncomputable def joint_pull.h (k : Nat) : Go.Sx.HSp := ⟨(.pair T76 (.pair T27 (.pair T27 (.pair T27 (.pair T2 (.pair T2 (.pair (.slice T49) .unit))))))), (.slice T49), 1, fun x => [.lent (.val .own (0 : Nat)), .dat T76 x.1, .dat T27 x.2.1, .dat T27 x.2.2.1, .dat T27 x.2.2.2.1, .dat T2 x.2.2.2.2.1, .dat T2 x.2.2.2.2.2.1], fun x => [(0, .row T49 x.2.2.2.2.2.2.1 50)], fun x => joint_pull k x.1 x.2.1 x.2.2.1 x.2.2.2.1 x.2.2.2.2.1 x.2.2.2.2.2.1 x.2.2.2.2.2.2.1, fun x y => [(0, .row T49 y 50)], .none, fun y => (), false⟩
noncomputable def joint_pull.cx (k : Nat) : Go.Sx.Ctx := ⟨tys, [(173, body_Ease.sp k), (104, fix_Add.sp k), (175, body_At.sp k), (55, vec_Sub.sp k), (174, vec_Dot.sp k), (105, fix_Mul.sp k), (176, joint_over.sp k), (127, fix_Sub.sp k), (27, vec_Scale.sp k), (177, body_Push.sp k)], eqs, 82, 1, [], false⟩
theorem joint_pull.cok (k : Nat) : CtxOk PR (joint_pull.cx k) := ctx_ok tysOk eqsOk (FnsOk.cons (body_Ease.ok k) (FnsOk.cons (fix_Add.ok k) (FnsOk.cons (body_At.ok k) (FnsOk.cons (vec_Sub.ok k) (FnsOk.cons (vec_Dot.ok k) (FnsOk.cons (fix_Mul.ok k) (FnsOk.cons (joint_over.ok k) (FnsOk.cons (fix_Sub.ok k) (FnsOk.cons (vec_Scale.ok k) (FnsOk.cons (body_Push.ok k) FnsOk.nil)))))))))) HsOk.nil
@[irreducible] noncomputable def joint_pull.P (k : Nat) (a1 : V76) (a2 : V27) (a3 : V27) (a4 : V27) (a5 : Int) (a6 : Int) (r0 : (List V49)) (y : (List V49)) (answers : List Ans) (cmds : List Cmd) : Prop := exec PR (joint_pull.cx k) joint_pull.code 1 (entryH (joint_pull.h k) (a1, a2, a3, a4, a5, a6, r0, ())).st answers (RetH (joint_pull.cx k) Try.f128 cmds (joint_pull.h k) (a1, a2, a3, a4, a5, a6, r0, ()) y)
theorem joint_pull.way (k : Nat) (a1 : V76) (a2 : V27) (a3 : V27) (a4 : V27) (a5 : Int) (a6 : Int) (r0 : (List V49)) : Owp (joint_pull k a1 a2 a3 a4 a5 a6 r0) fun y => ∃ answers cmds, joint_pull.P k a1 a2 a3 a4 a5 a6 r0 y answers cmds := by
  unfold joint_pull; exact
   Owp.req fun h1 =>
   Owp.req fun h2 =>
   Owp.bnd fun y3 e4 =>
   Owp.bnd fun y5 e6 =>
   Owp.bnd fun y7 e8 =>
   Owp.bif (fun e9 =>
   Owp.some (⟨[.res (.one (.dp T2)) y3, .res (.one (.dp T2)) y5, .res (.one (.dp T2)) y7, .dec true], [], via (rethP (And.intro (And.intro (And.intro (And.intro (And.intro (And.intro (And.intro (And.intro trivial h1) h1) h2) h2) e4) e6) e8) e9) [(0, .row T49 r0 50)] .none (() : Unit)) (by kernel_rfl)⟩)) (fun e9 =>
   Owp.bnd fun y10 e11 =>
    Owp.bnd fun y12 e13 =>
    Owp.bnd fun y14 e15 =>
    Owp.bnd fun y16 e17 =>
    Owp.bnd fun y18 e19 =>
    Owp.bnd fun y20 e21 =>
    Owp.bnd fun y22 e23 =>
    Owp.bnd fun y24 e25 =>
    Owp.bnd fun y26 e27 =>
    Owp.bnd fun y28 e29 =>
    Owp.bnd fun y30 e31 =>
    Owp.req fun h32 =>
    Owp.some (⟨[.res (.one (.dp T2)) y3, .res (.one (.dp T2)) y5, .res (.one (.dp T2)) y7, .dec false, .res (.one (.dp T27)) y10, .res (.one (.dp T27)) y12, .res (.one (.dp T27)) y14, .res (.one (.dp T2)) y16, .res (.one (.dp T2)) y18, .res (.one (.dp T2)) y20, .res (.one (.dp T2)) y22, .res (.one (.dp T2)) y24, .res (.one (.dp T27)) y26, .res (.one (.dp T49)) y28, .res (.one (.dp T49)) y30], [], via (rethP (And.intro (And.intro (And.intro (And.intro (And.intro (And.intro (And.intro (And.intro (And.intro (And.intro (And.intro (And.intro (And.intro (And.intro (And.intro (And.intro (And.intro (And.intro (And.intro (And.intro (And.intro (And.intro (And.intro trivial h1) h1) h2) h2) e4) e6) e8) e9) e11) e13) e15) e17) e19) e21) e23) e25) e27) e29) e31) h1) h1) h32) h32) [(0, .row T49 (st (st r0 a1.1 y28) a1.2.1 y30) 50)] .none (() : Unit)) (by kernel_rfl)⟩))
theorem joint_pull.ok (k : Nat) : HOk PR 128 (joint_pull.h k) :=
  fnH_ok (joint_pull.cok k) hmix Try.func128 (code := joint_pull.code) (by kernel_rfl) (by kernel_rfl) (by kernel_rfl) (by kernel_rfl) (by kernel_rfl) (fun x => Nat.le_of_ble_eq_true (by kernel_rfl)) fun x y hy => match (joint_pull.way k x.1 x.2.1 x.2.2.1 x.2.2.2.1 x.2.2.2.2.1 x.2.2.2.2.2.1 x.2.2.2.2.2.2.1).ap hy with | ⟨ans, cmds, h⟩ => ⟨ans, cmds, via h (by kernel_rfl)⟩

/-! tourney/joint.Run -/
noncomputable def joint_Run.code : Code := Func.cd Try.f56
def joint_Run.c1 (k : Nat) (a2 : Int) (a3 : Int) : Option (Bool) :=
  bif' (ilt a2 1)
  (some true)
  (bif' (igt a2 65536)
   (some true)
   (bif' (ilt a3 0)
    (some true)
    (some (igt a3 32))))
def joint_Run.c2 (k : Nat) (a0 : (List V49)) : Nat → Int → (List V49) → Option ((List V49))
  | 0, _, _ => none
  | n + 1, v10, v11 =>
   bif' (ilt v10 (len a0))
   (req (inL v10 a0) <|
    bnd (slices_Clone k (el Z49 a0 v10).2.2.2.2.2.2.2.2.1) fun y14 =>
    req (room 120 v11 [((el Z49 a0 v10).1, (el Z49 a0 v10).2.1, (el Z49 a0 v10).2.2.1, (el Z49 a0 v10).2.2.2.1, (el Z49 a0 v10).2.2.2.2.1, (el Z49 a0 v10).2.2.2.2.2.1, (el Z49 a0 v10).2.2.2.2.2.2.1, (el Z49 a0 v10).2.2.2.2.2.2.2.1, y14, (el Z49 a0 v10).2.2.2.2.2.2.2.2.2)]) <|
    joint_Run.c2 k a0 n (iadd .i64 v10 1) (v11 ++ [((el Z49 a0 v10).1, (el Z49 a0 v10).2.1, (el Z49 a0 v10).2.2.1, (el Z49 a0 v10).2.2.2.1, (el Z49 a0 v10).2.2.2.2.1, (el Z49 a0 v10).2.2.2.2.2.1, (el Z49 a0 v10).2.2.2.2.2.2.1, (el Z49 a0 v10).2.2.2.2.2.2.2.1, y14, (el Z49 a0 v10).2.2.2.2.2.2.2.2.2)]))
   (some v11)
def joint_Run.c5 (k : Nat) (y28 : V27) (y35 : V27) : Option (V27) :=
  bif' (Ty.eqb T27 y28 ((0 : Int), (0 : Int), ()))
  (some (65536, 0, ()))
  (some y35)
def joint_Run.c4 (k : Nat) (a1 : (List V76)) (a2 : Int) : Nat → Int → (List V49) → Option ((List V49))
  | 0, _, _ => none
  | n + 1, v22, v23 =>
   bif' (ilt v22 (len a1))
   (req (inL v22 a1) <|
    bnd (joint_Ends k v23 (el Z76 a1 v22)) fun y26 =>
    bnd (vec_Sub k y26.2.1 y26.1) fun y28 =>
    bif' (ieq (el Z76 a1 v22).2.2.2.2.1 0)
    (bnd (joint_pull k (el Z76 a1 v22) y26.1 y26.2.1 (65536, 0, ()) y28.1 a2 v23) fun y31 =>
     bnd (joint_pull k (el Z76 a1 v22) y26.1 y26.2.1 (0, 65536, ()) y28.2.1 a2 y31) fun y33 =>
     joint_Run.c4 k a1 a2 n (iadd .i64 v22 1) y33)
    (bnd (vec_Unit k y28) fun y35 =>
     bnd (joint_Run.c5 k y28 y35) fun o38 =>
     bnd (vec_Len k y28) fun y40 =>
     bnd (joint_pull k (el Z76 a1 v22) y26.1 y26.2.1 o38 (isub .i64 y40 (el Z76 a1 v22).2.2.2.2.1) a2 v23) fun y42 =>
     joint_Run.c4 k a1 a2 n (iadd .i64 v22 1) y42))
   (some v23)
def joint_Run.c3 (k : Nat) (a1 : (List V76)) (a2 : Int) (a3 : Int) : Nat → Int → (List V49) → Option ((List V49))
  | 0, _, _ => none
  | n + 1, v19, v20 =>
   bif' (ilt v19 a3)
   (bnd (joint_Run.c4 k a1 a2 k 0 v20) fun o44 =>
    joint_Run.c3 k a1 a2 a3 n (iadd .i64 v19 1) o44)
   (some v20)
def joint_Run (k : Nat) (a0 : (List V49)) (a1 : (List V76)) (a2 : Int) (a3 : Int) : Option ((List V49) × Int) :=
  bnd (joint_Check k a0 a1) fun y1 =>
  bif' (ine y1 0)
  (some ([], y1))
  (bnd (joint_Run.c1 k a2 a3) fun o7 =>
   bif' o7
   (some ([], 1))
   (bnd (joint_Run.c2 k a0 k 0 []) fun o17 =>
    bnd (joint_Run.c3 k a1 a2 a3 k 0 o17) fun o46 =>
    some (o46, 0)))
noncomputable def joint_Run.sp (k : Nat) : Go.Sx.Spec := ⟨(.pair (.slice T49) (.pair (.slice T76) T27)), (.more (.ow T49 50) (.one (.dp T2))), fun x => joint_Run k x.1 x.2.1 x.2.2.1 x.2.2.2.1, false⟩
noncomputable def joint_Run.cx (k : Nat) : Go.Sx.Ctx := ⟨tys, [(57, joint_Check.sp k), (87, (slices_Clone.sp k).frz), (51, joint_Ends.sp k), (55, vec_Sub.sp k), (129, vec_Unit.sp k), (54, vec_Len.sp k)], eqs, 117, 0, [(128, joint_pull.h k)], false⟩
theorem joint_Run.cok (k : Nat) : CtxOk PR (joint_Run.cx k) := ctx_ok tysOk eqsOk (FnsOk.cons (joint_Check.ok k) (FnsOk.cons (FnOk.frz rfl (slices_Clone.ok k)) (FnsOk.cons (joint_Ends.ok k) (FnsOk.cons (vec_Sub.ok k) (FnsOk.cons (vec_Unit.ok k) (FnsOk.cons (vec_Len.ok k) FnsOk.nil)))))) (HsOk.cons (joint_pull.ok k) HsOk.nil)
noncomputable def joint_Run.c1p (a0 : (List V49)) (a1 : (List V76)) (a2 : Int) (a3 : Int) : SL := ⟨[(0, (.val (.slice T49) a0)), (1, (.val (.slice T76) a1)), (2, (.val T2 a2)), (3, (.val T2 a3))], []⟩
noncomputable def joint_Run.c1q (a0 : (List V49)) (a1 : (List V76)) (a2 : Int) (a3 : Int) (o : Bool) : SL := (fun v => ⟨[(0, (.val (.slice T49) a0)), (1, (.val (.slice T76) a1)), (2, (.val T2 a2)), (3, (.val T2 a3)), (40, (.val T4 v))], []⟩) o
noncomputable def joint_Run.c1x (o : Bool) : Ex := (fun _ => .normal) o
noncomputable def joint_Run.c1n (o : Bool) : Nat := (fun _ => 0) o
theorem joint_Run.c1_ok (k : Nat) (a0 : (List V49)) (a1 : (List V76)) (a2 : Int) (a3 : Int) : Owp (joint_Run.c1 k a2 a3) fun o => Triple PR (joint_Run.cx k) (sub joint_Run.code [1, 1, 0, 0]) 0 (joint_Run.c1p a0 a1 a2 a3) (joint_Run.c1x o) (joint_Run.c1n o) (joint_Run.c1q a0 a1 a2 a3 o) := by
  unfold joint_Run.c1; exact
   Owp.bif (fun e4 =>
   Owp.some (triple_way (joint_Run.cok k) hmix [.dec true, .dec true, .dec true, .dec true, .dec true, .dec true, .dec true, .dec true, .dec true] [] [] (via (finP (And.intro (And.intro (And.intro (And.intro (And.intro (And.intro (And.intro (And.intro (And.intro trivial e4) e4) e4) tt) tt) tt) tt) tt) tt) .normal [] (joint_Run.c1q a0 a1 a2 a3 true)) (by kernel_rfl)))) (fun e4 =>
   Owp.bif (fun e5 =>
    Owp.some (triple_way (joint_Run.cok k) hmix [.dec false, .dec false, .dec false, .dec true, .dec true, .dec true, .dec true, .dec true, .dec true] [] [] (via (finP (And.intro (And.intro (And.intro (And.intro (And.intro (And.intro (And.intro (And.intro (And.intro trivial e4) e4) e4) e5) e5) e5) tt) tt) tt) .normal [] (joint_Run.c1q a0 a1 a2 a3 true)) (by kernel_rfl)))) (fun e5 =>
    Owp.bif (fun e6 =>
     Owp.some (triple_way (joint_Run.cok k) hmix [.dec false, .dec false, .dec false, .dec false, .dec false, .dec false, .dec true, .dec true, .dec true] [] [] (via (finP (And.intro (And.intro (And.intro (And.intro (And.intro (And.intro (And.intro (And.intro (And.intro trivial e4) e4) e4) e5) e5) e5) e6) e6) e6) .normal [] (joint_Run.c1q a0 a1 a2 a3 true)) (by kernel_rfl)))) (fun e6 =>
     Owp.some (triple_way (joint_Run.cok k) hmix [.dec false, .dec false, .dec false, .dec false, .dec false, .dec false, .dec false, .dec false, .dec false] [] [] (via (finP (And.intro (And.intro (And.intro (And.intro (And.intro (And.intro (And.intro (And.intro (And.intro trivial e4) e4) e4) e5) e5) e5) e6) e6) e6) .normal [] (joint_Run.c1q a0 a1 a2 a3 (igt a3 (32 : Int)))) (by kernel_rfl))))))
noncomputable def joint_Run.c2p (a0 : (List V49)) (a1 : (List V76)) (a2 : Int) (a3 : Int) (v10 : Int) (v11 : (List V49)) : SL := ⟨[(1, (.val (.slice T76) a1)), (2, (.val T2 a2)), (3, (.val T2 a3)), (11, (.val .own (0 : Nat))), (41, (.val (.slice T49) a0)), (42, (.val T2 (len a0))), (43, (.val T2 v10))], [(0, .row T49 v11 50)]⟩
noncomputable def joint_Run.c2q (a1 : (List V76)) (a2 : Int) (a3 : Int) (o : (List V49)) : SL := (fun v => ⟨[(1, (.val (.slice T76) a1)), (2, (.val T2 a2)), (3, (.val T2 a3)), (11, (.val .own (0 : Nat)))], [(0, .row T49 v 50)]⟩) o
noncomputable def joint_Run.c2x (o : (List V49)) : Ex := (fun _ => (.exit 0)) o
noncomputable def joint_Run.c2n (o : (List V49)) : Nat := (fun _ => 1) o
theorem joint_Run.c2_ok (k : Nat) (a0 : (List V49)) (a1 : (List V76)) (a2 : Int) (a3 : Int) : ∀ (n : Nat) (v10 : Int) (v11 : (List V49)), Owp (joint_Run.c2 k a0 n v10 v11) fun o => LTriple PR (joint_Run.cx k) (sub joint_Run.code [1, 1, 1, 1, 0, 1, 0, 0]) 1 (joint_Run.c2p a0 a1 a2 a3 v10 v11) (joint_Run.c2x o) (joint_Run.c2n o) (joint_Run.c2q a1 a2 a3 o)
  | 0, _, _ => fun _ h => nomatch h
  | n + 1, v10, v11 => Owp.of (joint_Run.c2.eq_2 ..) (
   Owp.bif (fun e12 =>
   Owp.req fun h13 =>
    Owp.bnd fun y14 e15 =>
    Owp.req fun h16 =>
    fun y hy => loop_back (joint_Run.cok k) hmix 1 (joint_Run.c2p a0 a1 a2 a3 (iadd .i64 v10 (1 : Int)) (v11 ++ [((el Z49 a0 v10).1, (el Z49 a0 v10).2.1, (el Z49 a0 v10).2.2.1, (el Z49 a0 v10).2.2.2.1, (el Z49 a0 v10).2.2.2.2.1, (el Z49 a0 v10).2.2.2.2.2.1, (el Z49 a0 v10).2.2.2.2.2.2.1, (el Z49 a0 v10).2.2.2.2.2.2.2.1, y14, (el Z49 a0 v10).2.2.2.2.2.2.2.2.2)])) [.dec true, .res (.one (.dp T22)) y14, .dec true] [] [(0, 14)] (via (finP (And.intro (And.intro (And.intro (And.intro trivial e12) h13) e15) h16) .normal [(0, 14)] (joint_Run.c2p a0 a1 a2 a3 (iadd .i64 v10 (1 : Int)) (v11 ++ [((el Z49 a0 v10).1, (el Z49 a0 v10).2.1, (el Z49 a0 v10).2.2.1, (el Z49 a0 v10).2.2.2.1, (el Z49 a0 v10).2.2.2.2.1, (el Z49 a0 v10).2.2.2.2.2.1, (el Z49 a0 v10).2.2.2.2.2.2.1, (el Z49 a0 v10).2.2.2.2.2.2.2.1, y14, (el Z49 a0 v10).2.2.2.2.2.2.2.2.2)]))) (by kernel_rfl)) ((joint_Run.c2_ok k a0 a1 a2 a3 n (iadd .i64 v10 (1 : Int)) (v11 ++ [((el Z49 a0 v10).1, (el Z49 a0 v10).2.1, (el Z49 a0 v10).2.2.1, (el Z49 a0 v10).2.2.2.1, (el Z49 a0 v10).2.2.2.2.1, (el Z49 a0 v10).2.2.2.2.2.1, (el Z49 a0 v10).2.2.2.2.2.2.1, (el Z49 a0 v10).2.2.2.2.2.2.2.1, y14, (el Z49 a0 v10).2.2.2.2.2.2.2.2.2)])).ap hy)) (fun e12 =>
   Owp.some (loop_exit (joint_Run.cok k) hmix [.dec false] [] [(0, 0)] (exne 0) (via (finP (And.intro trivial e12) (.exit 0) [(0, 0)] (joint_Run.c2q a1 a2 a3 v11)) (by kernel_rfl)))))
noncomputable def joint_Run.c5p (a1 : (List V76)) (a2 : Int) (a3 : Int) (v19 : Int) (v22 : Int) (v23 : (List V49)) (y26 : (V27 × (V27 × Int))) (y28 : V27) (y35 : V27) : SL := ⟨[(1, (.val (.slice T76) a1)), (2, (.val T2 a2)), (11, (.val .own (0 : Nat))), (15, (.val .ptr ⟨1, 0, (0 : Int), 0, 0⟩)), (16, (.val .ptr ⟨2, 0, (0 : Int), 0, 0⟩)), (17, (.val .ptr ⟨3, 0, (0 : Int), 0, 0⟩)), (19, (.val .ptr ⟨4, 0, (0 : Int), 0, 0⟩)), (20, (.val .ptr ⟨5, 0, (0 : Int), 0, 0⟩)), (56, (.val T2 a3)), (57, (.val T2 v19)), (59, (.val (.slice T76) a1)), (60, (.val T2 (len a1))), (61, (.val T2 v22)), (100, (.val T4 (Ty.eqb T27 y28 ((0 : Int), (0 : Int), ()))))], [(0, .row T49 v23 50), (1, .cells T76 (el Z76 a1 v22)), (2, .cells T27 y26.1), (3, .cells T27 y26.2.1), (4, .cells T27 y28), (5, .cells T27 y35)]⟩
noncomputable def joint_Run.c5q (a1 : (List V76)) (a2 : Int) (a3 : Int) (v19 : Int) (v22 : Int) (v23 : (List V49)) (y26 : (V27 × (V27 × Int))) (y28 : V27) (o : V27) : SL := (fun v => ⟨[(1, (.val (.slice T76) a1)), (2, (.val T2 a2)), (11, (.val .own (0 : Nat))), (15, (.val .ptr ⟨1, 0, (0 : Int), 0, 0⟩)), (16, (.val .ptr ⟨2, 0, (0 : Int), 0, 0⟩)), (17, (.val .ptr ⟨3, 0, (0 : Int), 0, 0⟩)), (19, (.val .ptr ⟨4, 0, (0 : Int), 0, 0⟩)), (20, (.val .ptr ⟨5, 0, (0 : Int), 0, 0⟩)), (56, (.val T2 a3)), (57, (.val T2 v19)), (59, (.val (.slice T76) a1)), (60, (.val T2 (len a1))), (61, (.val T2 v22))], [(0, .row T49 v23 50), (1, .cells T76 (el Z76 a1 v22)), (2, .cells T27 y26.1), (3, .cells T27 y26.2.1), (4, .cells T27 y28), (5, .cells T27 v)]⟩) o
noncomputable def joint_Run.c5x (o : V27) : Ex := (fun _ => .normal) o
noncomputable def joint_Run.c5n (o : V27) : Nat := (fun _ => 6) o
theorem joint_Run.c5_ok (k : Nat) (a1 : (List V76)) (a2 : Int) (a3 : Int) (v19 : Int) (v22 : Int) (v23 : (List V49)) (y26 : (V27 × (V27 × Int))) (y28 : V27) (y35 : V27) : Owp (joint_Run.c5 k y28 y35) fun o => Triple PR (joint_Run.cx k) (sub joint_Run.code [1, 1, 1, 1, 1, 0, 1, 0, 0, 1, 1, 0, 0, 1, 0, 0, 1, 1, 0, 0, 1, 1, 1, 1, 1, 0, 1]) 6 (joint_Run.c5p a1 a2 a3 v19 v22 v23 y26 y28 y35) (joint_Run.c5x o) (joint_Run.c5n o) (joint_Run.c5q a1 a2 a3 v19 v22 v23 y26 y28 o) := by
  unfold joint_Run.c5; exact
   Owp.bif (fun e37 =>
   Owp.some (triple_way (joint_Run.cok k) hmix [.dec true] [] [(0, 0), (1, 1), (2, 2), (3, 3), (4, 4), (5, 5)] (via (finP (And.intro trivial e37) .normal [(0, 0), (1, 1), (2, 2), (3, 3), (4, 4), (5, 5)] (joint_Run.c5q a1 a2 a3 v19 v22 v23 y26 y28 ((65536 : Int), (0 : Int), ()))) (by kernel_rfl)))) (fun e37 =>
   Owp.some (triple_way (joint_Run.cok k) hmix [.dec false] [] [(0, 0), (1, 1), (2, 2), (3, 3), (4, 4), (5, 5)] (via (finP (And.intro trivial e37) .normal [(0, 0), (1, 1), (2, 2), (3, 3), (4, 4), (5, 5)] (joint_Run.c5q a1 a2 a3 v19 v22 v23 y26 y28 y35)) (by kernel_rfl))))
noncomputable def joint_Run.c4p (a1 : (List V76)) (a2 : Int) (a3 : Int) (v19 : Int) (v22 : Int) (v23 : (List V49)) : SL := ⟨[(1, (.val (.slice T76) a1)), (2, (.val T2 a2)), (11, (.val .own (0 : Nat))), (56, (.val T2 a3)), (57, (.val T2 v19)), (59, (.val (.slice T76) a1)), (60, (.val T2 (len a1))), (61, (.val T2 v22))], [(0, .row T49 v23 50)]⟩
noncomputable def joint_Run.c4q (a1 : (List V76)) (a2 : Int) (a3 : Int) (v19 : Int) (o : (List V49)) : SL := (fun v => ⟨[(1, (.val (.slice T76) a1)), (2, (.val T2 a2)), (11, (.val .own (0 : Nat))), (56, (.val T2 a3)), (57, (.val T2 v19))], [(0, .row T49 v 50)]⟩) o
noncomputable def joint_Run.c4x (o : (List V49)) : Ex := (fun _ => (.exit 4)) o
noncomputable def joint_Run.c4n (o : (List V49)) : Nat := (fun _ => 1) o
theorem joint_Run.c4_ok (k : Nat) (a1 : (List V76)) (a2 : Int) (a3 : Int) (v19 : Int) : ∀ (n : Nat) (v22 : Int) (v23 : (List V49)), Owp (joint_Run.c4 k a1 a2 n v22 v23) fun o => LTriple PR (joint_Run.cx k) (sub joint_Run.code [1, 1, 1, 1, 1, 0, 1, 0, 0, 1, 1, 0, 0, 1, 0, 0]) 1 (joint_Run.c4p a1 a2 a3 v19 v22 v23) (joint_Run.c4x o) (joint_Run.c4n o) (joint_Run.c4q a1 a2 a3 v19 o)
  | 0, _, _ => fun _ h => nomatch h
  | n + 1, v22, v23 => Owp.of (joint_Run.c4.eq_2 ..) (
   Owp.bif (fun e24 =>
   Owp.req fun h25 =>
    Owp.bnd fun y26 e27 =>
    Owp.bnd fun y28 e29 =>
    Owp.bif (fun e30 =>
    Owp.bnd fun y31 e32 =>
     Owp.bnd fun y33 e34 =>
     fun y hy => loop_back (joint_Run.cok k) hmix 1 (joint_Run.c4p a1 a2 a3 v19 (iadd .i64 v22 (1 : Int)) y33) [.dec true, .res (.more (.dp T27) (.more (.dp T27) (.one (.dp T2)))) y26, .res (.one (.dp T27)) y28, .dec true, .hres [(0, 0)] (.pair T76 (.pair T27 (.pair T27 (.pair T27 (.pair T2 (.pair T2 (.pair (.slice T49) .unit))))))) ((el Z76 a1 v22), y26.1, y26.2.1, ((65536 : Int), (0 : Int), ()), y28.1, a2, v23, ()) (.slice T49) y31, .hres [(0, 0)] (.pair T76 (.pair T27 (.pair T27 (.pair T27 (.pair T2 (.pair T2 (.pair (.slice T49) .unit))))))) ((el Z76 a1 v22), y26.1, y26.2.1, ((0 : Int), (65536 : Int), ()), y28.2.1, a2, y31, ()) (.slice T49) y33] [] [(0, 0)] (via (finP (And.intro (And.intro (And.intro (And.intro (And.intro (And.intro (And.intro trivial e24) h25) e27) e29) e30) (callHP (joint_pull.h k) [(0, 0)] ((el Z76 a1 v22), y26.1, y26.2.1, ((65536 : Int), (0 : Int), ()), y28.1, a2, v23, ()) e32)) (callHP (joint_pull.h k) [(0, 0)] ((el Z76 a1 v22), y26.1, y26.2.1, ((0 : Int), (65536 : Int), ()), y28.2.1, a2, y31, ()) e34)) .normal [(0, 0)] (joint_Run.c4p a1 a2 a3 v19 (iadd .i64 v22 (1 : Int)) y33)) (by kernel_rfl)) ((joint_Run.c4_ok k a1 a2 a3 v19 n (iadd .i64 v22 (1 : Int)) y33).ap hy)) (fun e30 =>
    Owp.bnd fun y35 e36 =>
     Owp.bnd fun o38 e39 =>
     Owp.bnd fun y40 e41 =>
     Owp.bnd fun y42 e43 =>
     fun y hy => loop_back (joint_Run.cok k) hmix 1 (joint_Run.c4p a1 a2 a3 v19 (iadd .i64 v22 (1 : Int)) y42) [.dec true, .res (.more (.dp T27) (.more (.dp T27) (.one (.dp T2)))) y26, .res (.one (.dp T27)) y28, .dec false, .res (.one (.dp T27)) y35, .cut ⟨[], [(0, 0), (1, 4), (2, 13), (3, 14), (4, 21), (5, 28)], (joint_Run.c5p a1 a2 a3 v19 v22 v23 y26 y28 y35), 6, .normal, (joint_Run.c5q a1 a2 a3 v19 v22 v23 y26 y28 o38), 6⟩, .res (.one (.dp T2)) y40, .hres [(0, 0)] (.pair T76 (.pair T27 (.pair T27 (.pair T27 (.pair T2 (.pair T2 (.pair (.slice T49) .unit))))))) ((el Z76 a1 v22), y26.1, y26.2.1, o38, (isub .i64 y40 (el Z76 a1 v22).2.2.2.2.1), a2, v23, ()) (.slice T49) y42] [] [(0, 0)] (via (cutP (And.intro (And.intro (And.intro (And.intro (And.intro (And.intro trivial e24) h25) e27) e29) e30) e36) [(0, 0), (1, 4), (2, 13), (3, 14), (4, 21), (5, 28)] (joint_Run.c5p a1 a2 a3 v19 v22 v23 y26 y28 y35) (((joint_Run.c5_ok k a1 a2 a3 v19 v22 v23 y26 y28 y35).ap e39)) (finP (And.intro (And.intro trivial e41) (callHP (joint_pull.h k) [(0, 0)] ((el Z76 a1 v22), y26.1, y26.2.1, o38, (isub .i64 y40 (el Z76 a1 v22).2.2.2.2.1), a2, v23, ()) e43)) .normal [(0, 0)] (joint_Run.c4p a1 a2 a3 v19 (iadd .i64 v22 (1 : Int)) y42))) (by kernel_rfl)) ((joint_Run.c4_ok k a1 a2 a3 v19 n (iadd .i64 v22 (1 : Int)) y42).ap hy))) (fun e24 =>
   Owp.some (loop_exit (joint_Run.cok k) hmix [.dec false] [] [(0, 0)] (exne 4) (via (finP (And.intro trivial e24) (.exit 4) [(0, 0)] (joint_Run.c4q a1 a2 a3 v19 v23)) (by kernel_rfl)))))
noncomputable def joint_Run.c3p (a1 : (List V76)) (a2 : Int) (a3 : Int) (v19 : Int) (v20 : (List V49)) : SL := ⟨[(1, (.val (.slice T76) a1)), (2, (.val T2 a2)), (11, (.val .own (0 : Nat))), (56, (.val T2 a3)), (57, (.val T2 v19))], [(0, .row T49 v20 50)]⟩
noncomputable def joint_Run.c3q (o : (List V49)) : SL := (fun v => ⟨[(11, (.val .own (0 : Nat)))], [(0, .row T49 v 50)]⟩) o
noncomputable def joint_Run.c3x (o : (List V49)) : Ex := (fun _ => (.exit 2)) o
noncomputable def joint_Run.c3n (o : (List V49)) : Nat := (fun _ => 1) o
theorem joint_Run.c3_ok (k : Nat) (a1 : (List V76)) (a2 : Int) (a3 : Int) : ∀ (n : Nat) (v19 : Int) (v20 : (List V49)), Owp (joint_Run.c3 k a1 a2 a3 n v19 v20) fun o => LTriple PR (joint_Run.cx k) (sub joint_Run.code [1, 1, 1, 1, 1, 0, 1, 0, 0]) 1 (joint_Run.c3p a1 a2 a3 v19 v20) (joint_Run.c3x o) (joint_Run.c3n o) (joint_Run.c3q o)
  | 0, _, _ => fun _ h => nomatch h
  | n + 1, v19, v20 => Owp.of (joint_Run.c3.eq_2 ..) (
   Owp.bif (fun e21 =>
   Owp.bnd fun o44 e45 =>
    fun y hy => loop_back (joint_Run.cok k) hmix 1 (joint_Run.c3p a1 a2 a3 (iadd .i64 v19 (1 : Int)) o44) [.dec true, .cut ⟨[], [(0, 0)], (joint_Run.c4p a1 a2 a3 v19 (0 : Int) v20), 1, (.exit 4), (joint_Run.c4q a1 a2 a3 v19 o44), 1⟩] [] [(0, 0)] (via (cutP (And.intro trivial e21) [(0, 0)] (joint_Run.c4p a1 a2 a3 v19 (0 : Int) v20) (((joint_Run.c4_ok k a1 a2 a3 v19 k (0 : Int) v20).ap e45).triple) (finP trivial .normal [(0, 0)] (joint_Run.c3p a1 a2 a3 (iadd .i64 v19 (1 : Int)) o44))) (by kernel_rfl)) ((joint_Run.c3_ok k a1 a2 a3 n (iadd .i64 v19 (1 : Int)) o44).ap hy)) (fun e21 =>
   Owp.some (loop_exit (joint_Run.cok k) hmix [.dec false] [] [(0, 0)] (exne 2) (via (finP (And.intro trivial e21) (.exit 2) [(0, 0)] (joint_Run.c3q v20)) (by kernel_rfl)))))
theorem joint_Run.way (k : Nat) (a0 : (List V49)) (a1 : (List V76)) (a2 : Int) (a3 : Int) : Owp (joint_Run k a0 a1 a2 a3) fun y => ∃ answers cmds, exec PR (joint_Run.cx k) joint_Run.code 0 (entry (.pair (.slice T49) (.pair (.slice T76) T27)) (a0, a1, a2, a3, ())).st answers (Ret (joint_Run.cx k) Try.f56 cmds (.more (.ow T49 50) (.one (.dp T2))) y) := by
  unfold joint_Run; exact
   Owp.bnd fun y1 e2 =>
   Owp.bif (fun e3 =>
   Owp.some (⟨[.res (.one (.dp T2)) y1, .dec true], [.own 8 T49 50], via (retP (And.intro (And.intro trivial e2) e3) (.more (.ow T49 50) (.one (.dp T2))) (([], y1) : ((List V49) × Int))) (by kernel_rfl)⟩)) (fun e3 =>
   Owp.bnd fun o7 e8 =>
    Owp.bif (fun e9 =>
    Owp.some (⟨[.res (.one (.dp T2)) y1, .dec false, .cutR 4 ⟨[], [], (joint_Run.c1p a0 a1 a2 a3), 0, .normal, (joint_Run.c1q a0 a1 a2 a3 o7), 0⟩, .dec true], [.own 8 T49 50], via (cutP (And.intro (And.intro trivial e2) e3) [] (joint_Run.c1p a0 a1 a2 a3) (((joint_Run.c1_ok k a0 a1 a2 a3).ap e8)) (retP (And.intro trivial e9) (.more (.ow T49 50) (.one (.dp T2))) (([], (1 : Int)) : ((List V49) × Int)))) (by kernel_rfl)⟩)) (fun e9 =>
    Owp.bnd fun o17 e18 =>
     Owp.bnd fun o46 e47 =>
     Owp.some (⟨[.res (.one (.dp T2)) y1, .dec false, .cutR 4 ⟨[], [], (joint_Run.c1p a0 a1 a2 a3), 0, .normal, (joint_Run.c1q a0 a1 a2 a3 o7), 0⟩, .dec false, .cut ⟨[.own 11 T49 50], [(0, 4)], (joint_Run.c2p a0 a1 a2 a3 (0 : Int) []), 1, (.exit 0), (joint_Run.c2q a1 a2 a3 o17), 1⟩, .cut ⟨[], [(0, 0)], (joint_Run.c3p a1 a2 a3 (0 : Int) o17), 1, (.exit 2), (joint_Run.c3q o46), 1⟩], [], via (cutP (And.intro (And.intro trivial e2) e3) [] (joint_Run.c1p a0 a1 a2 a3) (((joint_Run.c1_ok k a0 a1 a2 a3).ap e8)) (cutP (And.intro trivial e9) [(0, 4)] (joint_Run.c2p a0 a1 a2 a3 (0 : Int) []) (((joint_Run.c2_ok k a0 a1 a2 a3 k (0 : Int) []).ap e18).triple) (cutP trivial [(0, 0)] (joint_Run.c3p a1 a2 a3 (0 : Int) o17) (((joint_Run.c3_ok k a1 a2 a3 k (0 : Int) o17).ap e47).triple) (retP trivial (.more (.ow T49 50) (.one (.dp T2))) ((o46, (0 : Int)) : ((List V49) × Int)))))) (by kernel_rfl)⟩)))
theorem joint_Run.ok (k : Nat) : FnOk PR 56 (joint_Run.sp k) :=
  fn_ok (joint_Run.cok k) hmix Try.func56 (code := joint_Run.code) (by kernel_rfl) (by kernel_rfl) (by kernel_rfl) rfl rfl (by kernel_rfl) (by kernel_rfl) (by kernel_rfl) (fun x => Nat.le_of_ble_eq_true (by kernel_rfl)) fun x y hy => (joint_Run.way k x.1 x.2.1 x.2.2.1 x.2.2.2.1).ap hy

/-! tourney/joint.Run -/
noncomputable def joint_Run_h.code : Code := Func.cd Try.f56
def joint_Run_h.c1 (k : Nat) (a2 : Int) (a3 : Int) : Option (Bool) :=
  bif' (ilt a2 1)
  (some true)
  (bif' (igt a2 65536)
   (some true)
   (bif' (ilt a3 0)
    (some true)
    (some (igt a3 32))))
def joint_Run_h.c2 (k : Nat) (r0 : (List V49)) : Nat → Int → (List V49) → Option ((List V49))
  | 0, _, _ => none
  | n + 1, v10, v11 =>
   bif' (ilt v10 (len r0))
   (req (inL v10 r0) <|
    bnd (slices_Clone k (el Z49 r0 v10).2.2.2.2.2.2.2.2.1) fun y14 =>
    req (room 120 v11 [((el Z49 r0 v10).1, (el Z49 r0 v10).2.1, (el Z49 r0 v10).2.2.1, (el Z49 r0 v10).2.2.2.1, (el Z49 r0 v10).2.2.2.2.1, (el Z49 r0 v10).2.2.2.2.2.1, (el Z49 r0 v10).2.2.2.2.2.2.1, (el Z49 r0 v10).2.2.2.2.2.2.2.1, y14, (el Z49 r0 v10).2.2.2.2.2.2.2.2.2)]) <|
    joint_Run_h.c2 k r0 n (iadd .i64 v10 1) (v11 ++ [((el Z49 r0 v10).1, (el Z49 r0 v10).2.1, (el Z49 r0 v10).2.2.1, (el Z49 r0 v10).2.2.2.1, (el Z49 r0 v10).2.2.2.2.1, (el Z49 r0 v10).2.2.2.2.2.1, (el Z49 r0 v10).2.2.2.2.2.2.1, (el Z49 r0 v10).2.2.2.2.2.2.2.1, y14, (el Z49 r0 v10).2.2.2.2.2.2.2.2.2)]))
   (some v11)
def joint_Run_h.c5 (k : Nat) (y28 : V27) (y35 : V27) : Option (V27) :=
  bif' (Ty.eqb T27 y28 ((0 : Int), (0 : Int), ()))
  (some (65536, 0, ()))
  (some y35)
def joint_Run_h.c4 (k : Nat) (a1 : (List V76)) (a2 : Int) : Nat → Int → (List V49) → Option ((List V49))
  | 0, _, _ => none
  | n + 1, v22, v23 =>
   bif' (ilt v22 (len a1))
   (req (inL v22 a1) <|
    bnd (joint_Ends k v23 (el Z76 a1 v22)) fun y26 =>
    bnd (vec_Sub k y26.2.1 y26.1) fun y28 =>
    bif' (ieq (el Z76 a1 v22).2.2.2.2.1 0)
    (bnd (joint_pull k (el Z76 a1 v22) y26.1 y26.2.1 (65536, 0, ()) y28.1 a2 v23) fun y31 =>
     bnd (joint_pull k (el Z76 a1 v22) y26.1 y26.2.1 (0, 65536, ()) y28.2.1 a2 y31) fun y33 =>
     joint_Run_h.c4 k a1 a2 n (iadd .i64 v22 1) y33)
    (bnd (vec_Unit k y28) fun y35 =>
     bnd (joint_Run_h.c5 k y28 y35) fun o38 =>
     bnd (vec_Len k y28) fun y40 =>
     bnd (joint_pull k (el Z76 a1 v22) y26.1 y26.2.1 o38 (isub .i64 y40 (el Z76 a1 v22).2.2.2.2.1) a2 v23) fun y42 =>
     joint_Run_h.c4 k a1 a2 n (iadd .i64 v22 1) y42))
   (some v23)
def joint_Run_h.c3 (k : Nat) (a1 : (List V76)) (a2 : Int) (a3 : Int) : Nat → Int → (List V49) → Option ((List V49))
  | 0, _, _ => none
  | n + 1, v19, v20 =>
   bif' (ilt v19 a3)
   (bnd (joint_Run_h.c4 k a1 a2 k 0 v20) fun o44 =>
    joint_Run_h.c3 k a1 a2 a3 n (iadd .i64 v19 1) o44)
   (some v20)
def joint_Run_h (k : Nat) (a1 : (List V76)) (a2 : Int) (a3 : Int) (r0 : (List V49)) : Option ((List V49) × Int) :=
  bnd (joint_Check k r0 a1) fun y1 =>
  bif' (ine y1 0)
  (some ([], y1))
  (bnd (joint_Run_h.c1 k a2 a3) fun o7 =>
   bif' o7
   (some ([], 1))
   (bnd (joint_Run_h.c2 k r0 k 0 []) fun o17 =>
    bnd (joint_Run_h.c3 k a1 a2 a3 k 0 o17) fun o46 =>
    some (o46, 0)))
noncomputable def joint_Run_h.h (k : Nat) : Go.Sx.HSp := ⟨(.pair (.slice T76) (.pair T2 (.pair T2 (.pair (.slice T49) .unit)))), (.pair (.slice T49) T2), 1, fun x => [.lent (.val .own (0 : Nat)), .dat (.slice T76) x.1, .dat T2 x.2.1, .dat T2 x.2.2.1], fun x => [(0, .row T49 x.2.2.2.1 50)], fun x => joint_Run_h k x.1 x.2.1 x.2.2.1 x.2.2.2.1, fun x y => [(0, .row T49 x.2.2.2.1 50)], (.more (.dp (.slice T49)) (.one (.dp T2))), fun y => y, true⟩
noncomputable def joint_Run_h.cx (k : Nat) : Go.Sx.Ctx := ⟨tys, [(57, joint_Check.sp k), (87, (slices_Clone.sp k).frz), (51, joint_Ends.sp k), (55, vec_Sub.sp k), (129, vec_Unit.sp k), (54, vec_Len.sp k)], eqs, 117, 1, [(128, joint_pull.h k)], false⟩
theorem joint_Run_h.cok (k : Nat) : CtxOk PR (joint_Run_h.cx k) := ctx_ok tysOk eqsOk (FnsOk.cons (joint_Check.ok k) (FnsOk.cons (FnOk.frz rfl (slices_Clone.ok k)) (FnsOk.cons (joint_Ends.ok k) (FnsOk.cons (vec_Sub.ok k) (FnsOk.cons (vec_Unit.ok k) (FnsOk.cons (vec_Len.ok k) FnsOk.nil)))))) (HsOk.cons (joint_pull.ok k) HsOk.nil)
noncomputable def joint_Run_h.c1p (a1 : (List V76)) (a2 : Int) (a3 : Int) (r0 : (List V49)) : SL := ⟨[(0, (.val .own (0 : Nat))), (1, (.val (.slice T76) a1)), (2, (.val T2 a2)), (3, (.val T2 a3))], [(0, .row T49 r0 50)]⟩
noncomputable def joint_Run_h.c1q (a1 : (List V76)) (a2 : Int) (a3 : Int) (r0 : (List V49)) (o : Bool) : SL := (fun v => ⟨[(0, (.val .own (0 : Nat))), (1, (.val (.slice T76) a1)), (2, (.val T2 a2)), (3, (.val T2 a3)), (40, (.val T4 v))], [(0, .row T49 r0 50)]⟩) o
noncomputable def joint_Run_h.c1x (o : Bool) : Ex := (fun _ => .normal) o
noncomputable def joint_Run_h.c1n (o : Bool) : Nat := (fun _ => 1) o
theorem joint_Run_h.c1_ok (k : Nat) (a1 : (List V76)) (a2 : Int) (a3 : Int) (r0 : (List V49)) : Owp (joint_Run_h.c1 k a2 a3) fun o => Triple PR (joint_Run_h.cx k) (sub joint_Run_h.code [1, 1, 0, 0]) 1 (joint_Run_h.c1p a1 a2 a3 r0) (joint_Run_h.c1x o) (joint_Run_h.c1n o) (joint_Run_h.c1q a1 a2 a3 r0 o) := by
  unfold joint_Run_h.c1; exact
   Owp.bif (fun e4 =>
   Owp.some (triple_way (joint_Run_h.cok k) hmix [.dec true, .dec true, .dec true, .dec true, .dec true, .dec true, .dec true, .dec true, .dec true] [] [(0, 0)] (via (finP (And.intro (And.intro (And.intro (And.intro (And.intro (And.intro (And.intro (And.intro (And.intro trivial e4) e4) e4) tt) tt) tt) tt) tt) tt) .normal [(0, 0)] (joint_Run_h.c1q a1 a2 a3 r0 true)) (by kernel_rfl)))) (fun e4 =>
   Owp.bif (fun e5 =>
    Owp.some (triple_way (joint_Run_h.cok k) hmix [.dec false, .dec false, .dec false, .dec true, .dec true, .dec true, .dec true, .dec true, .dec true] [] [(0, 0)] (via (finP (And.intro (And.intro (And.intro (And.intro (And.intro (And.intro (And.intro (And.intro (And.intro trivial e4) e4) e4) e5) e5) e5) tt) tt) tt) .normal [(0, 0)] (joint_Run_h.c1q a1 a2 a3 r0 true)) (by kernel_rfl)))) (fun e5 =>
    Owp.bif (fun e6 =>
     Owp.some (triple_way (joint_Run_h.cok k) hmix [.dec false, .dec false, .dec false, .dec false, .dec false, .dec false, .dec true, .dec true, .dec true] [] [(0, 0)] (via (finP (And.intro (And.intro (And.intro (And.intro (And.intro (And.intro (And.intro (And.intro (And.intro trivial e4) e4) e4) e5) e5) e5) e6) e6) e6) .normal [(0, 0)] (joint_Run_h.c1q a1 a2 a3 r0 true)) (by kernel_rfl)))) (fun e6 =>
     Owp.some (triple_way (joint_Run_h.cok k) hmix [.dec false, .dec false, .dec false, .dec false, .dec false, .dec false, .dec false, .dec false, .dec false] [] [(0, 0)] (via (finP (And.intro (And.intro (And.intro (And.intro (And.intro (And.intro (And.intro (And.intro (And.intro trivial e4) e4) e4) e5) e5) e5) e6) e6) e6) .normal [(0, 0)] (joint_Run_h.c1q a1 a2 a3 r0 (igt a3 (32 : Int)))) (by kernel_rfl))))))
noncomputable def joint_Run_h.c2p (a1 : (List V76)) (a2 : Int) (a3 : Int) (r0 : (List V49)) (v10 : Int) (v11 : (List V49)) : SL := ⟨[(1, (.val (.slice T76) a1)), (2, (.val T2 a2)), (3, (.val T2 a3)), (11, (.val .own (1 : Nat))), (41, (.val .own (0 : Nat))), (42, (.val T2 (len r0))), (43, (.val T2 v10))], [(0, .row T49 r0 50), (1, .row T49 v11 50)]⟩
noncomputable def joint_Run_h.c2q (a1 : (List V76)) (a2 : Int) (a3 : Int) (r0 : (List V49)) (o : (List V49)) : SL := (fun v => ⟨[(1, (.val (.slice T76) a1)), (2, (.val T2 a2)), (3, (.val T2 a3)), (11, (.val .own (1 : Nat)))], [(0, .row T49 r0 50), (1, .row T49 v 50)]⟩) o
noncomputable def joint_Run_h.c2x (o : (List V49)) : Ex := (fun _ => (.exit 0)) o
noncomputable def joint_Run_h.c2n (o : (List V49)) : Nat := (fun _ => 2) o
theorem joint_Run_h.c2_ok (k : Nat) (a1 : (List V76)) (a2 : Int) (a3 : Int) (r0 : (List V49)) : ∀ (n : Nat) (v10 : Int) (v11 : (List V49)), Owp (joint_Run_h.c2 k r0 n v10 v11) fun o => LTriple PR (joint_Run_h.cx k) (sub joint_Run_h.code [1, 1, 1, 1, 0, 1, 0, 0]) 2 (joint_Run_h.c2p a1 a2 a3 r0 v10 v11) (joint_Run_h.c2x o) (joint_Run_h.c2n o) (joint_Run_h.c2q a1 a2 a3 r0 o)
  | 0, _, _ => fun _ h => nomatch h
  | n + 1, v10, v11 => Owp.of (joint_Run_h.c2.eq_2 ..) (
   Owp.bif (fun e12 =>
   Owp.req fun h13 =>
    Owp.bnd fun y14 e15 =>
    Owp.req fun h16 =>
    fun y hy => loop_back (joint_Run_h.cok k) hmix 2 (joint_Run_h.c2p a1 a2 a3 r0 (iadd .i64 v10 (1 : Int)) (v11 ++ [((el Z49 r0 v10).1, (el Z49 r0 v10).2.1, (el Z49 r0 v10).2.2.1, (el Z49 r0 v10).2.2.2.1, (el Z49 r0 v10).2.2.2.2.1, (el Z49 r0 v10).2.2.2.2.2.1, (el Z49 r0 v10).2.2.2.2.2.2.1, (el Z49 r0 v10).2.2.2.2.2.2.2.1, y14, (el Z49 r0 v10).2.2.2.2.2.2.2.2.2)])) [.dec true, .res (.one (.dp T22)) y14, .dec true] [] [(0, 0), (1, 15)] (via (finP (And.intro (And.intro (And.intro (And.intro (And.intro trivial e12) h13) h13) e15) h16) .normal [(0, 0), (1, 15)] (joint_Run_h.c2p a1 a2 a3 r0 (iadd .i64 v10 (1 : Int)) (v11 ++ [((el Z49 r0 v10).1, (el Z49 r0 v10).2.1, (el Z49 r0 v10).2.2.1, (el Z49 r0 v10).2.2.2.1, (el Z49 r0 v10).2.2.2.2.1, (el Z49 r0 v10).2.2.2.2.2.1, (el Z49 r0 v10).2.2.2.2.2.2.1, (el Z49 r0 v10).2.2.2.2.2.2.2.1, y14, (el Z49 r0 v10).2.2.2.2.2.2.2.2.2)]))) (by kernel_rfl)) ((joint_Run_h.c2_ok k a1 a2 a3 r0 n (iadd .i64 v10 (1 : Int)) (v11 ++ [((el Z49 r0 v10).1, (el Z49 r0 v10).2.1, (el Z49 r0 v10).2.2.1, (el Z49 r0 v10).2.2.2.1, (el Z49 r0 v10).2.2.2.2.1, (el Z49 r0 v10).2.2.2.2.2.1, (el Z49 r0 v10).2.2.2.2.2.2.1, (el Z49 r0 v10).2.2.2.2.2.2.2.1, y14, (el Z49 r0 v10).2.2.2.2.2.2.2.2.2)])).ap hy)) (fun e12 =>
   Owp.some (loop_exit (joint_Run_h.cok k) hmix [.dec false] [] [(0, 0), (1, 1)] (exne 0) (via (finP (And.intro trivial e12) (.exit 0) [(0, 0), (1, 1)] (joint_Run_h.c2q a1 a2 a3 r0 v11)) (by kernel_rfl)))))
noncomputable def joint_Run_h.c5p (a1 : (List V76)) (a2 : Int) (a3 : Int) (r0 : (List V49)) (v19 : Int) (v22 : Int) (v23 : (List V49)) (y26 : (V27 × (V27 × Int))) (y28 : V27) (y35 : V27) : SL := ⟨[(1, (.val (.slice T76) a1)), (2, (.val T2 a2)), (11, (.val .own (1 : Nat))), (15, (.val .ptr ⟨2, 0, (0 : Int), 0, 0⟩)), (16, (.val .ptr ⟨3, 0, (0 : Int), 0, 0⟩)), (17, (.val .ptr ⟨4, 0, (0 : Int), 0, 0⟩)), (19, (.val .ptr ⟨5, 0, (0 : Int), 0, 0⟩)), (20, (.val .ptr ⟨6, 0, (0 : Int), 0, 0⟩)), (56, (.val T2 a3)), (57, (.val T2 v19)), (59, (.val (.slice T76) a1)), (60, (.val T2 (len a1))), (61, (.val T2 v22)), (100, (.val T4 (Ty.eqb T27 y28 ((0 : Int), (0 : Int), ()))))], [(0, .row T49 r0 50), (1, .row T49 v23 50), (2, .cells T76 (el Z76 a1 v22)), (3, .cells T27 y26.1), (4, .cells T27 y26.2.1), (5, .cells T27 y28), (6, .cells T27 y35)]⟩
noncomputable def joint_Run_h.c5q (a1 : (List V76)) (a2 : Int) (a3 : Int) (r0 : (List V49)) (v19 : Int) (v22 : Int) (v23 : (List V49)) (y26 : (V27 × (V27 × Int))) (y28 : V27) (o : V27) : SL := (fun v => ⟨[(1, (.val (.slice T76) a1)), (2, (.val T2 a2)), (11, (.val .own (1 : Nat))), (15, (.val .ptr ⟨2, 0, (0 : Int), 0, 0⟩)), (16, (.val .ptr ⟨3, 0, (0 : Int), 0, 0⟩)), (17, (.val .ptr ⟨4, 0, (0 : Int), 0, 0⟩)), (19, (.val .ptr ⟨5, 0, (0 : Int), 0, 0⟩)), (20, (.val .ptr ⟨6, 0, (0 : Int), 0, 0⟩)), (56, (.val T2 a3)), (57, (.val T2 v19)), (59, (.val (.slice T76) a1)), (60, (.val T2 (len a1))), (61, (.val T2 v22))], [(0, .row T49 r0 50), (1, .row T49 v23 50), (2, .cells T76 (el Z76 a1 v22)), (3, .cells T27 y26.1), (4, .cells T27 y26.2.1), (5, .cells T27 y28), (6, .cells T27 v)]⟩) o
noncomputable def joint_Run_h.c5x (o : V27) : Ex := (fun _ => .normal) o
noncomputable def joint_Run_h.c5n (o : V27) : Nat := (fun _ => 7) o
theorem joint_Run_h.c5_ok (k : Nat) (a1 : (List V76)) (a2 : Int) (a3 : Int) (r0 : (List V49)) (v19 : Int) (v22 : Int) (v23 : (List V49)) (y26 : (V27 × (V27 × Int))) (y28 : V27) (y35 : V27) : Owp (joint_Run_h.c5 k y28 y35) fun o => Triple PR (joint_Run_h.cx k) (sub joint_Run_h.code [1, 1, 1, 1, 1, 0, 1, 0, 0, 1, 1, 0, 0, 1, 0, 0, 1, 1, 0, 0, 1, 1, 1, 1, 1, 0, 1]) 7 (joint_Run_h.c5p a1 a2 a3 r0 v19 v22 v23 y26 y28 y35) (joint_Run_h.c5x o) (joint_Run_h.c5n o) (joint_Run_h.c5q a1 a2 a3 r0 v19 v22 v23 y26 y28 o) := by
  unfold joint_Run_h.c5; exact
   Owp.bif (fun e37 =>
   Owp.some (triple_way (joint_Run_h.cok k) hmix [.dec true] [] [(0, 0), (1, 1), (2, 2), (3, 3), (4, 4), (5, 5), (6, 6)] (via (finP (And.intro trivial e37) .normal [(0, 0), (1, 1), (2, 2), (3, 3), (4, 4), (5, 5), (6, 6)] (joint_Run_h.c5q a1 a2 a3 r0 v19 v22 v23 y26 y28 ((65536 : Int), (0 : Int), ()))) (by kernel_rfl)))) (fun e37 =>
   Owp.some (triple_way (joint_Run_h.cok k) hmix [.dec false] [] [(0, 0), (1, 1), (2, 2), (3, 3), (4, 4), (5, 5), (6, 6)] (via (finP (And.intro trivial e37) .normal [(0, 0), (1, 1), (2, 2), (3, 3), (4, 4), (5, 5), (6, 6)] (joint_Run_h.c5q a1 a2 a3 r0 v19 v22 v23 y26 y28 y35)) (by kernel_rfl))))
noncomputable def joint_Run_h.c4p (a1 : (List V76)) (a2 : Int) (a3 : Int) (r0 : (List V49)) (v19 : Int) (v22 : Int) (v23 : (List V49)) : SL := ⟨[(1, (.val (.slice T76) a1)), (2, (.val T2 a2)), (11, (.val .own (1 : Nat))), (56, (.val T2 a3)), (57, (.val T2 v19)), (59, (.val (.slice T76) a1)), (60, (.val T2 (len a1))), (61, (.val T2 v22))], [(0, .row T49 r0 50), (1, .row T49 v23 50)]⟩
noncomputable def joint_Run_h.c4q (a1 : (List V76)) (a2 : Int) (a3 : Int) (r0 : (List V49)) (v19 : Int) (o : (List V49)) : SL := (fun v => ⟨[(1, (.val (.slice T76) a1)), (2, (.val T2 a2)), (11, (.val .own (1 : Nat))), (56, (.val T2 a3)), (57, (.val T2 v19))], [(0, .row T49 r0 50), (1, .row T49 v 50)]⟩) o
noncomputable def joint_Run_h.c4x (o : (List V49)) : Ex := (fun _ => (.exit 4)) o
noncomputable def joint_Run_h.c4n (o : (List V49)) : Nat := (fun _ => 2) o
theorem joint_Run_h.c4_ok (k : Nat) (a1 : (List V76)) (a2 : Int) (a3 : Int) (r0 : (List V49)) (v19 : Int) : ∀ (n : Nat) (v22 : Int) (v23 : (List V49)), Owp (joint_Run_h.c4 k a1 a2 n v22 v23) fun o => LTriple PR (joint_Run_h.cx k) (sub joint_Run_h.code [1, 1, 1, 1, 1, 0, 1, 0, 0, 1, 1, 0, 0, 1, 0, 0]) 2 (joint_Run_h.c4p a1 a2 a3 r0 v19 v22 v23) (joint_Run_h.c4x o) (joint_Run_h.c4n o) (joint_Run_h.c4q a1 a2 a3 r0 v19 o)
  | 0, _, _ => fun _ h => nomatch h
  | n + 1, v22, v23 => Owp.of (joint_Run_h.c4.eq_2 ..) (
   Owp.bif (fun e24 =>
   Owp.req fun h25 =>
    Owp.bnd fun y26 e27 =>
    Owp.bnd fun y28 e29 =>
    Owp.bif (fun e30 =>
    Owp.bnd fun y31 e32 =>
     Owp.bnd fun y33 e34 =>
     fun y hy => loop_back (joint_Run_h.cok k) hmix 2 (joint_Run_h.c4p a1 a2 a3 r0 v19 (iadd .i64 v22 (1 : Int)) y33) [.dec true, .res (.more (.dp T27) (.more (.dp T27) (.one (.dp T2)))) y26, .res (.one (.dp T27)) y28, .dec true, .hres [(0, 1)] (.pair T76 (.pair T27 (.pair T27 (.pair T27 (.pair T2 (.pair T2 (.pair (.slice T49) .unit))))))) ((el Z76 a1 v22), y26.1, y26.2.1, ((65536 : Int), (0 : Int), ()), y28.1, a2, v23, ()) (.slice T49) y31, .hres [(0, 1)] (.pair T76 (.pair T27 (.pair T27 (.pair T27 (.pair T2 (.pair T2 (.pair (.slice T49) .unit))))))) ((el Z76 a1 v22), y26.1, y26.2.1, ((0 : Int), (65536 : Int), ()), y28.2.1, a2, y31, ()) (.slice T49) y33] [] [(0, 0), (1, 1)] (via (finP (And.intro (And.intro (And.intro (And.intro (And.intro (And.intro (And.intro trivial e24) h25) e27) e29) e30) (callHP (joint_pull.h k) [(0, 1)] ((el Z76 a1 v22), y26.1, y26.2.1, ((65536 : Int), (0 : Int), ()), y28.1, a2, v23, ()) e32)) (callHP (joint_pull.h k) [(0, 1)] ((el Z76 a1 v22), y26.1, y26.2.1, ((0 : Int), (65536 : Int), ()), y28.2.1, a2, y31, ()) e34)) .normal [(0, 0), (1, 1)] (joint_Run_h.c4p a1 a2 a3 r0 v19 (iadd .i64 v22 (1 : Int)) y33)) (by kernel_rfl)) ((joint_Run_h.c4_ok k a1 a2 a3 r0 v19 n (iadd .i64 v22 (1 : Int)) y33).ap hy)) (fun e30 =>
    Owp.bnd fun y35 e36 =>
     Owp.bnd fun o38 e39 =>
     Owp.bnd fun y40 e41 =>
     Owp.bnd fun y42 e43 =>
     fun y hy => loop_back (joint_Run_h.cok k) hmix 2 (joint_Run_h.c4p a1 a2 a3 r0 v19 (iadd .i64 v22 (1 : Int)) y42) [.dec true, .res (.more (.dp T27) (.more (.dp T27) (.one (.dp T2)))) y26, .res (.one (.dp T27)) y28, .dec false, .res (.one (.dp T27)) y35, .cut ⟨[], [(0, 0), (1, 1), (2, 5), (3, 14), (4, 15), (5, 22), (6, 29)], (joint_Run_h.c5p a1 a2 a3 r0 v19 v22 v23 y26 y28 y35), 7, .normal, (joint_Run_h.c5q a1 a2 a3 r0 v19 v22 v23 y26 y28 o38), 7⟩, .res (.one (.dp T2)) y40, .hres [(0, 1)] (.pair T76 (.pair T27 (.pair T27 (.pair T27 (.pair T2 (.pair T2 (.pair (.slice T49) .unit))))))) ((el Z76 a1 v22), y26.1, y26.2.1, o38, (isub .i64 y40 (el Z76 a1 v22).2.2.2.2.1), a2, v23, ()) (.slice T49) y42] [] [(0, 0), (1, 1)] (via (cutP (And.intro (And.intro (And.intro (And.intro (And.intro (And.intro trivial e24) h25) e27) e29) e30) e36) [(0, 0), (1, 1), (2, 5), (3, 14), (4, 15), (5, 22), (6, 29)] (joint_Run_h.c5p a1 a2 a3 r0 v19 v22 v23 y26 y28 y35) (((joint_Run_h.c5_ok k a1 a2 a3 r0 v19 v22 v23 y26 y28 y35).ap e39)) (finP (And.intro (And.intro trivial e41) (callHP (joint_pull.h k) [(0, 1)] ((el Z76 a1 v22), y26.1, y26.2.1, o38, (isub .i64 y40 (el Z76 a1 v22).2.2.2.2.1), a2, v23, ()) e43)) .normal [(0, 0), (1, 1)] (joint_Run_h.c4p a1 a2 a3 r0 v19 (iadd .i64 v22 (1 : Int)) y42))) (by kernel_rfl)) ((joint_Run_h.c4_ok k a1 a2 a3 r0 v19 n (iadd .i64 v22 (1 : Int)) y42).ap hy))) (fun e24 =>
   Owp.some (loop_exit (joint_Run_h.cok k) hmix [.dec false] [] [(0, 0), (1, 1)] (exne 4) (via (finP (And.intro trivial e24) (.exit 4) [(0, 0), (1, 1)] (joint_Run_h.c4q a1 a2 a3 r0 v19 v23)) (by kernel_rfl)))))
noncomputable def joint_Run_h.c3p (a1 : (List V76)) (a2 : Int) (a3 : Int) (r0 : (List V49)) (v19 : Int) (v20 : (List V49)) : SL := ⟨[(1, (.val (.slice T76) a1)), (2, (.val T2 a2)), (11, (.val .own (1 : Nat))), (56, (.val T2 a3)), (57, (.val T2 v19))], [(0, .row T49 r0 50), (1, .row T49 v20 50)]⟩
noncomputable def joint_Run_h.c3q (r0 : (List V49)) (o : (List V49)) : SL := (fun v => ⟨[(11, (.val .own (1 : Nat)))], [(0, .row T49 r0 50), (1, .row T49 v 50)]⟩) o
noncomputable def joint_Run_h.c3x (o : (List V49)) : Ex := (fun _ => (.exit 2)) o
noncomputable def joint_Run_h.c3n (o : (List V49)) : Nat := (fun _ => 2) o
theorem joint_Run_h.c3_ok (k : Nat) (a1 : (List V76)) (a2 : Int) (a3 : Int) (r0 : (List V49)) : ∀ (n : Nat) (v19 : Int) (v20 : (List V49)), Owp (joint_Run_h.c3 k a1 a2 a3 n v19 v20) fun o => LTriple PR (joint_Run_h.cx k) (sub joint_Run_h.code [1, 1, 1, 1, 1, 0, 1, 0, 0]) 2 (joint_Run_h.c3p a1 a2 a3 r0 v19 v20) (joint_Run_h.c3x o) (joint_Run_h.c3n o) (joint_Run_h.c3q r0 o)
  | 0, _, _ => fun _ h => nomatch h
  | n + 1, v19, v20 => Owp.of (joint_Run_h.c3.eq_2 ..) (
   Owp.bif (fun e21 =>
   Owp.bnd fun o44 e45 =>
    fun y hy => loop_back (joint_Run_h.cok k) hmix 2 (joint_Run_h.c3p a1 a2 a3 r0 (iadd .i64 v19 (1 : Int)) o44) [.dec true, .cut ⟨[], [(0, 0), (1, 1)], (joint_Run_h.c4p a1 a2 a3 r0 v19 (0 : Int) v20), 2, (.exit 4), (joint_Run_h.c4q a1 a2 a3 r0 v19 o44), 2⟩] [] [(0, 0), (1, 1)] (via (cutP (And.intro trivial e21) [(0, 0), (1, 1)] (joint_Run_h.c4p a1 a2 a3 r0 v19 (0 : Int) v20) (((joint_Run_h.c4_ok k a1 a2 a3 r0 v19 k (0 : Int) v20).ap e45).triple) (finP trivial .normal [(0, 0), (1, 1)] (joint_Run_h.c3p a1 a2 a3 r0 (iadd .i64 v19 (1 : Int)) o44))) (by kernel_rfl)) ((joint_Run_h.c3_ok k a1 a2 a3 r0 n (iadd .i64 v19 (1 : Int)) o44).ap hy)) (fun e21 =>
   Owp.some (loop_exit (joint_Run_h.cok k) hmix [.dec false] [] [(0, 0), (1, 1)] (exne 2) (via (finP (And.intro trivial e21) (.exit 2) [(0, 0), (1, 1)] (joint_Run_h.c3q r0 v20)) (by kernel_rfl)))))
@[irreducible] noncomputable def joint_Run_h.P (k : Nat) (a1 : (List V76)) (a2 : Int) (a3 : Int) (r0 : (List V49)) (y : ((List V49) × Int)) (answers : List Ans) (cmds : List Cmd) : Prop := exec PR (joint_Run_h.cx k) joint_Run_h.code 1 (entryH (joint_Run_h.h k) (a1, a2, a3, r0, ())).st answers (RetH (joint_Run_h.cx k) Try.f56 cmds (joint_Run_h.h k) (a1, a2, a3, r0, ()) y)
theorem joint_Run_h.way (k : Nat) (a1 : (List V76)) (a2 : Int) (a3 : Int) (r0 : (List V49)) : Owp (joint_Run_h k a1 a2 a3 r0) fun y => ∃ answers cmds, joint_Run_h.P k a1 a2 a3 r0 y answers cmds := by
  unfold joint_Run_h; exact
   Owp.bnd fun y1 e2 =>
   Owp.bif (fun e3 =>
   Owp.some (⟨[.res (.one (.dp T2)) y1, .dec true], [.deep 8 T49], via (rethP (And.intro (And.intro trivial e2) e3) [(0, .row T49 r0 50)] (.more (.dp (.slice T49)) (.one (.dp T2))) (([], y1) : ((List V49) × Int))) (by kernel_rfl)⟩)) (fun e3 =>
   Owp.bnd fun o7 e8 =>
    Owp.bif (fun e9 =>
    Owp.some (⟨[.res (.one (.dp T2)) y1, .dec false, .cutR 4 ⟨[], [(0, 0)], (joint_Run_h.c1p a1 a2 a3 r0), 1, .normal, (joint_Run_h.c1q a1 a2 a3 r0 o7), 1⟩, .dec true], [.deep 8 T49], via (cutP (And.intro (And.intro trivial e2) e3) [(0, 0)] (joint_Run_h.c1p a1 a2 a3 r0) (((joint_Run_h.c1_ok k a1 a2 a3 r0).ap e8)) (rethP (And.intro trivial e9) [(0, .row T49 r0 50)] (.more (.dp (.slice T49)) (.one (.dp T2))) (([], (1 : Int)) : ((List V49) × Int)))) (by kernel_rfl)⟩)) (fun e9 =>
    Owp.bnd fun o17 e18 =>
     Owp.bnd fun o46 e47 =>
     Owp.some (⟨[.res (.one (.dp T2)) y1, .dec false, .cutR 4 ⟨[], [(0, 0)], (joint_Run_h.c1p a1 a2 a3 r0), 1, .normal, (joint_Run_h.c1q a1 a2 a3 r0 o7), 1⟩, .dec false, .cut ⟨[.own 11 T49 50], [(0, 0), (1, 5)], (joint_Run_h.c2p a1 a2 a3 r0 (0 : Int) []), 2, (.exit 0), (joint_Run_h.c2q a1 a2 a3 r0 o17), 2⟩, .cut ⟨[], [(0, 0), (1, 1)], (joint_Run_h.c3p a1 a2 a3 r0 (0 : Int) o17), 2, (.exit 2), (joint_Run_h.c3q r0 o46), 2⟩], [.freeze 8], via (cutP (And.intro (And.intro trivial e2) e3) [(0, 0)] (joint_Run_h.c1p a1 a2 a3 r0) (((joint_Run_h.c1_ok k a1 a2 a3 r0).ap e8)) (cutP (And.intro trivial e9) [(0, 0), (1, 5)] (joint_Run_h.c2p a1 a2 a3 r0 (0 : Int) []) (((joint_Run_h.c2_ok k a1 a2 a3 r0 k (0 : Int) []).ap e18).triple) (cutP trivial [(0, 0), (1, 1)] (joint_Run_h.c3p a1 a2 a3 r0 (0 : Int) o17) (((joint_Run_h.c3_ok k a1 a2 a3 r0 k (0 : Int) o17).ap e47).triple) (rethP trivial [(0, .row T49 r0 50)] (.more (.dp (.slice T49)) (.one (.dp T2))) ((o46, (0 : Int)) : ((List V49) × Int)))))) (by kernel_rfl)⟩)))
theorem joint_Run_h.ok (k : Nat) : HOk PR 56 (joint_Run_h.h k) :=
  fnH_ok (joint_Run_h.cok k) hmix Try.func56 (code := joint_Run_h.code) (by kernel_rfl) (by kernel_rfl) (by kernel_rfl) (by kernel_rfl) (by kernel_rfl) (fun x => Nat.le_of_ble_eq_true (by kernel_rfl)) fun x y hy => match (joint_Run_h.way k x.1 x.2.1 x.2.2.1 x.2.2.2.1).ap hy with | ⟨ans, cmds, h⟩ => ⟨ans, cmds, via h (by kernel_rfl)⟩

/-! tourney/joint.Gap -/
noncomputable def joint_Gap.code : Code := Func.cd Try.f52
def joint_Gap (k : Nat) (a0 : (List V49)) (a1 : V76) : Option (Int × Int) :=
  bnd (joint_Ends k a0 a1) fun y1 =>
  bif' (ine y1.2.2 0)
  (some (0, y1.2.2))
  (bnd (vec_Sub k y1.2.1 y1.1) fun y4 =>
   bnd (vec_Len k y4) fun y6 =>
   some ((imax (isub .i64 y6 a1.2.2.2.2.1) (ineg .i64 (isub .i64 y6 a1.2.2.2.2.1))), 0))
noncomputable def joint_Gap.sp (k : Nat) : Go.Sx.Spec := ⟨(.pair (.slice T49) (.pair T76 .unit)), (.more (.dp T2) (.one (.dp T2))), fun x => joint_Gap k x.1 x.2.1, false⟩
noncomputable def joint_Gap.cx (k : Nat) : Go.Sx.Ctx := ⟨tys, [(51, joint_Ends.sp k), (55, vec_Sub.sp k), (54, vec_Len.sp k)], eqs, 31, 0, [], false⟩
theorem joint_Gap.cok (k : Nat) : CtxOk PR (joint_Gap.cx k) := ctx_ok tysOk eqsOk (FnsOk.cons (joint_Ends.ok k) (FnsOk.cons (vec_Sub.ok k) (FnsOk.cons (vec_Len.ok k) FnsOk.nil))) HsOk.nil
theorem joint_Gap.way (k : Nat) (a0 : (List V49)) (a1 : V76) : Owp (joint_Gap k a0 a1) fun y => ∃ answers cmds, exec PR (joint_Gap.cx k) joint_Gap.code 0 (entry (.pair (.slice T49) (.pair T76 .unit)) (a0, a1, ())).st answers (Ret (joint_Gap.cx k) Try.f52 cmds (.more (.dp T2) (.one (.dp T2))) y) := by
  unfold joint_Gap; exact
   Owp.bnd fun y1 e2 =>
   Owp.bif (fun e3 =>
   Owp.some (⟨[.res (.more (.dp T27) (.more (.dp T27) (.one (.dp T2)))) y1, .dec true], [], via (retP (And.intro (And.intro trivial e2) e3) (.more (.dp T2) (.one (.dp T2))) (((0 : Int), y1.2.2) : (Int × Int))) (by kernel_rfl)⟩)) (fun e3 =>
   Owp.bnd fun y4 e5 =>
    Owp.bnd fun y6 e7 =>
    Owp.some (⟨[.res (.more (.dp T27) (.more (.dp T27) (.one (.dp T2)))) y1, .dec false, .res (.one (.dp T27)) y4, .res (.one (.dp T2)) y6], [], via (retP (And.intro (And.intro (And.intro (And.intro trivial e2) e3) e5) e7) (.more (.dp T2) (.one (.dp T2))) (((imax (isub .i64 y6 a1.2.2.2.2.1) (ineg .i64 (isub .i64 y6 a1.2.2.2.2.1))), (0 : Int)) : (Int × Int))) (by kernel_rfl)⟩))
theorem joint_Gap.ok (k : Nat) : FnOk PR 52 (joint_Gap.sp k) :=
  fn_ok (joint_Gap.cok k) hmix Try.func52 (code := joint_Gap.code) (by kernel_rfl) (by kernel_rfl) (by kernel_rfl) rfl rfl (by kernel_rfl) (by kernel_rfl) (by kernel_rfl) (fun x => Nat.le_of_ble_eq_true (by kernel_rfl)) fun x y hy => (joint_Gap.way k x.1 x.2.1).ap hy

/-! slices.EqualFunc[[]tourney/api.Body,[]tourney/api.Body,tourney/api.Body,tourney/api.Body] -/
noncomputable def slices_EqualFunc.code : Code := Func.cd Try.f62
def slices_EqualFunc.c1 (k : Nat) (a0 : (List V49)) (a1 : (List V49)) (a2 : ((V49 × (V49 × Unit)) → Option Bool)) : Nat → Int → Option (Unit ⊕ Unit)
  | 0, _ => none
  | n + 1, v2 =>
   bif' (ilt v2 (len a0))
   (req (inL v2 a0) <|
    req (inL v2 a1) <|
    bnd (a2 ((el Z49 a0 v2), (el Z49 a1 v2), ())) fun y6 =>
    bif' y6
    (slices_EqualFunc.c1 k a0 a1 a2 n (iadd .i64 v2 1))
    (some (.inl ())))
   (some (.inr ()))
def slices_EqualFunc (k : Nat) (a0 : (List V49)) (a1 : (List V49)) (a2 : ((V49 × (V49 × Unit)) → Option Bool)) : Option Bool :=
  bif' (ine (len a0) (len a1))
  (some false)
  (bnd (slices_EqualFunc.c1 k a0 a1 a2 k 0) fun o9 =>
   two o9 (fun y11 =>
   some false) (fun y13 =>
   some true))
noncomputable def slices_EqualFunc.sp (k : Nat) : Go.Sx.Spec := ⟨(.pair (.slice T49) (.pair (.slice T49) (.pair (.fn (.pair T49 (.pair T49 .unit)) T4) .unit))), (.one (.dp T4)), fun x => slices_EqualFunc k x.1 x.2.1 x.2.2.1, false⟩
noncomputable def slices_EqualFunc.cx (k : Nat) : Go.Sx.Ctx := ⟨tys, [], eqs, 32, 0, [], false⟩
theorem slices_EqualFunc.cok (k : Nat) : CtxOk PR (slices_EqualFunc.cx k) := ctx_ok tysOk eqsOk FnsOk.nil HsOk.nil
noncomputable def slices_EqualFunc.c1p (a0 : (List V49)) (a1 : (List V49)) (a2 : ((V49 × (V49 × Unit)) → Option Bool)) (v2 : Int) : SL := ⟨[(1, (.val (.slice T49) a1)), (2, (.val (.fn (.pair T49 (.pair T49 .unit)) T4) a2)), (15, (.val (.slice T49) a0)), (16, (.val T2 (len a0))), (17, (.val T2 v2))], []⟩
noncomputable def slices_EqualFunc.c1q (o : Unit ⊕ Unit) : SL := (fun o => two o (fun v => ⟨[(6, (.val T4 false))], []⟩) (fun v => ⟨[], []⟩)) o
noncomputable def slices_EqualFunc.c1x (o : Unit ⊕ Unit) : Ex := (fun o => two o (fun _ => .ret) (fun _ => (.exit 0))) o
noncomputable def slices_EqualFunc.c1n (o : Unit ⊕ Unit) : Nat := (fun o => two o (fun _ => 0) (fun _ => 0)) o
theorem slices_EqualFunc.c1_ok (k : Nat) (a0 : (List V49)) (a1 : (List V49)) (a2 : ((V49 × (V49 × Unit)) → Option Bool)) : ∀ (n : Nat) (v2 : Int), Owp (slices_EqualFunc.c1 k a0 a1 a2 n v2) fun o => LTriple PR (slices_EqualFunc.cx k) (sub slices_EqualFunc.code [1, 1, 0, 1, 0, 0]) 0 (slices_EqualFunc.c1p a0 a1 a2 v2) (slices_EqualFunc.c1x o) (slices_EqualFunc.c1n o) (slices_EqualFunc.c1q o)
  | 0, _ => fun _ h => nomatch h
  | n + 1, v2 => Owp.of (slices_EqualFunc.c1.eq_2 ..) (
   Owp.bif (fun e3 =>
   Owp.req fun h4 =>
    Owp.req fun h5 =>
    Owp.bnd fun y6 e7 =>
    Owp.bif (fun e8 =>
    fun y hy => loop_back (slices_EqualFunc.cok k) hmix 0 (slices_EqualFunc.c1p a0 a1 a2 (iadd .i64 v2 (1 : Int))) [.dec true, .res (.one (.dp T4)) y6, .dec false] [] [] (via (finP (And.intro (And.intro (And.intro (And.intro (And.intro trivial e3) h4) h5) e7) (congrArg not e8)) .normal [] (slices_EqualFunc.c1p a0 a1 a2 (iadd .i64 v2 (1 : Int)))) (by kernel_rfl)) ((slices_EqualFunc.c1_ok k a0 a1 a2 n (iadd .i64 v2 (1 : Int))).ap hy)) (fun e8 =>
    Owp.some (loop_exit (slices_EqualFunc.cok k) hmix [.dec true, .res (.one (.dp T4)) y6, .dec true] [] [] exne_ret (via (finP (And.intro (And.intro (And.intro (And.intro (And.intro trivial e3) h4) h5) e7) (congrArg not e8)) .ret [] (slices_EqualFunc.c1q (.inl ()))) (by kernel_rfl))))) (fun e3 =>
   Owp.some (loop_exit (slices_EqualFunc.cok k) hmix [.dec false] [] [] (exne 0) (via (finP (And.intro trivial e3) (.exit 0) [] (slices_EqualFunc.c1q (.inr ()))) (by kernel_rfl)))))
theorem slices_EqualFunc.way (k : Nat) (a0 : (List V49)) (a1 : (List V49)) (a2 : ((V49 × (V49 × Unit)) → Option Bool)) : Owp (slices_EqualFunc k a0 a1 a2) fun y => ∃ answers cmds, exec PR (slices_EqualFunc.cx k) slices_EqualFunc.code 0 (entry (.pair (.slice T49) (.pair (.slice T49) (.pair (.fn (.pair T49 (.pair T49 .unit)) T4) .unit))) (a0, a1, a2, ())).st answers (Ret (slices_EqualFunc.cx k) Try.f62 cmds (.one (.dp T4)) y) := by
  unfold slices_EqualFunc; exact
   Owp.bif (fun e1 =>
   Owp.some (⟨[.dec true], [], via (retP (And.intro trivial e1) (.one (.dp T4)) (false : Bool)) (by kernel_rfl)⟩)) (fun e1 =>
   Owp.bnd fun o9 e10 =>
    Owp.two (fun y11 e12 =>
    Owp.some (⟨[.dec false, .cut ⟨[], [], (slices_EqualFunc.c1p a0 a1 a2 (0 : Int)), 0, .ret, (slices_EqualFunc.c1q (.inl ())), 0⟩], [], via (cutP (And.intro trivial e1) [] (slices_EqualFunc.c1p a0 a1 a2 (0 : Int)) (((slices_EqualFunc.c1_ok k a0 a1 a2 k (0 : Int)).ap (e10.trans (congrArg some e12))).triple) (retP trivial (.one (.dp T4)) (false : Bool))) (by kernel_rfl)⟩)) (fun y13 e14 =>
    Owp.some (⟨[.dec false, .cut ⟨[], [], (slices_EqualFunc.c1p a0 a1 a2 (0 : Int)), 0, (.exit 0), (slices_EqualFunc.c1q (.inr ())), 0⟩], [], via (cutP (And.intro trivial e1) [] (slices_EqualFunc.c1p a0 a1 a2 (0 : Int)) (((slices_EqualFunc.c1_ok k a0 a1 a2 k (0 : Int)).ap (e10.trans (congrArg some e14))).triple) (retP trivial (.one (.dp T4)) (true : Bool))) (by kernel_rfl)⟩)))
theorem slices_EqualFunc.ok (k : Nat) : FnOk PR 62 (slices_EqualFunc.sp k) :=
  fn_ok (slices_EqualFunc.cok k) hmix Try.func62 (code := slices_EqualFunc.code) (by kernel_rfl) (by kernel_rfl) (by kernel_rfl) rfl rfl (by kernel_rfl) (by kernel_rfl) (by kernel_rfl) (fun x => Nat.le_of_ble_eq_true (by kernel_rfl)) fun x y hy => (slices_EqualFunc.way k x.1 x.2.1 x.2.2.1).ap hy

end Go.Proofs.T1
