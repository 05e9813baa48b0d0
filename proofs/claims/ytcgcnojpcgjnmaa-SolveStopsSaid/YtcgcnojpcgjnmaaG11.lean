import Derived.Test.YtcgcnojpcgjnmaaG0
import Derived.Test.YtcgcnojpcgjnmaaG2
import Derived.Test.YtcgcnojpcgjnmaaG3
import Derived.Test.YtcgcnojpcgjnmaaG7
import Derived.Test.YtcgcnojpcgjnmaaG8
namespace Go.Proofs.T1
open Go Go.Sx Go.Proofs
set_option maxRecDepth 100000
set_option linter.unusedVariables false
/-! tourney/keep.Check -/
noncomputable def keep_Check.code : Code := Func.cd Try.f121
def keep_Check.c1 (k : Nat) (a0 : (List V25)) : Nat → Int → Option (Int ⊕ Unit)
  | 0, _ => none
  | n + 1, v2 =>
   bif' (ilt v2 (len a0))
   (req (inL v2 a0) <|
    bnd (body_Check k (el Z25 a0 v2)) fun y5 =>
    bif' (ine y5 0)
    (some (.inl y5))
    (keep_Check.c1 k a0 n (iadd .i64 v2 1)))
   (some (.inr ()))
def keep_Check (k : Nat) (a0 : (List V25)) : Option Int :=
  bif' (igt (len a0) 64)
  (some 2)
  (bnd (keep_Check.c1 k a0 k 0) fun o8 =>
   two o8 (fun y10 =>
   some y10) (fun y12 =>
   some 0))
noncomputable def keep_Check.sp (k : Nat) : Go.Sx.Spec := ⟨(.pair (.slice T25) .unit), (.one (.dp T2)), fun x => keep_Check k x.1, false⟩
noncomputable def keep_Check.cx (k : Nat) : Go.Sx.Ctx := ⟨tys, [(41, body_Check.sp k)], eqs, 21, 0, [], false⟩
theorem keep_Check.cok (k : Nat) : CtxOk PR (keep_Check.cx k) := ctx_ok tysOk eqsOk (FnsOk.cons (body_Check.ok k) FnsOk.nil) HsOk.nil
noncomputable def keep_Check.c1p (a0 : (List V25)) (v2 : Int) : SL := ⟨[(9, (.val (.slice T25) a0)), (10, (.val T2 (len a0))), (11, (.val T2 v2))], []⟩
noncomputable def keep_Check.c1q (o : Int ⊕ Unit) : SL := (fun o => two o (fun v => ⟨[(2, (.val T2 v))], []⟩) (fun v => ⟨[], []⟩)) o
noncomputable def keep_Check.c1x (o : Int ⊕ Unit) : Ex := (fun o => two o (fun _ => .ret) (fun _ => (.exit 0))) o
noncomputable def keep_Check.c1n (o : Int ⊕ Unit) : Nat := (fun o => two o (fun _ => 0) (fun _ => 0)) o
theorem keep_Check.c1_ok (k : Nat) (a0 : (List V25)) : ∀ (n : Nat) (v2 : Int), Owp (keep_Check.c1 k a0 n v2) fun o => LTriple PR (keep_Check.cx k) (sub keep_Check.code [1, 1, 0, 1, 0, 0]) 0 (keep_Check.c1p a0 v2) (keep_Check.c1x o) (keep_Check.c1n o) (keep_Check.c1q o)
  | 0, _ => fun _ h => nomatch h
  | n + 1, v2 => Owp.of (keep_Check.c1.eq_2 ..) (
   Owp.bif (fun e3 =>
   Owp.req fun h4 =>
    Owp.bnd fun y5 e6 =>
    Owp.bif (fun e7 =>
    Owp.some (loop_exit (keep_Check.cok k) hmix [.dec true, .res (.one (.dp T2)) y5, .dec true] [] [] exne_ret (via (finP (And.intro (And.intro (And.intro (And.intro trivial e3) h4) e6) e7) .ret [] (keep_Check.c1q (.inl y5))) (by kernel_rfl)))) (fun e7 =>
    fun y hy => loop_back (keep_Check.cok k) hmix 0 (keep_Check.c1p a0 (iadd .i64 v2 (1 : Int))) [.dec true, .res (.one (.dp T2)) y5, .dec false] [] [] (via (finP (And.intro (And.intro (And.intro (And.intro trivial e3) h4) e6) e7) .normal [] (keep_Check.c1p a0 (iadd .i64 v2 (1 : Int)))) (by kernel_rfl)) ((keep_Check.c1_ok k a0 n (iadd .i64 v2 (1 : Int))).ap hy))) (fun e3 =>
   Owp.some (loop_exit (keep_Check.cok k) hmix [.dec false] [] [] (exne 0) (via (finP (And.intro trivial e3) (.exit 0) [] (keep_Check.c1q (.inr ()))) (by kernel_rfl)))))
theorem keep_Check.way (k : Nat) (a0 : (List V25)) : Owp (keep_Check k a0) fun y => ∃ answers cmds, exec PR (keep_Check.cx k) keep_Check.code 0 (entry (.pair (.slice T25) .unit) (a0, ())).st answers (Ret (keep_Check.cx k) Try.f121 cmds (.one (.dp T2)) y) := by
  unfold keep_Check; exact
   Owp.bif (fun e1 =>
   Owp.some (⟨[.dec true], [], via (retP (And.intro trivial e1) (.one (.dp T2)) ((2 : Int) : Int)) (by kernel_rfl)⟩)) (fun e1 =>
   Owp.bnd fun o8 e9 =>
    Owp.two (fun y10 e11 =>
    Owp.some (⟨[.dec false, .cut ⟨[], [], (keep_Check.c1p a0 (0 : Int)), 0, .ret, (keep_Check.c1q (.inl y10)), 0⟩], [], via (cutP (And.intro trivial e1) [] (keep_Check.c1p a0 (0 : Int)) (((keep_Check.c1_ok k a0 k (0 : Int)).ap (e9.trans (congrArg some e11))).triple) (retP trivial (.one (.dp T2)) (y10 : Int))) (by kernel_rfl)⟩)) (fun y12 e13 =>
    Owp.some (⟨[.dec false, .cut ⟨[], [], (keep_Check.c1p a0 (0 : Int)), 0, (.exit 0), (keep_Check.c1q (.inr ())), 0⟩], [], via (cutP (And.intro trivial e1) [] (keep_Check.c1p a0 (0 : Int)) (((keep_Check.c1_ok k a0 k (0 : Int)).ap (e9.trans (congrArg some e13))).triple) (retP trivial (.one (.dp T2)) ((0 : Int) : Int))) (by kernel_rfl)⟩)))
theorem keep_Check.ok (k : Nat) : FnOk PR 121 (keep_Check.sp k) :=
  fn_ok (keep_Check.cok k) hmix Try.func121 (code := keep_Check.code) (by kernel_rfl) (by kernel_rfl) (by kernel_rfl) rfl rfl (by kernel_rfl) (by kernel_rfl) (by kernel_rfl) (fun x => Nat.le_of_ble_eq_true (by kernel_rfl)) fun x y hy => (keep_Check.way k x.1).ap hy

/-! tourney/solve.Check$1 -/
noncomputable def solve_Check_1.code : Code := Func.cd Try.f152
def solve_Check_1 (k : Nat) (a0 : Int) (a1 : Int) (a2 : Int) : Option Bool :=
  bif' (ige a0 a1)
  (some (ile a0 a2))
  (some false)
noncomputable def solve_Check_1.sp (k : Nat) : Go.Sx.Spec := ⟨(.pair T2 T22), (.one (.dp T4)), fun x => solve_Check_1 k x.1 x.2.1 x.2.2.1, false⟩
noncomputable def solve_Check_1.cx (k : Nat) : Go.Sx.Ctx := ⟨tys, [], eqs, 15, 0, [], false⟩
theorem solve_Check_1.cok (k : Nat) : CtxOk PR (solve_Check_1.cx k) := ctx_ok tysOk eqsOk FnsOk.nil HsOk.nil
theorem solve_Check_1.way (k : Nat) (a0 : Int) (a1 : Int) (a2 : Int) : Owp (solve_Check_1 k a0 a1 a2) fun y => ∃ answers cmds, exec PR (solve_Check_1.cx k) solve_Check_1.code 0 (entry (.pair T2 T22) (a0, a1, a2, ())).st answers (Ret (solve_Check_1.cx k) Try.f152 cmds (.one (.dp T4)) y) := by
  unfold solve_Check_1; exact
   Owp.bif (fun e1 =>
   Owp.some (⟨[.dec true, .dec true, .dec true, .dec true], [], via (retP (And.intro (And.intro (And.intro (And.intro trivial e1) e1) e1) e1) (.one (.dp T4)) ((ile a0 a2) : Bool)) (by kernel_rfl)⟩)) (fun e1 =>
   Owp.some (⟨[.dec false, .dec false, .dec false, .dec false], [], via (retP (And.intro (And.intro (And.intro (And.intro trivial e1) e1) e1) e1) (.one (.dp T4)) (false : Bool)) (by kernel_rfl)⟩))
theorem solve_Check_1.ok (k : Nat) : FnOk PR 152 (solve_Check_1.sp k) :=
  fn_ok (solve_Check_1.cok k) hmix Try.func152 (code := solve_Check_1.code) (by kernel_rfl) (by kernel_rfl) (by kernel_rfl) rfl rfl (by kernel_rfl) (by kernel_rfl) (by kernel_rfl) (fun x => Nat.le_of_ble_eq_true (by kernel_rfl)) fun x y hy => (solve_Check_1.way k x.1 x.2.1 x.2.2.1).ap hy

/-! tourney/solve.Check -/
noncomputable def solve_Check.code : Code := Func.cd Try.f76
def solve_Check.c2 (k : Nat) (a0 : (List V25)) (a1 : (List V78)) (v5 : Int) : Option (Bool) :=
  bnd (solve_Check_1 k (el Z78 a1 v5).1 0 (isub .i64 (len a0) 1)) fun y8 =>
  bif' y8
  (bnd (solve_Check_1 k (el Z78 a1 v5).2.1 0 (isub .i64 (len a0) 1)) fun y11 =>
   bif' y11
   (bif' (ige (el Z78 a1 v5).1 (el Z78 a1 v5).2.1)
    (some true)
    (some (ilt (el Z78 a1 v5).2.2.1 0)))
   (some true))
  (some true)
def solve_Check.c3 (k : Nat) (a1 : (List V78)) (v5 : Int) : Option (Bool) :=
  bnd (solve_Check_1 k (el Z78 a1 v5).2.2.2.1.1 (-65536000) 65536000) fun y18 =>
  bif' y18
  (bnd (solve_Check_1 k (el Z78 a1 v5).2.2.2.1.2.1 (-65536000) 65536000) fun y21 =>
   bif' y21
   (bnd (solve_Check_1 k (el Z78 a1 v5).2.2.2.2.1.1 (-65536) 65536) fun y24 =>
    bif' y24
    (bnd (solve_Check_1 k (el Z78 a1 v5).2.2.2.2.1.2.1 (-65536) 65536) fun y27 =>
     some (!y27))
    (some true))
   (some true))
  (some true)
def solve_Check.c4 (k : Nat) (a1 : (List V78)) (v5 : Int) : Option (Bool) :=
  bnd (solve_Check_1 k (el Z78 a1 v5).2.2.2.2.2.1 0 65536000) fun y32 =>
  bif' y32
  (bnd (solve_Check_1 k (el Z78 a1 v5).2.2.2.2.2.2.1 0 1099511627776) fun y35 =>
   bif' y35
   (bnd (solve_Check_1 k (el Z78 a1 v5).2.2.2.2.2.2.2.1 (-1099511627776) 1099511627776) fun y38 =>
    some (!y38))
   (some true))
  (some true)
def solve_Check.c1 (k : Nat) (a0 : (List V25)) (a1 : (List V78)) : Nat → Int → Option (Unit ⊕ Unit)
  | 0, _ => none
  | n + 1, v5 =>
   bif' (ilt v5 (len a1))
   (req (inL v5 a1) <|
    bnd (solve_Check.c2 k a0 a1 v5) fun o15 =>
    bif' o15
    (some (.inl ()))
    (bnd (solve_Check.c3 k a1 v5) fun o29 =>
     bif' o29
     (some (.inl ()))
     (bnd (solve_Check.c4 k a1 v5) fun o40 =>
      bif' o40
      (some (.inl ()))
      (solve_Check.c1 k a0 a1 n (iadd .i64 v5 1)))))
   (some (.inr ()))
def solve_Check (k : Nat) (a0 : (List V25)) (a1 : (List V78)) : Option Int :=
  bnd (keep_Check k a0) fun y1 =>
  bif' (ine y1 0)
  (some y1)
  (bif' (igt (len a1) 4096)
   (some 2)
   (bnd (solve_Check.c1 k a0 a1 k 0) fun o43 =>
    two o43 (fun y45 =>
    some 1) (fun y47 =>
    some 0)))
noncomputable def solve_Check.sp (k : Nat) : Go.Sx.Spec := ⟨(.pair (.slice T25) (.pair (.slice T78) .unit)), (.one (.dp T2)), fun x => solve_Check k x.1 x.2.1, false⟩
noncomputable def solve_Check.cx (k : Nat) : Go.Sx.Ctx := ⟨tys, [(121, keep_Check.sp k), (152, solve_Check_1.sp k)], eqs, 106, 0, [], false⟩
theorem solve_Check.cok (k : Nat) : CtxOk PR (solve_Check.cx k) := ctx_ok tysOk eqsOk (FnsOk.cons (keep_Check.ok k) (FnsOk.cons (solve_Check_1.ok k) FnsOk.nil)) HsOk.nil
noncomputable def solve_Check.c2p (a0 : (List V25)) (a1 : (List V78)) (v5 : Int) : SL := ⟨[(0, (.val (.slice T25) a0)), (6, (.val .clo (152, []))), (8, (.val .ptr ⟨0, 0, (0 : Int), 0, 0⟩)), (17, (.val (.slice T78) a1)), (18, (.val T2 (len a1))), (19, (.val T2 v5))], [(0, .cells T78 (el Z78 a1 v5))]⟩
noncomputable def solve_Check.c2q (a0 : (List V25)) (a1 : (List V78)) (v5 : Int) (o : Bool) : SL := (fun v => ⟨[(0, (.val (.slice T25) a0)), (6, (.val .clo (152, []))), (8, (.val .ptr ⟨0, 0, (0 : Int), 0, 0⟩)), (17, (.val (.slice T78) a1)), (18, (.val T2 (len a1))), (19, (.val T2 v5)), (23, (.val T4 v))], [(0, .cells T78 (el Z78 a1 v5))]⟩) o
noncomputable def solve_Check.c2x (o : Bool) : Ex := (fun _ => .normal) o
noncomputable def solve_Check.c2n (o : Bool) : Nat := (fun _ => 1) o
theorem solve_Check.c2_ok (k : Nat) (a0 : (List V25)) (a1 : (List V78)) (v5 : Int) : Owp (solve_Check.c2 k a0 a1 v5) fun o => Triple PR (solve_Check.cx k) (sub solve_Check.code [1, 1, 1, 1, 0, 1, 0, 0, 1, 1, 0, 0, 1, 0, 0]) 1 (solve_Check.c2p a0 a1 v5) (solve_Check.c2x o) (solve_Check.c2n o) (solve_Check.c2q a0 a1 v5 o) := by
  unfold solve_Check.c2; exact
   Owp.bnd fun y8 e9 =>
   Owp.bif (fun e10 =>
   Owp.bnd fun y11 e12 =>
    Owp.bif (fun e13 =>
    Owp.bif (fun e14 =>
     Owp.some (triple_way (solve_Check.cok k) hmix [.res (.one (.dp T4)) y8, .dec false, .dec false, .dec false, .dec false, .dec false, .dec false, .dec false, .res (.one (.dp T4)) y11, .dec false, .dec false, .dec false, .dec false, .dec false, .dec false, .dec false, .dec false, .dec true, .dec true, .dec true, .dec true] [] [(0, 0)] (via (finP (And.intro (And.intro (And.intro (And.intro (And.intro (And.intro (And.intro (And.intro (And.intro (And.intro (And.intro (And.intro (And.intro (And.intro (And.intro (And.intro (And.intro (And.intro (And.intro (And.intro trivial e9) (congrArg not e10)) (congrArg not e10)) (congrArg not e10)) (congrArg not e10)) (congrArg not e10)) (congrArg not e10)) (And.intro (congrArg not e10) e12)) (congrArg not e10)) (congrArg not e10)) (congrArg not e13)) (congrArg not e13)) (congrArg not e13)) (congrArg not e13)) (congrArg not e13)) (congrArg not e13)) e14) e14) e14) e14) .normal [(0, 0)] (solve_Check.c2q a0 a1 v5 true)) (by kernel_rfl)))) (fun e14 =>
     Owp.some (triple_way (solve_Check.cok k) hmix [.res (.one (.dp T4)) y8, .dec false, .dec false, .dec false, .dec false, .dec false, .dec false, .dec false, .res (.one (.dp T4)) y11, .dec false, .dec false, .dec false, .dec false, .dec false, .dec false, .dec false, .dec false, .dec false, .dec false, .dec false, .dec false] [] [(0, 0)] (via (finP (And.intro (And.intro (And.intro (And.intro (And.intro (And.intro (And.intro (And.intro (And.intro (And.intro (And.intro (And.intro (And.intro (And.intro (And.intro (And.intro (And.intro (And.intro (And.intro (And.intro trivial e9) (congrArg not e10)) (congrArg not e10)) (congrArg not e10)) (congrArg not e10)) (congrArg not e10)) (congrArg not e10)) (And.intro (congrArg not e10) e12)) (congrArg not e10)) (congrArg not e10)) (congrArg not e13)) (congrArg not e13)) (congrArg not e13)) (congrArg not e13)) (congrArg not e13)) (congrArg not e13)) e14) e14) e14) e14) .normal [(0, 0)] (solve_Check.c2q a0 a1 v5 (ilt (el Z78 a1 v5).2.2.1 (0 : Int)))) (by kernel_rfl))))) (fun e13 =>
    Owp.some (triple_way (solve_Check.cok k) hmix [.res (.one (.dp T4)) y8, .dec false, .dec false, .dec false, .dec false, .dec false, .dec false, .dec false, .res (.one (.dp T4)) y11, .dec false, .dec false, .dec true, .dec true, .dec true, .dec true, .dec true, .dec true, .dec true, .dec true, .dec true, .dec true] [] [(0, 0)] (via (finP (And.intro (And.intro (And.intro (And.intro (And.intro (And.intro (And.intro (And.intro (And.intro (And.intro (And.intro (And.intro (And.intro (And.intro (And.intro (And.intro (And.intro (And.intro (And.intro (And.intro trivial e9) (congrArg not e10)) (congrArg not e10)) (congrArg not e10)) (congrArg not e10)) (congrArg not e10)) (congrArg not e10)) (And.intro (congrArg not e10) e12)) (congrArg not e10)) (congrArg not e10)) (congrArg not e13)) (congrArg not e13)) (congrArg not e13)) (congrArg not e13)) (congrArg not e13)) (congrArg not e13)) tt) tt) tt) tt) .normal [(0, 0)] (solve_Check.c2q a0 a1 v5 true)) (by kernel_rfl))))) (fun e10 =>
   Owp.some (triple_way (solve_Check.cok k) hmix [.res (.one (.dp T4)) y8, .dec true, .dec true, .dec true, .dec true, .dec true, .dec true, .dec true, .dec true, .dec true, .dec true, .dec true, .dec true, .dec true, .dec true, .dec true, .dec true, .dec true, .dec true, .dec true, .dec true] [] [(0, 0)] (via (finP (And.intro (And.intro (And.intro (And.intro (And.intro (And.intro (And.intro (And.intro (And.intro (And.intro (And.intro (And.intro (And.intro (And.intro (And.intro (And.intro (And.intro (And.intro (And.intro (And.intro trivial e9) (congrArg not e10)) (congrArg not e10)) (congrArg not e10)) (congrArg not e10)) (congrArg not e10)) (congrArg not e10)) (congrArg not e10)) (congrArg not e10)) (congrArg not e10)) tt) tt) tt) tt) tt) tt) tt) tt) tt) tt) .normal [(0, 0)] (solve_Check.c2q a0 a1 v5 true)) (by kernel_rfl))))
noncomputable def solve_Check.c3p (a0 : (List V25)) (a1 : (List V78)) (v5 : Int) : SL := ⟨[(0, (.val (.slice T25) a0)), (6, (.val .clo (152, []))), (8, (.val .ptr ⟨0, 0, (0 : Int), 0, 0⟩)), (17, (.val (.slice T78) a1)), (18, (.val T2 (len a1))), (19, (.val T2 v5))], [(0, .cells T78 (el Z78 a1 v5))]⟩
noncomputable def solve_Check.c3q (a0 : (List V25)) (a1 : (List V78)) (v5 : Int) (o : Bool) : SL := (fun v => ⟨[(0, (.val (.slice T25) a0)), (6, (.val .clo (152, []))), (8, (.val .ptr ⟨0, 0, (0 : Int), 0, 0⟩)), (17, (.val (.slice T78) a1)), (18, (.val T2 (len a1))), (19, (.val T2 v5)), (54, (.val T4 v))], [(0, .cells T78 (el Z78 a1 v5))]⟩) o
noncomputable def solve_Check.c3x (o : Bool) : Ex := (fun _ => .normal) o
noncomputable def solve_Check.c3n (o : Bool) : Nat := (fun _ => 1) o
theorem solve_Check.c3_ok (k : Nat) (a0 : (List V25)) (a1 : (List V78)) (v5 : Int) : Owp (solve_Check.c3 k a1 v5) fun o => Triple PR (solve_Check.cx k) (sub solve_Check.code [1, 1, 1, 1, 0, 1, 0, 0, 1, 1, 0, 0, 1, 0, 1, 1, 0]) 1 (solve_Check.c3p a0 a1 v5) (solve_Check.c3x o) (solve_Check.c3n o) (solve_Check.c3q a0 a1 v5 o) := by
  unfold solve_Check.c3; exact
   Owp.bnd fun y18 e19 =>
   Owp.bif (fun e20 =>
   Owp.bnd fun y21 e22 =>
    Owp.bif (fun e23 =>
    Owp.bnd fun y24 e25 =>
     Owp.bif (fun e26 =>
     Owp.bnd fun y27 e28 =>
      Owp.some (triple_way (solve_Check.cok k) hmix [.res (.one (.dp T4)) y18, .dec false, .dec false, .dec false, .dec false, .dec false, .res (.one (.dp T4)) y21, .dec false, .dec false, .dec false, .dec false, .dec false, .dec false, .dec false, .res (.one (.dp T4)) y24, .dec false, .dec false, .dec false, .dec false, .dec false, .dec false, .dec false, .res (.one (.dp T4)) y27, .dec false, .dec false] [] [(0, 0)] (via (finP (And.intro (And.intro (And.intro (And.intro (And.intro (And.intro (And.intro (And.intro (And.intro (And.intro (And.intro (And.intro (And.intro (And.intro (And.intro (And.intro (And.intro (And.intro (And.intro (And.intro (And.intro (And.intro trivial e19) (congrArg not e20)) (congrArg not e20)) (congrArg not e20)) (congrArg not e20)) (And.intro (congrArg not e20) e22)) (congrArg not e20)) (congrArg not e20)) (congrArg not e23)) (congrArg not e23)) (congrArg not e23)) (congrArg not e23)) (And.intro (congrArg not e23) e25)) (congrArg not e23)) (congrArg not e23)) (congrArg not e26)) (congrArg not e26)) (congrArg not e26)) (congrArg not e26)) (And.intro (congrArg not e26) e28)) (congrArg not e26)) (congrArg not e26)) .normal [(0, 0)] (solve_Check.c3q a0 a1 v5 (!y27))) (by kernel_rfl)))) (fun e26 =>
     Owp.some (triple_way (solve_Check.cok k) hmix [.res (.one (.dp T4)) y18, .dec false, .dec false, .dec false, .dec false, .dec false, .res (.one (.dp T4)) y21, .dec false, .dec false, .dec false, .dec false, .dec false, .dec false, .dec false, .res (.one (.dp T4)) y24, .dec false, .dec false, .dec true, .dec true, .dec true, .dec true, .dec true, .dec true, .dec true, .dec true] [] [(0, 0)] (via (finP (And.intro (And.intro (And.intro (And.intro (And.intro (And.intro (And.intro (And.intro (And.intro (And.intro (And.intro (And.intro (And.intro (And.intro (And.intro (And.intro (And.intro (And.intro (And.intro (And.intro (And.intro (And.intro trivial e19) (congrArg not e20)) (congrArg not e20)) (congrArg not e20)) (congrArg not e20)) (And.intro (congrArg not e20) e22)) (congrArg not e20)) (congrArg not e20)) (congrArg not e23)) (congrArg not e23)) (congrArg not e23)) (congrArg not e23)) (And.intro (congrArg not e23) e25)) (congrArg not e23)) (congrArg not e23)) (congrArg not e26)) (congrArg not e26)) (congrArg not e26)) (congrArg not e26)) (congrArg not e26)) (congrArg not e26)) (congrArg not e26)) .normal [(0, 0)] (solve_Check.c3q a0 a1 v5 true)) (by kernel_rfl))))) (fun e23 =>
    Owp.some (triple_way (solve_Check.cok k) hmix [.res (.one (.dp T4)) y18, .dec false, .dec false, .dec false, .dec false, .dec false, .res (.one (.dp T4)) y21, .dec false, .dec false, .dec true, .dec true, .dec true, .dec true, .dec true, .dec true, .dec true, .dec true, .dec true, .dec true, .dec true, .dec true, .dec true, .dec true, .dec true, .dec true] [] [(0, 0)] (via (finP (And.intro (And.intro (And.intro (And.intro (And.intro (And.intro (And.intro (And.intro (And.intro (And.intro (And.intro (And.intro (And.intro (And.intro (And.intro (And.intro (And.intro (And.intro (And.intro (And.intro (And.intro (And.intro trivial e19) (congrArg not e20)) (congrArg not e20)) (congrArg not e20)) (congrArg not e20)) (And.intro (congrArg not e20) e22)) (congrArg not e20)) (congrArg not e20)) (congrArg not e23)) (congrArg not e23)) (congrArg not e23)) (congrArg not e23)) (congrArg not e23)) (congrArg not e23)) (congrArg not e23)) tt) tt) tt) tt) tt) tt) tt) .normal [(0, 0)] (solve_Check.c3q a0 a1 v5 true)) (by kernel_rfl))))) (fun e20 =>
   Owp.some (triple_way (solve_Check.cok k) hmix [.res (.one (.dp T4)) y18, .dec true, .dec true, .dec true, .dec true, .dec true, .dec true, .dec true, .dec true, .dec true, .dec true, .dec true, .dec true, .dec true, .dec true, .dec true, .dec true, .dec true, .dec true, .dec true, .dec true, .dec true, .dec true, .dec true, .dec true] [] [(0, 0)] (via (finP (And.intro (And.intro (And.intro (And.intro (And.intro (And.intro (And.intro (And.intro (And.intro (And.intro (And.intro (And.intro (And.intro (And.intro (And.intro (And.intro (And.intro (And.intro (And.intro (And.intro (And.intro (And.intro trivial e19) (congrArg not e20)) (congrArg not e20)) (congrArg not e20)) (congrArg not e20)) (congrArg not e20)) (congrArg not e20)) (congrArg not e20)) tt) tt) tt) tt) tt) tt) tt) tt) tt) tt) tt) tt) tt) tt) .normal [(0, 0)] (solve_Check.c3q a0 a1 v5 true)) (by kernel_rfl))))
noncomputable def solve_Check.c4p (a0 : (List V25)) (a1 : (List V78)) (v5 : Int) : SL := ⟨[(0, (.val (.slice T25) a0)), (6, (.val .clo (152, []))), (8, (.val .ptr ⟨0, 0, (0 : Int), 0, 0⟩)), (17, (.val (.slice T78) a1)), (18, (.val T2 (len a1))), (19, (.val T2 v5))], [(0, .cells T78 (el Z78 a1 v5))]⟩
noncomputable def solve_Check.c4q (a0 : (List V25)) (a1 : (List V78)) (v5 : Int) (o : Bool) : SL := (fun v => ⟨[(0, (.val (.slice T25) a0)), (6, (.val .clo (152, []))), (17, (.val (.slice T78) a1)), (18, (.val T2 (len a1))), (19, (.val T2 v5)), (85, (.val T4 v))], []⟩) o
noncomputable def solve_Check.c4x (o : Bool) : Ex := (fun _ => .normal) o
noncomputable def solve_Check.c4n (o : Bool) : Nat := (fun _ => 0) o
theorem solve_Check.c4_ok (k : Nat) (a0 : (List V25)) (a1 : (List V78)) (v5 : Int) : Owp (solve_Check.c4 k a1 v5) fun o => Triple PR (solve_Check.cx k) (sub solve_Check.code [1, 1, 1, 1, 0, 1, 0, 0, 1, 1, 0, 0, 1, 0, 1, 1, 1, 1, 0]) 1 (solve_Check.c4p a0 a1 v5) (solve_Check.c4x o) (solve_Check.c4n o) (solve_Check.c4q a0 a1 v5 o) := by
  unfold solve_Check.c4; exact
   Owp.bnd fun y32 e33 =>
   Owp.bif (fun e34 =>
   Owp.bnd fun y35 e36 =>
    Owp.bif (fun e37 =>
    Owp.bnd fun y38 e39 =>
     Owp.some (triple_way (solve_Check.cok k) hmix [.res (.one (.dp T4)) y32, .dec false, .dec false, .dec false, .dec false, .res (.one (.dp T4)) y35, .dec false, .dec false, .dec false, .dec false, .dec false, .dec false, .res (.one (.dp T4)) y38, .dec false, .dec false] [] [] (via (finP (And.intro (And.intro (And.intro (And.intro (And.intro (And.intro (And.intro (And.intro (And.intro (And.intro (And.intro (And.intro (And.intro trivial e33) (congrArg not e34)) (congrArg not e34)) (congrArg not e34)) (And.intro (congrArg not e34) e36)) (congrArg not e34)) (congrArg not e34)) (congrArg not e37)) (congrArg not e37)) (congrArg not e37)) (And.intro (congrArg not e37) e39)) (congrArg not e37)) (congrArg not e37)) .normal [] (solve_Check.c4q a0 a1 v5 (!y38))) (by kernel_rfl)))) (fun e37 =>
    Owp.some (triple_way (solve_Check.cok k) hmix [.res (.one (.dp T4)) y32, .dec false, .dec false, .dec false, .dec false, .res (.one (.dp T4)) y35, .dec false, .dec false, .dec true, .dec true, .dec true, .dec true, .dec true, .dec true, .dec true] [] [] (via (finP (And.intro (And.intro (And.intro (And.intro (And.intro (And.intro (And.intro (And.intro (And.intro (And.intro (And.intro (And.intro (And.intro trivial e33) (congrArg not e34)) (congrArg not e34)) (congrArg not e34)) (And.intro (congrArg not e34) e36)) (congrArg not e34)) (congrArg not e34)) (congrArg not e37)) (congrArg not e37)) (congrArg not e37)) (congrArg not e37)) (congrArg not e37)) (congrArg not e37)) .normal [] (solve_Check.c4q a0 a1 v5 true)) (by kernel_rfl))))) (fun e34 =>
   Owp.some (triple_way (solve_Check.cok k) hmix [.res (.one (.dp T4)) y32, .dec true, .dec true, .dec true, .dec true, .dec true, .dec true, .dec true, .dec true, .dec true, .dec true, .dec true, .dec true, .dec true, .dec true] [] [] (via (finP (And.intro (And.intro (And.intro (And.intro (And.intro (And.intro (And.intro (And.intro (And.intro (And.intro (And.intro (And.intro (And.intro trivial e33) (congrArg not e34)) (congrArg not e34)) (congrArg not e34)) (congrArg not e34)) (congrArg not e34)) (congrArg not e34)) tt) tt) tt) tt) tt) tt) .normal [] (solve_Check.c4q a0 a1 v5 true)) (by kernel_rfl))))
noncomputable def solve_Check.c1p (a0 : (List V25)) (a1 : (List V78)) (v5 : Int) : SL := ⟨[(0, (.val (.slice T25) a0)), (6, (.val .clo (152, []))), (17, (.val (.slice T78) a1)), (18, (.val T2 (len a1))), (19, (.val T2 v5))], []⟩
noncomputable def solve_Check.c1q (o : Unit ⊕ Unit) : SL := (fun o => two o (fun v => ⟨[(4, (.val T2 (1 : Int)))], []⟩) (fun v => ⟨[], []⟩)) o
noncomputable def solve_Check.c1x (o : Unit ⊕ Unit) : Ex := (fun o => two o (fun _ => .ret) (fun _ => (.exit 0))) o
noncomputable def solve_Check.c1n (o : Unit ⊕ Unit) : Nat := (fun o => two o (fun _ => 0) (fun _ => 0)) o
theorem solve_Check.c1_ok (k : Nat) (a0 : (List V25)) (a1 : (List V78)) : ∀ (n : Nat) (v5 : Int), Owp (solve_Check.c1 k a0 a1 n v5) fun o => LTriple PR (solve_Check.cx k) (sub solve_Check.code [1, 1, 1, 1, 0, 1, 0, 0]) 0 (solve_Check.c1p a0 a1 v5) (solve_Check.c1x o) (solve_Check.c1n o) (solve_Check.c1q o)
  | 0, _ => fun _ h => nomatch h
  | n + 1, v5 => Owp.of (solve_Check.c1.eq_2 ..) (
   Owp.bif (fun e6 =>
   Owp.req fun h7 =>
    Owp.bnd fun o15 e16 =>
    Owp.bif (fun e17 =>
    Owp.some (loop_exit (solve_Check.cok k) hmix [.dec true, .cutR 10 ⟨[], [(0, 3)], (solve_Check.c2p a0 a1 v5), 1, .normal, (solve_Check.c2q a0 a1 v5 o15), 1⟩, .dec true] [] [] exne_ret (via (cutP (And.intro (And.intro trivial e6) h7) [(0, 3)] (solve_Check.c2p a0 a1 v5) (((solve_Check.c2_ok k a0 a1 v5).ap e16)) (finP (And.intro trivial e17) .ret [] (solve_Check.c1q (.inl ())))) (by kernel_rfl)))) (fun e17 =>
    Owp.bnd fun o29 e30 =>
     Owp.bif (fun e31 =>
     Owp.some (loop_exit (solve_Check.cok k) hmix [.dec true, .cutR 10 ⟨[], [(0, 3)], (solve_Check.c2p a0 a1 v5), 1, .normal, (solve_Check.c2q a0 a1 v5 o15), 1⟩, .dec false, .cutR 12 ⟨[], [(0, 0)], (solve_Check.c3p a0 a1 v5), 1, .normal, (solve_Check.c3q a0 a1 v5 o29), 1⟩, .dec true] [] [] exne_ret (via (cutP (And.intro (And.intro trivial e6) h7) [(0, 3)] (solve_Check.c2p a0 a1 v5) (((solve_Check.c2_ok k a0 a1 v5).ap e16)) (cutP (And.intro trivial e17) [(0, 0)] (solve_Check.c3p a0 a1 v5) (((solve_Check.c3_ok k a0 a1 v5).ap e30)) (finP (And.intro trivial e31) .ret [] (solve_Check.c1q (.inl ()))))) (by kernel_rfl)))) (fun e31 =>
     Owp.bnd fun o40 e41 =>
      Owp.bif (fun e42 =>
      Owp.some (loop_exit (solve_Check.cok k) hmix [.dec true, .cutR 10 ⟨[], [(0, 3)], (solve_Check.c2p a0 a1 v5), 1, .normal, (solve_Check.c2q a0 a1 v5 o15), 1⟩, .dec false, .cutR 12 ⟨[], [(0, 0)], (solve_Check.c3p a0 a1 v5), 1, .normal, (solve_Check.c3q a0 a1 v5 o29), 1⟩, .dec false, .cutR 14 ⟨[], [(0, 0)], (solve_Check.c4p a0 a1 v5), 1, .normal, (solve_Check.c4q a0 a1 v5 o40), 0⟩, .dec true] [] [] exne_ret (via (cutP (And.intro (And.intro trivial e6) h7) [(0, 3)] (solve_Check.c2p a0 a1 v5) (((solve_Check.c2_ok k a0 a1 v5).ap e16)) (cutP (And.intro trivial e17) [(0, 0)] (solve_Check.c3p a0 a1 v5) (((solve_Check.c3_ok k a0 a1 v5).ap e30)) (cutP (And.intro trivial e31) [(0, 0)] (solve_Check.c4p a0 a1 v5) (((solve_Check.c4_ok k a0 a1 v5).ap e41)) (finP (And.intro trivial e42) .ret [] (solve_Check.c1q (.inl ())))))) (by kernel_rfl)))) (fun e42 =>
      fun y hy => loop_back (solve_Check.cok k) hmix 0 (solve_Check.c1p a0 a1 (iadd .i64 v5 (1 : Int))) [.dec true, .cutR 10 ⟨[], [(0, 3)], (solve_Check.c2p a0 a1 v5), 1, .normal, (solve_Check.c2q a0 a1 v5 o15), 1⟩, .dec false, .cutR 12 ⟨[], [(0, 0)], (solve_Check.c3p a0 a1 v5), 1, .normal, (solve_Check.c3q a0 a1 v5 o29), 1⟩, .dec false, .cutR 14 ⟨[], [(0, 0)], (solve_Check.c4p a0 a1 v5), 1, .normal, (solve_Check.c4q a0 a1 v5 o40), 0⟩, .dec false] [] [] (via (cutP (And.intro (And.intro trivial e6) h7) [(0, 3)] (solve_Check.c2p a0 a1 v5) (((solve_Check.c2_ok k a0 a1 v5).ap e16)) (cutP (And.intro trivial e17) [(0, 0)] (solve_Check.c3p a0 a1 v5) (((solve_Check.c3_ok k a0 a1 v5).ap e30)) (cutP (And.intro trivial e31) [(0, 0)] (solve_Check.c4p a0 a1 v5) (((solve_Check.c4_ok k a0 a1 v5).ap e41)) (finP (And.intro trivial e42) .normal [] (solve_Check.c1p a0 a1 (iadd .i64 v5 (1 : Int))))))) (by kernel_rfl)) ((solve_Check.c1_ok k a0 a1 n (iadd .i64 v5 (1 : Int))).ap hy))))) (fun e6 =>
   Owp.some (loop_exit (solve_Check.cok k) hmix [.dec false] [] [] (exne 0) (via (finP (And.intro trivial e6) (.exit 0) [] (solve_Check.c1q (.inr ()))) (by kernel_rfl)))))
theorem solve_Check.way (k : Nat) (a0 : (List V25)) (a1 : (List V78)) : Owp (solve_Check k a0 a1) fun y => ∃ answers cmds, exec PR (solve_Check.cx k) solve_Check.code 0 (entry (.pair (.slice T25) (.pair (.slice T78) .unit)) (a0, a1, ())).st answers (Ret (solve_Check.cx k) Try.f76 cmds (.one (.dp T2)) y) := by
  unfold solve_Check; exact
   Owp.bnd fun y1 e2 =>
   Owp.bif (fun e3 =>
   Owp.some (⟨[.res (.one (.dp T2)) y1, .dec true], [], via (retP (And.intro (And.intro trivial e2) e3) (.one (.dp T2)) (y1 : Int)) (by kernel_rfl)⟩)) (fun e3 =>
   Owp.bif (fun e4 =>
    Owp.some (⟨[.res (.one (.dp T2)) y1, .dec false, .dec true], [], via (retP (And.intro (And.intro (And.intro trivial e2) e3) e4) (.one (.dp T2)) ((2 : Int) : Int)) (by kernel_rfl)⟩)) (fun e4 =>
    Owp.bnd fun o43 e44 =>
     Owp.two (fun y45 e46 =>
     Owp.some (⟨[.res (.one (.dp T2)) y1, .dec false, .dec false, .cut ⟨[], [], (solve_Check.c1p a0 a1 (0 : Int)), 0, .ret, (solve_Check.c1q (.inl ())), 0⟩], [], via (cutP (And.intro (And.intro (And.intro trivial e2) e3) e4) [] (solve_Check.c1p a0 a1 (0 : Int)) (((solve_Check.c1_ok k a0 a1 k (0 : Int)).ap (e44.trans (congrArg some e46))).triple) (retP trivial (.one (.dp T2)) ((1 : Int) : Int))) (by kernel_rfl)⟩)) (fun y47 e48 =>
     Owp.some (⟨[.res (.one (.dp T2)) y1, .dec false, .dec false, .cut ⟨[], [], (solve_Check.c1p a0 a1 (0 : Int)), 0, (.exit 0), (solve_Check.c1q (.inr ())), 0⟩], [], via (cutP (And.intro (And.intro (And.intro trivial e2) e3) e4) [] (solve_Check.c1p a0 a1 (0 : Int)) (((solve_Check.c1_ok k a0 a1 k (0 : Int)).ap (e44.trans (congrArg some e48))).triple) (retP trivial (.one (.dp T2)) ((0 : Int) : Int))) (by kernel_rfl)⟩))))
theorem solve_Check.ok (k : Nat) : FnOk PR 76 (solve_Check.sp k) :=
  fn_ok (solve_Check.cok k) hmix Try.func76 (code := solve_Check.code) (by kernel_rfl) (by kernel_rfl) (by kernel_rfl) rfl rfl (by kernel_rfl) (by kernel_rfl) (by kernel_rfl) (fun x => Nat.le_of_ble_eq_true (by kernel_rfl)) fun x y hy => (solve_Check.way k x.1 x.2.1).ap hy

/-! tourney/solve.over -/
noncomputable def solve_over.code : Code := Func.cd Try.f181
def solve_over (k : Nat) (a0 : Int) (a1 : Int) : Option Int :=
  bnd (fix_Div k a0 a1) fun y1 =>
  some y1.1
noncomputable def solve_over.sp (k : Nat) : Go.Sx.Spec := ⟨T22, (.one (.dp T2)), fun x => solve_over k x.1 x.2.1, false⟩
noncomputable def solve_over.cx (k : Nat) : Go.Sx.Ctx := ⟨tys, [(157, fix_Div.sp k)], eqs, 14, 0, [], false⟩
theorem solve_over.cok (k : Nat) : CtxOk PR (solve_over.cx k) := ctx_ok tysOk eqsOk (FnsOk.cons (fix_Div.ok k) FnsOk.nil) HsOk.nil
theorem solve_over.way (k : Nat) (a0 : Int) (a1 : Int) : Owp (solve_over k a0 a1) fun y => ∃ answers cmds, exec PR (solve_over.cx k) solve_over.code 0 (entry T22 (a0, a1, ())).st answers (Ret (solve_over.cx k) Try.f181 cmds (.one (.dp T2)) y) := by
  unfold solve_over; exact
   Owp.bnd fun y1 e2 =>
   Owp.some (⟨[.res (.more (.dp T2) (.one (.dp T2))) y1], [], via (retP (And.intro trivial e2) (.one (.dp T2)) (y1.1 : Int)) (by kernel_rfl)⟩)
theorem solve_over.ok (k : Nat) : FnOk PR 181 (solve_over.sp k) :=
  fn_ok (solve_over.cok k) hmix Try.func181 (code := solve_over.code) (by kernel_rfl) (by kernel_rfl) (by kernel_rfl) rfl rfl (by kernel_rfl) (by kernel_rfl) (by kernel_rfl) (fun x => Nat.le_of_ble_eq_true (by kernel_rfl)) fun x y hy => (solve_over.way k x.1 x.2.1).ap hy

/-! (*tourney/solve.solver).speed -/
noncomputable def solve_solver_speed_h_2.code : Code := Func.cd Try.f183
def solve_solver_speed_h_2 (k : Nat) (a1 : V78) (r1 : (List V25)) (r2 : (List V78)) (r3 : (List V145)) : Option V22 :=
  req (inL a1.2.1 r1) <|
  bnd (body_At k (el Z25 r1 a1.2.1) a1.2.2.2.1) fun y2 =>
  req (inL a1.1 r1) <|
  bnd (body_At k (el Z25 r1 a1.1) a1.2.2.2.1) fun y5 =>
  bnd (vec_Sub k y2 y5) fun y7 =>
  some y7
noncomputable def solve_solver_speed_h_2.h (k : Nat) : Go.Sx.HSp := ⟨(.pair T78 (.pair (.slice T25) (.pair (.slice T78) (.pair (.slice T145) .unit)))), T22, 4, fun x => [.lent (.val .ptr ⟨0, 0, (0 : Int), 0, 0⟩), .dat T78 x.1], fun x => [(0, .cells (.pair .own (.pair .own (.pair .own .unit))) ((1 : Nat), (2 : Nat), (3 : Nat), ())), (1, .row T25 x.2.1 26), (2, .row T78 x.2.2.1 79), (3, .row T145 x.2.2.2.1 146)], fun x => solve_solver_speed_h_2 k x.1 x.2.1 x.2.2.1 x.2.2.2.1, fun x y => [(0, .cells (.pair .own (.pair .own (.pair .own .unit))) ((1 : Nat), (2 : Nat), (3 : Nat), ())), (1, .row T25 x.2.1 26), (2, .row T78 x.2.2.1 79), (3, .row T145 x.2.2.2.1 146)], (.one (.dp T22)), fun y => y, true⟩
noncomputable def solve_solver_speed_h_2.cx (k : Nat) : Go.Sx.Ctx := ⟨tys, [(19, body_At.sp k), (83, vec_Sub.sp k)], eqs, 28, 4, [], true⟩
theorem solve_solver_speed_h_2.cok (k : Nat) : CtxOk PR (solve_solver_speed_h_2.cx k) := ctx_ok tysOk eqsOk (FnsOk.cons (body_At.ok k) (FnsOk.cons (vec_Sub.ok k) FnsOk.nil)) HsOk.nil
@[irreducible] noncomputable def solve_solver_speed_h_2.P (k : Nat) (a1 : V78) (r1 : (List V25)) (r2 : (List V78)) (r3 : (List V145)) (y : V22) (answers : List Ans) (cmds : List Cmd) : Prop := exec PR (solve_solver_speed_h_2.cx k) solve_solver_speed_h_2.code 4 (entryH (solve_solver_speed_h_2.h k) (a1, r1, r2, r3, ())).st answers (RetH (solve_solver_speed_h_2.cx k) Try.f183 cmds (solve_solver_speed_h_2.h k) (a1, r1, r2, r3, ()) y)
theorem solve_solver_speed_h_2.way (k : Nat) (a1 : V78) (r1 : (List V25)) (r2 : (List V78)) (r3 : (List V145)) : Owp (solve_solver_speed_h_2 k a1 r1 r2 r3) fun y => ∃ answers cmds, solve_solver_speed_h_2.P k a1 r1 r2 r3 y answers cmds := by
  unfold solve_solver_speed_h_2; exact
   Owp.req fun h1 =>
   Owp.bnd fun y2 e3 =>
   Owp.req fun h4 =>
   Owp.bnd fun y5 e6 =>
   Owp.bnd fun y7 e8 =>
   Owp.some (⟨[.res (.one (.dp T22)) y2, .res (.one (.dp T22)) y5, .res (.one (.dp T22)) y7], [], via (rethP (And.intro (And.intro (And.intro (And.intro (And.intro (And.intro (And.intro trivial h1) h1) e3) h4) h4) e6) e8) [(0, .cells (.pair .own (.pair .own (.pair .own .unit))) ((1 : Nat), (2 : Nat), (3 : Nat), ())), (1, .row T25 r1 26), (2, .row T78 r2 79), (3, .row T145 r3 146)] (.one (.dp T22)) (y7 : V22)) (by kernel_rfl)⟩)
theorem solve_solver_speed_h_2.ok (k : Nat) : HOk PR 183 (solve_solver_speed_h_2.h k) :=
  fnH_ok (solve_solver_speed_h_2.cok k) hmix Try.func183 (code := solve_solver_speed_h_2.code) (by kernel_rfl) (by kernel_rfl) (by kernel_rfl) (by kernel_rfl) (by kernel_rfl) (fun x => Nat.le_of_ble_eq_true (by kernel_rfl)) fun x y hy => match (solve_solver_speed_h_2.way k x.1 x.2.1 x.2.2.1 x.2.2.2.1).ap hy with | ⟨ans, cmds, h⟩ => ⟨ans, cmds, via h (by kernel_rfl)⟩

/-! (*tourney/solve.solver).row -/
noncomputable def solve_solver_row_2.code : Code := Func.cd Try.f130
def solve_solver_row_2 (k : Nat) (a1 : V78) (a2 : Int) (r1 : (List V25)) (r2 : (List V78)) (r3 : (List V145)) : Option V145 :=
  req (inL a1.1 r1) <|
  req (inL a1.2.1 r1) <|
  bnd (body_Ease k (el Z25 r1 a1.1) a1.2.2.2.1 a1.2.2.2.2.1) fun y3 =>
  bnd (body_Ease k (el Z25 r1 a1.2.1) a1.2.2.2.1 a1.2.2.2.2.1) fun y5 =>
  bnd (fix_Add k y3 y5) fun y7 =>
  bnd (body_Ease k (el Z25 r1 a1.1) a1.2.2.2.1 ((ineg .i64 a1.2.2.2.2.1.2.1), a1.2.2.2.2.1.1, ())) fun y9 =>
  bnd (body_Ease k (el Z25 r1 a1.2.1) a1.2.2.2.1 ((ineg .i64 a1.2.2.2.2.1.2.1), a1.2.2.2.2.1.1, ())) fun y11 =>
  bnd (fix_Add k y9 y11) fun y13 =>
  bnd (fix_Mul k (imax 0 (isub .i64 a1.2.2.2.2.2.1 512)) 8192) fun y15 =>
  bnd (solve_over k y15 a2) fun y17 =>
  bnd (solve_solver_speed_h_2 k a1 r1 r2 r3) fun y19 =>
  bnd (vec_Dot k y19 a1.2.2.2.2.1) fun y21 =>
  bif' (ilt y21 (-32768))
  (bnd (fix_Mul k (imax (el Z25 r1 a1.1).2.2.2.2.2.2.1 (el Z25 r1 a1.2.1).2.2.2.2.2.2.1) (ineg .i64 y21)) fun y24 =>
   bnd (fix_Add k y17 y24) fun y26 =>
   some (((ineg .i64 a1.2.2.2.2.1.2.1), a1.2.2.2.2.1.1, ()), y7, y13, y26, (imin (el Z25 r1 a1.1).2.2.2.2.2.2.2.1 (el Z25 r1 a1.2.1).2.2.2.2.2.2.2.1), ()))
  (some (((ineg .i64 a1.2.2.2.2.1.2.1), a1.2.2.2.2.1.1, ()), y7, y13, y17, (imin (el Z25 r1 a1.1).2.2.2.2.2.2.2.1 (el Z25 r1 a1.2.1).2.2.2.2.2.2.2.1), ()))
noncomputable def solve_solver_row_2.h (k : Nat) : Go.Sx.HSp := ⟨(.pair T78 (.pair T2 (.pair (.slice T25) (.pair (.slice T78) (.pair (.slice T145) .unit))))), T145, 4, fun x => [.lent (.val .ptr ⟨0, 0, (0 : Int), 0, 0⟩), .dat T78 x.1, .dat T2 x.2.1], fun x => [(0, .cells (.pair .own (.pair .own (.pair .own .unit))) ((1 : Nat), (2 : Nat), (3 : Nat), ())), (1, .row T25 x.2.2.1 26), (2, .row T78 x.2.2.2.1 79), (3, .row T145 x.2.2.2.2.1 146)], fun x => solve_solver_row_2 k x.1 x.2.1 x.2.2.1 x.2.2.2.1 x.2.2.2.2.1, fun x y => [(0, .cells (.pair .own (.pair .own (.pair .own .unit))) ((1 : Nat), (2 : Nat), (3 : Nat), ())), (1, .row T25 x.2.2.1 26), (2, .row T78 x.2.2.2.1 79), (3, .row T145 x.2.2.2.2.1 146)], (.one (.dp T145)), fun y => y, true⟩
noncomputable def solve_solver_row_2.cx (k : Nat) : Go.Sx.Ctx := ⟨tys, [(20, body_Ease.sp k), (85, fix_Add.sp k), (89, fix_Mul.sp k), (181, solve_over.sp k), (182, vec_Dot.sp k)], eqs, 98, 4, [(183, solve_solver_speed_h_2.h k)], true⟩
theorem solve_solver_row_2.cok (k : Nat) : CtxOk PR (solve_solver_row_2.cx k) := ctx_ok tysOk eqsOk (FnsOk.cons (body_Ease.ok k) (FnsOk.cons (fix_Add.ok k) (FnsOk.cons (fix_Mul.ok k) (FnsOk.cons (solve_over.ok k) (FnsOk.cons (vec_Dot.ok k) FnsOk.nil))))) (HsOk.cons (solve_solver_speed_h_2.ok k) HsOk.nil)
@[irreducible] noncomputable def solve_solver_row_2.P (k : Nat) (a1 : V78) (a2 : Int) (r1 : (List V25)) (r2 : (List V78)) (r3 : (List V145)) (y : V145) (answers : List Ans) (cmds : List Cmd) : Prop := exec PR (solve_solver_row_2.cx k) solve_solver_row_2.code 4 (entryH (solve_solver_row_2.h k) (a1, a2, r1, r2, r3, ())).st answers (RetH (solve_solver_row_2.cx k) Try.f130 cmds (solve_solver_row_2.h k) (a1, a2, r1, r2, r3, ()) y)
theorem solve_solver_row_2.way (k : Nat) (a1 : V78) (a2 : Int) (r1 : (List V25)) (r2 : (List V78)) (r3 : (List V145)) : Owp (solve_solver_row_2 k a1 a2 r1 r2 r3) fun y => ∃ answers cmds, solve_solver_row_2.P k a1 a2 r1 r2 r3 y answers cmds := by
  unfold solve_solver_row_2; exact
   Owp.req fun h1 =>
   Owp.req fun h2 =>
   Owp.bnd fun y3 e4 =>
   Owp.bnd fun y5 e6 =>
   Owp.bnd fun y7 e8 =>
   Owp.bnd fun y9 e10 =>
   Owp.bnd fun y11 e12 =>
   Owp.bnd fun y13 e14 =>
   Owp.bnd fun y15 e16 =>
   Owp.bnd fun y17 e18 =>
   Owp.bnd fun y19 e20 =>
   Owp.bnd fun y21 e22 =>
   Owp.bif (fun e23 =>
   Owp.bnd fun y24 e25 =>
    Owp.bnd fun y26 e27 =>
    Owp.some (⟨[.res (.one (.dp T2)) y3, .res (.one (.dp T2)) y5, .res (.one (.dp T2)) y7, .res (.one (.dp T2)) y9, .res (.one (.dp T2)) y11, .res (.one (.dp T2)) y13, .res (.one (.dp T2)) y15, .res (.one (.dp T2)) y17, .hres [(0, 0), (1, 1), (2, 2), (3, 3)] (.pair T78 (.pair (.slice T25) (.pair (.slice T78) (.pair (.slice T145) .unit)))) (a1, r1, r2, r3, ()) T22 y19, .res (.one (.dp T2)) y21, .dec true, .res (.one (.dp T2)) y24, .res (.one (.dp T2)) y26], [], via (rethP (And.intro (And.intro (And.intro (And.intro (And.intro (And.intro (And.intro (And.intro (And.intro (And.intro (And.intro (And.intro (And.intro (And.intro (And.intro (And.intro (And.intro trivial h1) h1) h2) h2) e4) e6) e8) e10) e12) e14) e16) e18) (callHP (solve_solver_speed_h_2.h k) [(0, 0), (1, 1), (2, 2), (3, 3)] (a1, r1, r2, r3, ()) e20)) e22) e23) e25) e27) [(0, .cells (.pair .own (.pair .own (.pair .own .unit))) ((1 : Nat), (2 : Nat), (3 : Nat), ())), (1, .row T25 r1 26), (2, .row T78 r2 79), (3, .row T145 r3 146)] (.one (.dp T145)) ((((ineg .i64 a1.2.2.2.2.1.2.1), a1.2.2.2.2.1.1, ()), y7, y13, y26, (imin (el Z25 r1 a1.1).2.2.2.2.2.2.2.1 (el Z25 r1 a1.2.1).2.2.2.2.2.2.2.1), ()) : V145)) (by kernel_rfl)⟩)) (fun e23 =>
   Owp.some (⟨[.res (.one (.dp T2)) y3, .res (.one (.dp T2)) y5, .res (.one (.dp T2)) y7, .res (.one (.dp T2)) y9, .res (.one (.dp T2)) y11, .res (.one (.dp T2)) y13, .res (.one (.dp T2)) y15, .res (.one (.dp T2)) y17, .hres [(0, 0), (1, 1), (2, 2), (3, 3)] (.pair T78 (.pair (.slice T25) (.pair (.slice T78) (.pair (.slice T145) .unit)))) (a1, r1, r2, r3, ()) T22 y19, .res (.one (.dp T2)) y21, .dec false], [], via (rethP (And.intro (And.intro (And.intro (And.intro (And.intro (And.intro (And.intro (And.intro (And.intro (And.intro (And.intro (And.intro (And.intro (And.intro (And.intro trivial h1) h1) h2) h2) e4) e6) e8) e10) e12) e14) e16) e18) (callHP (solve_solver_speed_h_2.h k) [(0, 0), (1, 1), (2, 2), (3, 3)] (a1, r1, r2, r3, ()) e20)) e22) e23) [(0, .cells (.pair .own (.pair .own (.pair .own .unit))) ((1 : Nat), (2 : Nat), (3 : Nat), ())), (1, .row T25 r1 26), (2, .row T78 r2 79), (3, .row T145 r3 146)] (.one (.dp T145)) ((((ineg .i64 a1.2.2.2.2.1.2.1), a1.2.2.2.2.1.1, ()), y7, y13, y17, (imin (el Z25 r1 a1.1).2.2.2.2.2.2.2.1 (el Z25 r1 a1.2.1).2.2.2.2.2.2.2.1), ()) : V145)) (by kernel_rfl)⟩))
theorem solve_solver_row_2.ok (k : Nat) : HOk PR 130 (solve_solver_row_2.h k) :=
  fnH_ok (solve_solver_row_2.cok k) hmix Try.func130 (code := solve_solver_row_2.code) (by kernel_rfl) (by kernel_rfl) (by kernel_rfl) (by kernel_rfl) (by kernel_rfl) (fun x => Nat.le_of_ble_eq_true (by kernel_rfl)) fun x y hy => match (solve_solver_row_2.way k x.1 x.2.1 x.2.2.1 x.2.2.2.1 x.2.2.2.2.1).ap hy with | ⟨ans, cmds, h⟩ => ⟨ans, cmds, via h (by kernel_rfl)⟩

/-! (*tourney/solve.solver).push -/
noncomputable def solve_solver_push.code : Code := Func.cd Try.f131
def solve_solver_push (k : Nat) (a1 : V78) (a2 : V22) (r1 : (List V25)) (r2 : (List V78)) (r3 : (List V145)) : Option (List V25) :=
  req (inL a1.1 r1) <|
  bnd (body_Push k (el Z25 r1 a1.1) ((ineg .i64 a2.1), (ineg .i64 a2.2.1), ()) a1.2.2.2.1) fun y2 =>
  req (inL a1.2.1 (st r1 a1.1 y2)) <|
  bnd (body_Push k (el Z25 (st r1 a1.1 y2) a1.2.1) a2 a1.2.2.2.1) fun y5 =>
  some (st (st r1 a1.1 y2) a1.2.1 y5)
noncomputable def solve_solver_push.h (k : Nat) : Go.Sx.HSp := ⟨(.pair T78 (.pair T22 (.pair (.slice T25) (.pair (.slice T78) (.pair (.slice T145) .unit))))), (.slice T25), 4, fun x => [.lent (.val .ptr ⟨0, 0, (0 : Int), 0, 0⟩), .dat T78 x.1, .dat T22 x.2.1], fun x => [(0, .cells (.pair .own (.pair .own (.pair .own .unit))) ((1 : Nat), (2 : Nat), (3 : Nat), ())), (1, .row T25 x.2.2.1 26), (2, .row T78 x.2.2.2.1 79), (3, .row T145 x.2.2.2.2.1 146)], fun x => solve_solver_push k x.1 x.2.1 x.2.2.1 x.2.2.2.1 x.2.2.2.2.1, fun x y => [(0, .cells (.pair .own (.pair .own (.pair .own .unit))) ((1 : Nat), (2 : Nat), (3 : Nat), ())), (1, .row T25 y 26), (2, .row T78 x.2.2.2.1 79), (3, .row T145 x.2.2.2.2.1 146)], .none, fun y => (), false⟩
noncomputable def solve_solver_push.cx (k : Nat) : Go.Sx.Ctx := ⟨tys, [(16, body_Push.sp k)], eqs, 50, 4, [], true⟩
theorem solve_solver_push.cok (k : Nat) : CtxOk PR (solve_solver_push.cx k) := ctx_ok tysOk eqsOk (FnsOk.cons (body_Push.ok k) FnsOk.nil) HsOk.nil
@[irreducible] noncomputable def solve_solver_push.P (k : Nat) (a1 : V78) (a2 : V22) (r1 : (List V25)) (r2 : (List V78)) (r3 : (List V145)) (y : (List V25)) (answers : List Ans) (cmds : List Cmd) : Prop := exec PR (solve_solver_push.cx k) solve_solver_push.code 4 (entryH (solve_solver_push.h k) (a1, a2, r1, r2, r3, ())).st answers (RetH (solve_solver_push.cx k) Try.f131 cmds (solve_solver_push.h k) (a1, a2, r1, r2, r3, ()) y)
theorem solve_solver_push.way (k : Nat) (a1 : V78) (a2 : V22) (r1 : (List V25)) (r2 : (List V78)) (r3 : (List V145)) : Owp (solve_solver_push k a1 a2 r1 r2 r3) fun y => ∃ answers cmds, solve_solver_push.P k a1 a2 r1 r2 r3 y answers cmds := by
  unfold solve_solver_push; exact
   Owp.req fun h1 =>
   Owp.bnd fun y2 e3 =>
   Owp.req fun h4 =>
   Owp.bnd fun y5 e6 =>
   Owp.some (⟨[.res (.one (.dp T25)) y2, .res (.one (.dp T25)) y5], [], via (rethP (And.intro (And.intro (And.intro (And.intro (And.intro (And.intro (And.intro (And.intro (And.intro (And.intro trivial h1) h1) e3) h1) h1) h4) h4) e6) h4) h4) [(0, .cells (.pair .own (.pair .own (.pair .own .unit))) ((1 : Nat), (2 : Nat), (3 : Nat), ())), (1, .row T25 (st (st r1 a1.1 y2) a1.2.1 y5) 26), (2, .row T78 r2 79), (3, .row T145 r3 146)] .none (() : Unit)) (by kernel_rfl)⟩)
theorem solve_solver_push.ok (k : Nat) : HOk PR 131 (solve_solver_push.h k) :=
  fnH_ok (solve_solver_push.cok k) hmix Try.func131 (code := solve_solver_push.code) (by kernel_rfl) (by kernel_rfl) (by kernel_rfl) (by kernel_rfl) (by kernel_rfl) (fun x => Nat.le_of_ble_eq_true (by kernel_rfl)) fun x y hy => match (solve_solver_push.way k x.1 x.2.1 x.2.2.1 x.2.2.2.1 x.2.2.2.2.1).ap hy with | ⟨ans, cmds, h⟩ => ⟨ans, cmds, via h (by kernel_rfl)⟩

/-! (*tourney/solve.solver).round -/
noncomputable def solve_solver_round.code : Code := Func.cd Try.f133
def solve_solver_round.c1 (k : Nat) (a1 : Int) (r1 : (List V25)) (r2 : (List V78)) (r3 : (List V145)) : Option (((List V25) × (List V78))) :=
  bif' (ine (el Z145 r3 a1).2.2.1 0)
  (req (inL a1 r2) <|
   bnd (fix_Mul k (el Z145 r3 a1).2.2.2.2.1 (el Z78 r2 a1).2.2.2.2.2.2.1) fun y5 =>
   bnd (solve_solver_speed_h_2 k (el Z78 r2 a1) r1 r2 r3) fun y7 =>
   bnd (vec_Dot k y7 (el Z145 r3 a1).1) fun y9 =>
   bnd (solve_over k y9 (el Z145 r3 a1).2.2.1) fun y11 =>
   bnd (fix_Sub k (el Z78 r2 a1).2.2.2.2.2.2.2.1 y11) fun y13 =>
   bnd (fix_Sub k (imin (imax y13 (ineg .i64 y5)) y5) (el Z78 r2 a1).2.2.2.2.2.2.2.1) fun y15 =>
   bnd (vec_Scale k (el Z145 r3 a1).1 y15) fun y17 =>
   bnd (solve_solver_push k (el Z78 r2 a1) y17 r1 r2 r3) fun y19 =>
   some (y19, (st r2 a1 ((el Z78 r2 a1).1, (el Z78 r2 a1).2.1, (el Z78 r2 a1).2.2.1, (el Z78 r2 a1).2.2.2.1, (el Z78 r2 a1).2.2.2.2.1, (el Z78 r2 a1).2.2.2.2.2.1, (el Z78 r2 a1).2.2.2.2.2.2.1, (imin (imax y13 (ineg .i64 y5)) y5), ()))))
  (some (r1, r2))
def solve_solver_round (k : Nat) (a1 : Int) (r1 : (List V25)) (r2 : (List V78)) (r3 : (List V145)) : Option ((List V25) × (List V78)) :=
  req (inL a1 r2) <|
  req (inL a1 r3) <|
  bnd (solve_solver_round.c1 k a1 r1 r2 r3) fun o21 =>
  bif' (ine (el Z145 r3 a1).2.1 0)
  (req (inL a1 o21.2) <|
   bnd (solve_solver_speed_h_2 k (el Z78 o21.2 a1) o21.1 o21.2 r3) fun y25 =>
   bnd (vec_Dot k y25 (el Z78 o21.2 a1).2.2.2.2.1) fun y27 =>
   bnd (fix_Sub k (el Z145 r3 a1).2.2.2.1 y27) fun y29 =>
   bnd (solve_over k y29 (el Z145 r3 a1).2.1) fun y31 =>
   bnd (fix_Add k (el Z78 o21.2 a1).2.2.2.2.2.2.1 y31) fun y33 =>
   bnd (fix_Sub k (imax 0 y33) (el Z78 o21.2 a1).2.2.2.2.2.2.1) fun y35 =>
   bnd (vec_Scale k (el Z78 o21.2 a1).2.2.2.2.1 y35) fun y37 =>
   bnd (solve_solver_push k (el Z78 o21.2 a1) y37 o21.1 o21.2 r3) fun y39 =>
   some (y39, (st o21.2 a1 ((el Z78 o21.2 a1).1, (el Z78 o21.2 a1).2.1, (el Z78 o21.2 a1).2.2.1, (el Z78 o21.2 a1).2.2.2.1, (el Z78 o21.2 a1).2.2.2.2.1, (el Z78 o21.2 a1).2.2.2.2.2.1, (imax 0 y33), (el Z78 o21.2 a1).2.2.2.2.2.2.2))))
  (some (o21.1, o21.2))
noncomputable def solve_solver_round.h (k : Nat) : Go.Sx.HSp := ⟨(.pair T2 (.pair (.slice T25) (.pair (.slice T78) (.pair (.slice T145) .unit)))), (.pair (.slice T25) (.slice T78)), 4, fun x => [.lent (.val .ptr ⟨0, 0, (0 : Int), 0, 0⟩), .dat T2 x.1], fun x => [(0, .cells (.pair .own (.pair .own (.pair .own .unit))) ((1 : Nat), (2 : Nat), (3 : Nat), ())), (1, .row T25 x.2.1 26), (2, .row T78 x.2.2.1 79), (3, .row T145 x.2.2.2.1 146)], fun x => solve_solver_round k x.1 x.2.1 x.2.2.1 x.2.2.2.1, fun x y => [(0, .cells (.pair .own (.pair .own (.pair .own .unit))) ((1 : Nat), (2 : Nat), (3 : Nat), ())), (1, .row T25 y.1 26), (2, .row T78 y.2 79), (3, .row T145 x.2.2.2.1 146)], .none, fun y => (), false⟩
noncomputable def solve_solver_round.cx (k : Nat) : Go.Sx.Ctx := ⟨tys, [(89, fix_Mul.sp k), (182, vec_Dot.sp k), (181, solve_over.sp k), (90, fix_Sub.sp k), (132, vec_Scale.sp k), (85, fix_Add.sp k)], eqs, 116, 4, [(183, solve_solver_speed_h_2.h k), (131, solve_solver_push.h k)], true⟩
theorem solve_solver_round.cok (k : Nat) : CtxOk PR (solve_solver_round.cx k) := ctx_ok tysOk eqsOk (FnsOk.cons (fix_Mul.ok k) (FnsOk.cons (vec_Dot.ok k) (FnsOk.cons (solve_over.ok k) (FnsOk.cons (fix_Sub.ok k) (FnsOk.cons (vec_Scale.ok k) (FnsOk.cons (fix_Add.ok k) FnsOk.nil)))))) (HsOk.cons (solve_solver_speed_h_2.ok k) (HsOk.cons (solve_solver_push.ok k) HsOk.nil))
noncomputable def solve_solver_round.c1p (a1 : Int) (r1 : (List V25)) (r2 : (List V78)) (r3 : (List V145)) : SL := ⟨[(0, (.val .ptr ⟨0, 0, (0 : Int), 0, 0⟩)), (4, (.val .ptr ⟨2, 0, a1, 10, 0⟩)), (5, (.val .ptr ⟨4, 0, (0 : Int), 0, 0⟩)), (24, (.val T4 (ine (el Z145 r3 a1).2.2.1 (0 : Int))))], [(0, .cells (.pair .own (.pair .own (.pair .own .unit))) ((1 : Nat), (2 : Nat), (3 : Nat), ())), (1, .row T25 r1 26), (2, .row T78 r2 79), (3, .row T145 r3 146), (4, .cells T145 (el Z145 r3 a1))]⟩
noncomputable def solve_solver_round.c1q (a1 : Int) (r3 : (List V145)) (o : ((List V25) × (List V78))) : SL := (fun v => ⟨[(0, (.val .ptr ⟨0, 0, (0 : Int), 0, 0⟩)), (4, (.val .ptr ⟨2, 0, a1, 10, 0⟩)), (5, (.val .ptr ⟨4, 0, (0 : Int), 0, 0⟩))], [(0, .cells (.pair .own (.pair .own (.pair .own .unit))) ((1 : Nat), (2 : Nat), (3 : Nat), ())), (1, .row T25 v.1 26), (2, .row T78 v.2 79), (3, .row T145 r3 146), (4, .cells T145 (el Z145 r3 a1))]⟩) o
noncomputable def solve_solver_round.c1x (o : ((List V25) × (List V78))) : Ex := (fun _ => .normal) o
noncomputable def solve_solver_round.c1n (o : ((List V25) × (List V78))) : Nat := (fun _ => 5) o
theorem solve_solver_round.c1_ok (k : Nat) (a1 : Int) (r1 : (List V25)) (r2 : (List V78)) (r3 : (List V145)) : Owp (solve_solver_round.c1 k a1 r1 r2 r3) fun o => Triple PR (solve_solver_round.cx k) (sub solve_solver_round.code [1, 0, 1]) 5 (solve_solver_round.c1p a1 r1 r2 r3) (solve_solver_round.c1x o) (solve_solver_round.c1n o) (solve_solver_round.c1q a1 r3 o) := by
  unfold solve_solver_round.c1; exact
   Owp.bif (fun e3 =>
   Owp.req fun h4 =>
    Owp.bnd fun y5 e6 =>
    Owp.bnd fun y7 e8 =>
    Owp.bnd fun y9 e10 =>
    Owp.bnd fun y11 e12 =>
    Owp.bnd fun y13 e14 =>
    Owp.bnd fun y15 e16 =>
    Owp.bnd fun y17 e18 =>
    Owp.bnd fun y19 e20 =>
    Owp.some (triple_way (solve_solver_round.cok k) hmix [.dec true, .res (.one (.dp T2)) y5, .hres [(0, 0), (1, 1), (2, 2), (3, 3)] (.pair T78 (.pair (.slice T25) (.pair (.slice T78) (.pair (.slice T145) .unit)))) ((el Z78 r2 a1), r1, r2, r3, ()) T22 y7, .res (.one (.dp T2)) y9, .res (.one (.dp T2)) y11, .res (.one (.dp T2)) y13, .res (.one (.dp T2)) y15, .res (.one (.dp T22)) y17, .hres [(0, 0), (1, 1), (2, 2), (3, 3)] (.pair T78 (.pair T22 (.pair (.slice T25) (.pair (.slice T78) (.pair (.slice T145) .unit))))) ((el Z78 r2 a1), y17, r1, r2, r3, ()) (.slice T25) y19] [] [(0, 0), (1, 1), (2, 2), (3, 3), (4, 4)] (via (finP (And.intro (And.intro (And.intro (And.intro (And.intro (And.intro (And.intro (And.intro (And.intro (And.intro (And.intro (And.intro (And.intro (And.intro (And.intro trivial e3) h4) e6) h4) h4) (callHP (solve_solver_speed_h_2.h k) [(0, 0), (1, 1), (2, 2), (3, 3)] ((el Z78 r2 a1), r1, r2, r3, ()) e8)) e10) e12) e14) h4) h4) e16) e18) (callHP (solve_solver_push.h k) [(0, 0), (1, 1), (2, 2), (3, 3)] ((el Z78 r2 a1), y17, r1, r2, r3, ()) e20)) h4) .normal [(0, 0), (1, 1), (2, 2), (3, 3), (4, 4)] (solve_solver_round.c1q a1 r3 (y19, (st r2 a1 ((el Z78 r2 a1).1, (el Z78 r2 a1).2.1, (el Z78 r2 a1).2.2.1, (el Z78 r2 a1).2.2.2.1, (el Z78 r2 a1).2.2.2.2.1, (el Z78 r2 a1).2.2.2.2.2.1, (el Z78 r2 a1).2.2.2.2.2.2.1, (imin (imax y13 (ineg .i64 y5)) y5), ()))))) (by kernel_rfl)))) (fun e3 =>
   Owp.some (triple_way (solve_solver_round.cok k) hmix [.dec false] [] [(0, 0), (1, 1), (2, 2), (3, 3), (4, 4)] (via (finP (And.intro trivial e3) .normal [(0, 0), (1, 1), (2, 2), (3, 3), (4, 4)] (solve_solver_round.c1q a1 r3 (r1, r2))) (by kernel_rfl))))
@[irreducible] noncomputable def solve_solver_round.P (k : Nat) (a1 : Int) (r1 : (List V25)) (r2 : (List V78)) (r3 : (List V145)) (y : ((List V25) × (List V78))) (answers : List Ans) (cmds : List Cmd) : Prop := exec PR (solve_solver_round.cx k) solve_solver_round.code 4 (entryH (solve_solver_round.h k) (a1, r1, r2, r3, ())).st answers (RetH (solve_solver_round.cx k) Try.f133 cmds (solve_solver_round.h k) (a1, r1, r2, r3, ()) y)
theorem solve_solver_round.way (k : Nat) (a1 : Int) (r1 : (List V25)) (r2 : (List V78)) (r3 : (List V145)) : Owp (solve_solver_round k a1 r1 r2 r3) fun y => ∃ answers cmds, solve_solver_round.P k a1 r1 r2 r3 y answers cmds := by
  unfold solve_solver_round; exact
   Owp.req fun h1 =>
   Owp.req fun h2 =>
   Owp.bnd fun o21 e22 =>
   Owp.bif (fun e23 =>
   Owp.req fun h24 =>
    Owp.bnd fun y25 e26 =>
    Owp.bnd fun y27 e28 =>
    Owp.bnd fun y29 e30 =>
    Owp.bnd fun y31 e32 =>
    Owp.bnd fun y33 e34 =>
    Owp.bnd fun y35 e36 =>
    Owp.bnd fun y37 e38 =>
    Owp.bnd fun y39 e40 =>
    Owp.some (⟨[.cut ⟨[], [(0, 0), (1, 1), (2, 2), (3, 3), (4, 17)], (solve_solver_round.c1p a1 r1 r2 r3), 5, .normal, (solve_solver_round.c1q a1 r3 o21), 5⟩, .dec true, .hres [(0, 0), (1, 1), (2, 2), (3, 3)] (.pair T78 (.pair (.slice T25) (.pair (.slice T78) (.pair (.slice T145) .unit)))) ((el Z78 o21.2 a1), o21.1, o21.2, r3, ()) T22 y25, .res (.one (.dp T2)) y27, .res (.one (.dp T2)) y29, .res (.one (.dp T2)) y31, .res (.one (.dp T2)) y33, .res (.one (.dp T2)) y35, .res (.one (.dp T22)) y37, .hres [(0, 0), (1, 1), (2, 2), (3, 3)] (.pair T78 (.pair T22 (.pair (.slice T25) (.pair (.slice T78) (.pair (.slice T145) .unit))))) ((el Z78 o21.2 a1), y37, o21.1, o21.2, r3, ()) (.slice T25) y39], [], via (cutP (And.intro (And.intro (And.intro trivial h1) h2) h2) [(0, 0), (1, 1), (2, 2), (3, 3), (4, 17)] (solve_solver_round.c1p a1 r1 r2 r3) (((solve_solver_round.c1_ok k a1 r1 r2 r3).ap e22)) (rethP (And.intro (And.intro (And.intro (And.intro (And.intro (And.intro (And.intro (And.intro (And.intro (And.intro (And.intro (And.intro (And.intro (And.intro (And.intro (And.intro trivial e23) h24) h24) (callHP (solve_solver_speed_h_2.h k) [(0, 0), (1, 1), (2, 2), (3, 3)] ((el Z78 o21.2 a1), o21.1, o21.2, r3, ()) e26)) h24) e28) e30) e32) e34) h24) h24) h24) e36) e38) (callHP (solve_solver_push.h k) [(0, 0), (1, 1), (2, 2), (3, 3)] ((el Z78 o21.2 a1), y37, o21.1, o21.2, r3, ()) e40)) h24) [(0, .cells (.pair .own (.pair .own (.pair .own .unit))) ((1 : Nat), (2 : Nat), (3 : Nat), ())), (1, .row T25 y39 26), (2, .row T78 (st o21.2 a1 ((el Z78 o21.2 a1).1, (el Z78 o21.2 a1).2.1, (el Z78 o21.2 a1).2.2.1, (el Z78 o21.2 a1).2.2.2.1, (el Z78 o21.2 a1).2.2.2.2.1, (el Z78 o21.2 a1).2.2.2.2.2.1, (imax (0 : Int) y33), (el Z78 o21.2 a1).2.2.2.2.2.2.2)) 79), (3, .row T145 r3 146)] .none (() : Unit))) (by kernel_rfl)⟩)) (fun e23 =>
   Owp.some (⟨[.cut ⟨[], [(0, 0), (1, 1), (2, 2), (3, 3), (4, 17)], (solve_solver_round.c1p a1 r1 r2 r3), 5, .normal, (solve_solver_round.c1q a1 r3 o21), 5⟩, .dec false], [], via (cutP (And.intro (And.intro (And.intro trivial h1) h2) h2) [(0, 0), (1, 1), (2, 2), (3, 3), (4, 17)] (solve_solver_round.c1p a1 r1 r2 r3) (((solve_solver_round.c1_ok k a1 r1 r2 r3).ap e22)) (rethP (And.intro trivial e23) [(0, .cells (.pair .own (.pair .own (.pair .own .unit))) ((1 : Nat), (2 : Nat), (3 : Nat), ())), (1, .row T25 o21.1 26), (2, .row T78 o21.2 79), (3, .row T145 r3 146)] .none (() : Unit))) (by kernel_rfl)⟩))
theorem solve_solver_round.ok (k : Nat) : HOk PR 133 (solve_solver_round.h k) :=
  fnH_ok (solve_solver_round.cok k) hmix Try.func133 (code := solve_solver_round.code) (by kernel_rfl) (by kernel_rfl) (by kernel_rfl) (by kernel_rfl) (by kernel_rfl) (fun x => Nat.le_of_ble_eq_true (by kernel_rfl)) fun x y hy => match (solve_solver_round.way k x.1 x.2.1 x.2.2.1 x.2.2.2.1).ap hy with | ⟨ans, cmds, h⟩ => ⟨ans, cmds, via h (by kernel_rfl)⟩

/-! tourney/solve.Run -/
noncomputable def solve_Run.code : Code := Func.cd Try.f58
def solve_Run.c1 (k : Nat) (a2 : Int) (a3 : Int) : Option (Bool) :=
  bif' (ilt a2 1)
  (some true)
  (bif' (igt a2 65536)
   (some true)
   (bif' (ilt a3 0)
    (some true)
    (some (igt a3 32))))
def solve_Run.c2 (k : Nat) (a0 : (List V25)) : Nat → Int → (List V25) → Option ((List V25))
  | 0, _, _ => none
  | n + 1, v12, v13 =>
   bif' (ilt v12 (len a0))
   (req (inL v12 a0) <|
    bnd (slices_Clone_129 k (el Z25 a0 v12).2.2.2.2.2.2.2.2.1) fun y16 =>
    req (room 120 v13 [((el Z25 a0 v12).1, (el Z25 a0 v12).2.1, (el Z25 a0 v12).2.2.1, (el Z25 a0 v12).2.2.2.1, (el Z25 a0 v12).2.2.2.2.1, (el Z25 a0 v12).2.2.2.2.2.1, (el Z25 a0 v12).2.2.2.2.2.2.1, (el Z25 a0 v12).2.2.2.2.2.2.2.1, y16, (el Z25 a0 v12).2.2.2.2.2.2.2.2.2)]) <|
    solve_Run.c2 k a0 n (iadd .i64 v12 1) (v13 ++ [((el Z25 a0 v12).1, (el Z25 a0 v12).2.1, (el Z25 a0 v12).2.2.1, (el Z25 a0 v12).2.2.2.1, (el Z25 a0 v12).2.2.2.2.1, (el Z25 a0 v12).2.2.2.2.2.1, (el Z25 a0 v12).2.2.2.2.2.2.1, (el Z25 a0 v12).2.2.2.2.2.2.2.1, y16, (el Z25 a0 v12).2.2.2.2.2.2.2.2.2)]))
   (some v13)
def solve_Run.c3 (k : Nat) (a2 : Int) (o19 : (List V25)) (y10 : (List V78)) : Nat → Int → (List V145) → Option ((List V145))
  | 0, _, _ => none
  | n + 1, v21, v22 =>
   bif' (ilt v21 (len y10))
   (req (inL v21 y10) <|
    bnd (solve_solver_row_2 k (el Z78 y10 v21) a2 o19 y10 v22) fun y25 =>
    req (room 48 v22 [y25]) <|
    solve_Run.c3 k a2 o19 y10 n (iadd .i64 v21 1) (v22 ++ [y25]))
   (some v22)
def solve_Run.c4 (k : Nat) (o28 : (List V145)) (y10 : (List V78)) : Nat → Int → (List V25) → Option ((List V25))
  | 0, _, _ => none
  | n + 1, v30, v31 =>
   bif' (ilt v30 (len y10))
   (req (inL v30 y10) <|
    bnd (vec_Scale k (el Z78 y10 v30).2.2.2.2.1 (el Z78 y10 v30).2.2.2.2.2.2.1) fun y34 =>
    req (inL v30 o28) <|
    bnd (vec_Scale k (el Z145 o28 v30).1 (el Z78 y10 v30).2.2.2.2.2.2.2.1) fun y37 =>
    bnd (vec_Add k y34 y37) fun y39 =>
    bnd (solve_solver_push k (el Z78 y10 v30) y39 v31 y10 o28) fun y41 =>
    solve_Run.c4 k o28 y10 n (iadd .i64 v30 1) y41)
   (some v31)
def solve_Run.c6 (k : Nat) (o28 : (List V145)) (v47 : (List V78)) : Nat → Int → (List V25) → (List V78) → Option (((List V25) × (List V78)))
  | 0, _, _, _ => none
  | n + 1, v49, v50, v51 =>
   bif' (ilt v49 (len v47))
   (bnd (solve_solver_round k v49 v50 v51 o28) fun y53 =>
    solve_Run.c6 k o28 v47 n (iadd .i64 v49 1) y53.1 y53.2)
   (some (v50, v51))
def solve_Run.c5 (k : Nat) (a3 : Int) (o28 : (List V145)) : Nat → Int → (List V25) → (List V78) → Option (((List V25) × (List V78)))
  | 0, _, _, _ => none
  | n + 1, v45, v46, v47 =>
   bif' (ilt v45 a3)
   (bnd (solve_Run.c6 k o28 v47 k 0 v46 v47) fun o55 =>
    solve_Run.c5 k a3 o28 n (iadd .i64 v45 1) o55.1 o55.2)
   (some (v46, v47))
def solve_Run (k : Nat) (a0 : (List V25)) (a1 : (List V78)) (a2 : Int) (a3 : Int) : Option ((List V25) × ((List V78) × Int)) :=
  bnd (solve_Check k a0 a1) fun y1 =>
  bif' (ine y1 0)
  (some ([], [], y1))
  (bnd (solve_Run.c1 k a2 a3) fun o7 =>
   bif' o7
   (some ([], [], 1))
   (bnd (slices_Clone k a1) fun y10 =>
    bnd (solve_Run.c2 k a0 k 0 []) fun o19 =>
    bnd (solve_Run.c3 k a2 o19 y10 k 0 []) fun o28 =>
    bnd (solve_Run.c4 k o28 y10 k 0 o19) fun o43 =>
    bnd (solve_Run.c5 k a3 o28 k 0 o43 y10) fun o57 =>
    some (o57.1, o57.2, 0)))
noncomputable def solve_Run.sp (k : Nat) : Go.Sx.Spec := ⟨(.pair (.slice T25) (.pair (.slice T78) T22)), (.more (.ow T25 26) (.more (.dp (.slice T78)) (.one (.dp T2)))), fun x => solve_Run k x.1 x.2.1 x.2.2.1 x.2.2.2.1, false⟩
noncomputable def solve_Run.cx (k : Nat) : Go.Sx.Ctx := ⟨tys, [(76, solve_Check.sp k), (128, slices_Clone.sp k), (129, (slices_Clone_129.sp k).frz), (132, vec_Scale.sp k), (105, vec_Add.sp k)], eqs, 143, 0, [(130, solve_solver_row_2.h k), (131, solve_solver_push.h k), (133, solve_solver_round.h k)], true⟩
theorem solve_Run.cok (k : Nat) : CtxOk PR (solve_Run.cx k) := ctx_ok tysOk eqsOk (FnsOk.cons (solve_Check.ok k) (FnsOk.cons (slices_Clone.ok k) (FnsOk.cons (FnOk.frz rfl (slices_Clone_129.ok k)) (FnsOk.cons (vec_Scale.ok k) (FnsOk.cons (vec_Add.ok k) FnsOk.nil))))) (HsOk.cons (solve_solver_row_2.ok k) (HsOk.cons (solve_solver_push.ok k) (HsOk.cons (solve_solver_round.ok k) HsOk.nil)))
noncomputable def solve_Run.c1p (a0 : (List V25)) (a1 : (List V78)) (a2 : Int) (a3 : Int) : SL := ⟨[(0, (.val (.slice T25) a0)), (1, (.val (.slice T78) a1)), (2, (.val T2 a2)), (3, (.val T2 a3))], []⟩
noncomputable def solve_Run.c1q (a0 : (List V25)) (a1 : (List V78)) (a2 : Int) (a3 : Int) (o : Bool) : SL := (fun v => ⟨[(0, (.val (.slice T25) a0)), (1, (.val (.slice T78) a1)), (2, (.val T2 a2)), (3, (.val T2 a3)), (39, (.val T4 v))], []⟩) o
noncomputable def solve_Run.c1x (o : Bool) : Ex := (fun _ => .normal) o
noncomputable def solve_Run.c1n (o : Bool) : Nat := (fun _ => 0) o
theorem solve_Run.c1_ok (k : Nat) (a0 : (List V25)) (a1 : (List V78)) (a2 : Int) (a3 : Int) : Owp (solve_Run.c1 k a2 a3) fun o => Triple PR (solve_Run.cx k) (sub solve_Run.code [1, 1, 0, 0]) 0 (solve_Run.c1p a0 a1 a2 a3) (solve_Run.c1x o) (solve_Run.c1n o) (solve_Run.c1q a0 a1 a2 a3 o) := by
  unfold solve_Run.c1; exact
   Owp.bif (fun e4 =>
   Owp.some (triple_way (solve_Run.cok k) hmix [.dec true, .dec true, .dec true, .dec true, .dec true, .dec true, .dec true, .dec true, .dec true] [] [] (via (finP (And.intro (And.intro (And.intro (And.intro (And.intro (And.intro (And.intro (And.intro (And.intro trivial e4) e4) e4) tt) tt) tt) tt) tt) tt) .normal [] (solve_Run.c1q a0 a1 a2 a3 true)) (by kernel_rfl)))) (fun e4 =>
   Owp.bif (fun e5 =>
    Owp.some (triple_way (solve_Run.cok k) hmix [.dec false, .dec false, .dec false, .dec true, .dec true, .dec true, .dec true, .dec true, .dec true] [] [] (via (finP (And.intro (And.intro (And.intro (And.intro (And.intro (And.intro (And.intro (And.intro (And.intro trivial e4) e4) e4) e5) e5) e5) tt) tt) tt) .normal [] (solve_Run.c1q a0 a1 a2 a3 true)) (by kernel_rfl)))) (fun e5 =>
    Owp.bif (fun e6 =>
     Owp.some (triple_way (solve_Run.cok k) hmix [.dec false, .dec false, .dec false, .dec false, .dec false, .dec false, .dec true, .dec true, .dec true] [] [] (via (finP (And.intro (And.intro (And.intro (And.intro (And.intro (And.intro (And.intro (And.intro (And.intro trivial e4) e4) e4) e5) e5) e5) e6) e6) e6) .normal [] (solve_Run.c1q a0 a1 a2 a3 true)) (by kernel_rfl)))) (fun e6 =>
     Owp.some (triple_way (solve_Run.cok k) hmix [.dec false, .dec false, .dec false, .dec false, .dec false, .dec false, .dec false, .dec false, .dec false] [] [] (via (finP (And.intro (And.intro (And.intro (And.intro (And.intro (And.intro (And.intro (And.intro (And.intro trivial e4) e4) e4) e5) e5) e5) e6) e6) e6) .normal [] (solve_Run.c1q a0 a1 a2 a3 (igt a3 (32 : Int)))) (by kernel_rfl))))))
noncomputable def solve_Run.c2p (a0 : (List V25)) (a2 : Int) (a3 : Int) (y10 : (List V78)) (v12 : Int) (v13 : (List V25)) : SL := ⟨[(2, (.val T2 a2)), (3, (.val T2 a3)), (12, (.val .ptr ⟨0, 0, (0 : Int), 0, 0⟩)), (44, (.val (.slice T25) a0)), (45, (.val T2 (len a0))), (46, (.val T2 v12))], [(0, .cells (.pair .own (.pair .own (.pair .nil .unit))) ((1 : Nat), (2 : Nat), ((), ()))), (1, .row T25 v13 26), (2, .row T78 y10 79)]⟩
noncomputable def solve_Run.c2q (a2 : Int) (a3 : Int) (y10 : (List V78)) (o : (List V25)) : SL := (fun v => ⟨[(2, (.val T2 a2)), (3, (.val T2 a3)), (12, (.val .ptr ⟨0, 0, (0 : Int), 0, 0⟩))], [(0, .cells (.pair .own (.pair .own (.pair .nil .unit))) ((1 : Nat), (2 : Nat), ((), ()))), (1, .row T25 v 26), (2, .row T78 y10 79)]⟩) o
noncomputable def solve_Run.c2x (o : (List V25)) : Ex := (fun _ => (.exit 0)) o
noncomputable def solve_Run.c2n (o : (List V25)) : Nat := (fun _ => 3) o
theorem solve_Run.c2_ok (k : Nat) (a0 : (List V25)) (a2 : Int) (a3 : Int) (y10 : (List V78)) : ∀ (n : Nat) (v12 : Int) (v13 : (List V25)), Owp (solve_Run.c2 k a0 n v12 v13) fun o => LTriple PR (solve_Run.cx k) (sub solve_Run.code [1, 1, 1, 1, 0, 1, 0, 0]) 3 (solve_Run.c2p a0 a2 a3 y10 v12 v13) (solve_Run.c2x o) (solve_Run.c2n o) (solve_Run.c2q a2 a3 y10 o)
  | 0, _, _ => fun _ h => nomatch h
  | n + 1, v12, v13 => Owp.of (solve_Run.c2.eq_2 ..) (
   Owp.bif (fun e14 =>
   Owp.req fun h15 =>
    Owp.bnd fun y16 e17 =>
    Owp.req fun h18 =>
    fun y hy => loop_back (solve_Run.cok k) hmix 3 (solve_Run.c2p a0 a2 a3 y10 (iadd .i64 v12 (1 : Int)) (v13 ++ [((el Z25 a0 v12).1, (el Z25 a0 v12).2.1, (el Z25 a0 v12).2.2.1, (el Z25 a0 v12).2.2.2.1, (el Z25 a0 v12).2.2.2.2.1, (el Z25 a0 v12).2.2.2.2.2.1, (el Z25 a0 v12).2.2.2.2.2.2.1, (el Z25 a0 v12).2.2.2.2.2.2.2.1, y16, (el Z25 a0 v12).2.2.2.2.2.2.2.2.2)])) [.dec true, .res (.one (.dp T24)) y16, .dec true] [] [(0, 0), (1, 20), (2, 2)] (via (finP (And.intro (And.intro (And.intro (And.intro trivial e14) h15) e17) h18) .normal [(0, 0), (1, 20), (2, 2)] (solve_Run.c2p a0 a2 a3 y10 (iadd .i64 v12 (1 : Int)) (v13 ++ [((el Z25 a0 v12).1, (el Z25 a0 v12).2.1, (el Z25 a0 v12).2.2.1, (el Z25 a0 v12).2.2.2.1, (el Z25 a0 v12).2.2.2.2.1, (el Z25 a0 v12).2.2.2.2.2.1, (el Z25 a0 v12).2.2.2.2.2.2.1, (el Z25 a0 v12).2.2.2.2.2.2.2.1, y16, (el Z25 a0 v12).2.2.2.2.2.2.2.2.2)]))) (by kernel_rfl)) ((solve_Run.c2_ok k a0 a2 a3 y10 n (iadd .i64 v12 (1 : Int)) (v13 ++ [((el Z25 a0 v12).1, (el Z25 a0 v12).2.1, (el Z25 a0 v12).2.2.1, (el Z25 a0 v12).2.2.2.1, (el Z25 a0 v12).2.2.2.2.1, (el Z25 a0 v12).2.2.2.2.2.1, (el Z25 a0 v12).2.2.2.2.2.2.1, (el Z25 a0 v12).2.2.2.2.2.2.2.1, y16, (el Z25 a0 v12).2.2.2.2.2.2.2.2.2)])).ap hy)) (fun e14 =>
   Owp.some (loop_exit (solve_Run.cok k) hmix [.dec false] [] [(0, 0), (1, 1), (2, 2)] (exne 0) (via (finP (And.intro trivial e14) (.exit 0) [(0, 0), (1, 1), (2, 2)] (solve_Run.c2q a2 a3 y10 v13)) (by kernel_rfl)))))
noncomputable def solve_Run.c3p (a2 : Int) (a3 : Int) (o19 : (List V25)) (y10 : (List V78)) (v21 : Int) (v22 : (List V145)) : SL := ⟨[(2, (.val T2 a2)), (3, (.val T2 a3)), (12, (.val .ptr ⟨0, 0, (0 : Int), 0, 0⟩)), (68, (.val .own (1 : Nat))), (69, (.val T2 (len y10))), (70, (.val T2 v21))], [(0, .cells (.pair .own (.pair .own (.pair .own .unit))) ((2 : Nat), (1 : Nat), (3 : Nat), ())), (1, .row T78 y10 79), (2, .row T25 o19 26), (3, .row T145 v22 146)]⟩
noncomputable def solve_Run.c3q (a3 : Int) (o19 : (List V25)) (y10 : (List V78)) (o : (List V145)) : SL := (fun v => ⟨[(3, (.val T2 a3)), (12, (.val .ptr ⟨0, 0, (0 : Int), 0, 0⟩))], [(0, .cells (.pair .own (.pair .own (.pair .own .unit))) ((1 : Nat), (2 : Nat), (3 : Nat), ())), (1, .row T25 o19 26), (2, .row T78 y10 79), (3, .row T145 v 146)]⟩) o
noncomputable def solve_Run.c3x (o : (List V145)) : Ex := (fun _ => (.exit 2)) o
noncomputable def solve_Run.c3n (o : (List V145)) : Nat := (fun _ => 4) o
theorem solve_Run.c3_ok (k : Nat) (a2 : Int) (a3 : Int) (o19 : (List V25)) (y10 : (List V78)) : ∀ (n : Nat) (v21 : Int) (v22 : (List V145)), Owp (solve_Run.c3 k a2 o19 y10 n v21 v22) fun o => LTriple PR (solve_Run.cx k) (sub solve_Run.code [1, 1, 1, 1, 1, 0, 1, 0, 0]) 4 (solve_Run.c3p a2 a3 o19 y10 v21 v22) (solve_Run.c3x o) (solve_Run.c3n o) (solve_Run.c3q a3 o19 y10 o)
  | 0, _, _ => fun _ h => nomatch h
  | n + 1, v21, v22 => Owp.of (solve_Run.c3.eq_2 ..) (
   Owp.bif (fun e23 =>
   Owp.req fun h24 =>
    Owp.bnd fun y25 e26 =>
    Owp.req fun h27 =>
    fun y hy => loop_back (solve_Run.cok k) hmix 4 (solve_Run.c3p a2 a3 o19 y10 (iadd .i64 v21 (1 : Int)) (v22 ++ [y25])) [.dec true, .hres [(0, 0), (1, 2), (2, 1), (3, 3)] (.pair T78 (.pair T2 (.pair (.slice T25) (.pair (.slice T78) (.pair (.slice T145) .unit))))) ((el Z78 y10 v21), a2, o19, y10, v22, ()) T145 y25, .dec true] [] [(0, 0), (1, 1), (2, 2), (3, 19)] (via (finP (And.intro (And.intro (And.intro (And.intro (And.intro trivial e23) h24) h24) (callHP (solve_solver_row_2.h k) [(0, 0), (1, 2), (2, 1), (3, 3)] ((el Z78 y10 v21), a2, o19, y10, v22, ()) e26)) h27) .normal [(0, 0), (1, 1), (2, 2), (3, 19)] (solve_Run.c3p a2 a3 o19 y10 (iadd .i64 v21 (1 : Int)) (v22 ++ [y25]))) (by kernel_rfl)) ((solve_Run.c3_ok k a2 a3 o19 y10 n (iadd .i64 v21 (1 : Int)) (v22 ++ [y25])).ap hy)) (fun e23 =>
   Owp.some (loop_exit (solve_Run.cok k) hmix [.dec false] [] [(0, 0), (1, 2), (2, 1), (3, 3)] (exne 2) (via (finP (And.intro trivial e23) (.exit 2) [(0, 0), (1, 2), (2, 1), (3, 3)] (solve_Run.c3q a3 o19 y10 v22)) (by kernel_rfl)))))
noncomputable def solve_Run.c4p (a3 : Int) (o28 : (List V145)) (y10 : (List V78)) (v30 : Int) (v31 : (List V25)) : SL := ⟨[(3, (.val T2 a3)), (12, (.val .ptr ⟨0, 0, (0 : Int), 0, 0⟩)), (91, (.val .own (1 : Nat))), (92, (.val T2 (len y10))), (93, (.val T2 v30))], [(0, .cells (.pair .own (.pair .own (.pair .own .unit))) ((2 : Nat), (1 : Nat), (3 : Nat), ())), (1, .row T78 y10 79), (2, .row T25 v31 26), (3, .row T145 o28 146)]⟩
noncomputable def solve_Run.c4q (a3 : Int) (o28 : (List V145)) (y10 : (List V78)) (o : (List V25)) : SL := (fun v => ⟨[(3, (.val T2 a3)), (12, (.val .ptr ⟨0, 0, (0 : Int), 0, 0⟩))], [(0, .cells (.pair .own (.pair .own (.pair .own .unit))) ((1 : Nat), (2 : Nat), (3 : Nat), ())), (1, .row T25 v 26), (2, .row T78 y10 79), (3, .row T145 o28 146)]⟩) o
noncomputable def solve_Run.c4x (o : (List V25)) : Ex := (fun _ => (.exit 4)) o
noncomputable def solve_Run.c4n (o : (List V25)) : Nat := (fun _ => 4) o
theorem solve_Run.c4_ok (k : Nat) (a3 : Int) (o28 : (List V145)) (y10 : (List V78)) : ∀ (n : Nat) (v30 : Int) (v31 : (List V25)), Owp (solve_Run.c4 k o28 y10 n v30 v31) fun o => LTriple PR (solve_Run.cx k) (sub solve_Run.code [1, 1, 1, 1, 1, 1, 0, 1, 0, 0]) 4 (solve_Run.c4p a3 o28 y10 v30 v31) (solve_Run.c4x o) (solve_Run.c4n o) (solve_Run.c4q a3 o28 y10 o)
  | 0, _, _ => fun _ h => nomatch h
  | n + 1, v30, v31 => Owp.of (solve_Run.c4.eq_2 ..) (
   Owp.bif (fun e32 =>
   Owp.req fun h33 =>
    Owp.bnd fun y34 e35 =>
    Owp.req fun h36 =>
    Owp.bnd fun y37 e38 =>
    Owp.bnd fun y39 e40 =>
    Owp.bnd fun y41 e42 =>
    fun y hy => loop_back (solve_Run.cok k) hmix 4 (solve_Run.c4p a3 o28 y10 (iadd .i64 v30 (1 : Int)) y41) [.dec true, .res (.one (.dp T22)) y34, .res (.one (.dp T22)) y37, .res (.one (.dp T22)) y39, .hres [(0, 0), (1, 2), (2, 1), (3, 3)] (.pair T78 (.pair T22 (.pair (.slice T25) (.pair (.slice T78) (.pair (.slice T145) .unit))))) ((el Z78 y10 v30), y39, v31, y10, o28, ()) (.slice T25) y41] [] [(0, 0), (1, 1), (2, 2), (3, 3)] (via (finP (And.intro (And.intro (And.intro (And.intro (And.intro (And.intro (And.intro (And.intro (And.intro trivial e32) h33) h33) e35) h36) h36) e38) e40) (callHP (solve_solver_push.h k) [(0, 0), (1, 2), (2, 1), (3, 3)] ((el Z78 y10 v30), y39, v31, y10, o28, ()) e42)) .normal [(0, 0), (1, 1), (2, 2), (3, 3)] (solve_Run.c4p a3 o28 y10 (iadd .i64 v30 (1 : Int)) y41)) (by kernel_rfl)) ((solve_Run.c4_ok k a3 o28 y10 n (iadd .i64 v30 (1 : Int)) y41).ap hy)) (fun e32 =>
   Owp.some (loop_exit (solve_Run.cok k) hmix [.dec false] [] [(0, 0), (1, 2), (2, 1), (3, 3)] (exne 4) (via (finP (And.intro trivial e32) (.exit 4) [(0, 0), (1, 2), (2, 1), (3, 3)] (solve_Run.c4q a3 o28 y10 v31)) (by kernel_rfl)))))
noncomputable def solve_Run.c6p (a3 : Int) (o28 : (List V145)) (v45 : Int) (v47 : (List V78)) (v49 : Int) (v50 : (List V25)) (v51 : (List V78)) : SL := ⟨[(12, (.val .ptr ⟨0, 0, (0 : Int), 0, 0⟩)), (119, (.val T2 a3)), (120, (.val T2 v45)), (126, (.val T2 (len v47))), (127, (.val T2 v49))], [(0, .cells (.pair .own (.pair .own (.pair .own .unit))) ((1 : Nat), (2 : Nat), (3 : Nat), ())), (1, .row T25 v50 26), (2, .row T78 v51 79), (3, .row T145 o28 146)]⟩
noncomputable def solve_Run.c6q (a3 : Int) (o28 : (List V145)) (v45 : Int) (o : ((List V25) × (List V78))) : SL := (fun v => ⟨[(12, (.val .ptr ⟨0, 0, (0 : Int), 0, 0⟩)), (119, (.val T2 a3)), (120, (.val T2 v45))], [(0, .cells (.pair .own (.pair .own (.pair .own .unit))) ((1 : Nat), (2 : Nat), (3 : Nat), ())), (1, .row T25 v.1 26), (2, .row T78 v.2 79), (3, .row T145 o28 146)]⟩) o
noncomputable def solve_Run.c6x (o : ((List V25) × (List V78))) : Ex := (fun _ => (.exit 8)) o
noncomputable def solve_Run.c6n (o : ((List V25) × (List V78))) : Nat := (fun _ => 4) o
theorem solve_Run.c6_ok (k : Nat) (a3 : Int) (o28 : (List V145)) (v45 : Int) (v47 : (List V78)) : ∀ (n : Nat) (v49 : Int) (v50 : (List V25)) (v51 : (List V78)), Owp (solve_Run.c6 k o28 v47 n v49 v50 v51) fun o => LTriple PR (solve_Run.cx k) (sub solve_Run.code [1, 1, 1, 1, 1, 1, 1, 0, 1, 0, 0, 1, 1, 0, 0, 1, 0, 0]) 4 (solve_Run.c6p a3 o28 v45 v47 v49 v50 v51) (solve_Run.c6x o) (solve_Run.c6n o) (solve_Run.c6q a3 o28 v45 o)
  | 0, _, _, _ => fun _ h => nomatch h
  | n + 1, v49, v50, v51 => Owp.of (solve_Run.c6.eq_2 ..) (
   Owp.bif (fun e52 =>
   Owp.bnd fun y53 e54 =>
    fun y hy => loop_back (solve_Run.cok k) hmix 4 (solve_Run.c6p a3 o28 v45 v47 (iadd .i64 v49 (1 : Int)) y53.1 y53.2) [.dec true, .hres [(0, 0), (1, 1), (2, 2), (3, 3)] (.pair T2 (.pair (.slice T25) (.pair (.slice T78) (.pair (.slice T145) .unit)))) (v49, v50, v51, o28, ()) (.pair (.slice T25) (.slice T78)) y53] [] [(0, 0), (1, 1), (2, 2), (3, 3)] (via (finP (And.intro (And.intro trivial e52) (callHP (solve_solver_round.h k) [(0, 0), (1, 1), (2, 2), (3, 3)] (v49, v50, v51, o28, ()) e54)) .normal [(0, 0), (1, 1), (2, 2), (3, 3)] (solve_Run.c6p a3 o28 v45 v47 (iadd .i64 v49 (1 : Int)) y53.1 y53.2)) (by kernel_rfl)) ((solve_Run.c6_ok k a3 o28 v45 v47 n (iadd .i64 v49 (1 : Int)) y53.1 y53.2).ap hy)) (fun e52 =>
   Owp.some (loop_exit (solve_Run.cok k) hmix [.dec false] [] [(0, 0), (1, 1), (2, 2), (3, 3)] (exne 8) (via (finP (And.intro trivial e52) (.exit 8) [(0, 0), (1, 1), (2, 2), (3, 3)] (solve_Run.c6q a3 o28 v45 (v50, v51))) (by kernel_rfl)))))
noncomputable def solve_Run.c5p (a3 : Int) (o28 : (List V145)) (v45 : Int) (v46 : (List V25)) (v47 : (List V78)) : SL := ⟨[(12, (.val .ptr ⟨0, 0, (0 : Int), 0, 0⟩)), (119, (.val T2 a3)), (120, (.val T2 v45))], [(0, .cells (.pair .own (.pair .own (.pair .own .unit))) ((1 : Nat), (2 : Nat), (3 : Nat), ())), (1, .row T25 v46 26), (2, .row T78 v47 79), (3, .row T145 o28 146)]⟩
noncomputable def solve_Run.c5q (o28 : (List V145)) (o : ((List V25) × (List V78))) : SL := (fun v => ⟨[(12, (.val .ptr ⟨0, 0, (0 : Int), 0, 0⟩))], [(0, .cells (.pair .own (.pair .own (.pair .own .unit))) ((1 : Nat), (2 : Nat), (3 : Nat), ())), (1, .row T25 v.1 26), (2, .row T78 v.2 79), (3, .row T145 o28 146)]⟩) o
noncomputable def solve_Run.c5x (o : ((List V25) × (List V78))) : Ex := (fun _ => (.exit 6)) o
noncomputable def solve_Run.c5n (o : ((List V25) × (List V78))) : Nat := (fun _ => 4) o
theorem solve_Run.c5_ok (k : Nat) (a3 : Int) (o28 : (List V145)) : ∀ (n : Nat) (v45 : Int) (v46 : (List V25)) (v47 : (List V78)), Owp (solve_Run.c5 k a3 o28 n v45 v46 v47) fun o => LTriple PR (solve_Run.cx k) (sub solve_Run.code [1, 1, 1, 1, 1, 1, 1, 0, 1, 0, 0]) 4 (solve_Run.c5p a3 o28 v45 v46 v47) (solve_Run.c5x o) (solve_Run.c5n o) (solve_Run.c5q o28 o)
  | 0, _, _, _ => fun _ h => nomatch h
  | n + 1, v45, v46, v47 => Owp.of (solve_Run.c5.eq_2 ..) (
   Owp.bif (fun e48 =>
   Owp.bnd fun o55 e56 =>
    fun y hy => loop_back (solve_Run.cok k) hmix 4 (solve_Run.c5p a3 o28 (iadd .i64 v45 (1 : Int)) o55.1 o55.2) [.dec true, .cut ⟨[], [(0, 0), (1, 1), (2, 2), (3, 3)], (solve_Run.c6p a3 o28 v45 v47 (0 : Int) v46 v47), 4, (.exit 8), (solve_Run.c6q a3 o28 v45 o55), 4⟩] [] [(0, 0), (1, 1), (2, 2), (3, 3)] (via (cutP (And.intro trivial e48) [(0, 0), (1, 1), (2, 2), (3, 3)] (solve_Run.c6p a3 o28 v45 v47 (0 : Int) v46 v47) (((solve_Run.c6_ok k a3 o28 v45 v47 k (0 : Int) v46 v47).ap e56).triple) (finP trivial .normal [(0, 0), (1, 1), (2, 2), (3, 3)] (solve_Run.c5p a3 o28 (iadd .i64 v45 (1 : Int)) o55.1 o55.2))) (by kernel_rfl)) ((solve_Run.c5_ok k a3 o28 n (iadd .i64 v45 (1 : Int)) o55.1 o55.2).ap hy)) (fun e48 =>
   Owp.some (loop_exit (solve_Run.cok k) hmix [.dec false] [] [(0, 0), (1, 1), (2, 2), (3, 3)] (exne 6) (via (finP (And.intro trivial e48) (.exit 6) [(0, 0), (1, 1), (2, 2), (3, 3)] (solve_Run.c5q o28 (v46, v47))) (by kernel_rfl)))))
theorem solve_Run.way (k : Nat) (a0 : (List V25)) (a1 : (List V78)) (a2 : Int) (a3 : Int) : Owp (solve_Run k a0 a1 a2 a3) fun y => ∃ answers cmds, exec PR (solve_Run.cx k) solve_Run.code 0 (entry (.pair (.slice T25) (.pair (.slice T78) T22)) (a0, a1, a2, a3, ())).st answers (Ret (solve_Run.cx k) Try.f58 cmds (.more (.ow T25 26) (.more (.dp (.slice T78)) (.one (.dp T2)))) y) := by
  unfold solve_Run; exact
   Owp.bnd fun y1 e2 =>
   Owp.bif (fun e3 =>
   Owp.some (⟨[.res (.one (.dp T2)) y1, .dec true], [.own 8 T25 26, .deep 9 T78], via (retP (And.intro (And.intro trivial e2) e3) (.more (.ow T25 26) (.more (.dp (.slice T78)) (.one (.dp T2)))) (([], [], y1) : ((List V25) × ((List V78) × Int)))) (by kernel_rfl)⟩)) (fun e3 =>
   Owp.bnd fun o7 e8 =>
    Owp.bif (fun e9 =>
    Owp.some (⟨[.res (.one (.dp T2)) y1, .dec false, .cutR 4 ⟨[], [], (solve_Run.c1p a0 a1 a2 a3), 0, .normal, (solve_Run.c1q a0 a1 a2 a3 o7), 0⟩, .dec true], [.own 8 T25 26, .deep 9 T78], via (cutP (And.intro (And.intro trivial e2) e3) [] (solve_Run.c1p a0 a1 a2 a3) (((solve_Run.c1_ok k a0 a1 a2 a3).ap e8)) (retP (And.intro trivial e9) (.more (.ow T25 26) (.more (.dp (.slice T78)) (.one (.dp T2)))) (([], [], (1 : Int)) : ((List V25) × ((List V78) × Int))))) (by kernel_rfl)⟩)) (fun e9 =>
    Owp.bnd fun y10 e11 =>
     Owp.bnd fun o19 e20 =>
     Owp.bnd fun o28 e29 =>
     Owp.bnd fun o43 e44 =>
     Owp.bnd fun o57 e58 =>
     Owp.some (⟨[.res (.one (.dp T2)) y1, .dec false, .cutR 4 ⟨[], [], (solve_Run.c1p a0 a1 a2 a3), 0, .normal, (solve_Run.c1q a0 a1 a2 a3 o7), 0⟩, .dec false, .res (.one (.ow T78 79)) y10, .cut ⟨[.ownF 3 0 T25 26], [(0, 3), (1, 8), (2, 1)], (solve_Run.c2p a0 a2 a3 y10 (0 : Int) []), 3, (.exit 0), (solve_Run.c2q a2 a3 y10 o19), 3⟩, .cut ⟨[.ownF 0 2 T145 146], [(0, 0), (1, 2), (2, 1), (3, 9)], (solve_Run.c3p a2 a3 o19 y10 (0 : Int) []), 4, (.exit 2), (solve_Run.c3q a3 o19 y10 o28), 4⟩, .cut ⟨[], [(0, 0), (1, 2), (2, 1), (3, 3)], (solve_Run.c4p a3 o28 y10 (0 : Int) o19), 4, (.exit 4), (solve_Run.c4q a3 o28 y10 o43), 4⟩, .cut ⟨[], [(0, 0), (1, 1), (2, 2), (3, 3)], (solve_Run.c5p a3 o28 (0 : Int) o43 y10), 4, (.exit 6), (solve_Run.c5q o28 o57), 4⟩], [.freeze 9], via (cutP (And.intro (And.intro trivial e2) e3) [] (solve_Run.c1p a0 a1 a2 a3) (((solve_Run.c1_ok k a0 a1 a2 a3).ap e8)) (cutP (And.intro (And.intro trivial e9) e11) [(0, 3), (1, 8), (2, 1)] (solve_Run.c2p a0 a2 a3 y10 (0 : Int) []) (((solve_Run.c2_ok k a0 a2 a3 y10 k (0 : Int) []).ap e20).triple) (cutP trivial [(0, 0), (1, 2), (2, 1), (3, 9)] (solve_Run.c3p a2 a3 o19 y10 (0 : Int) []) (((solve_Run.c3_ok k a2 a3 o19 y10 k (0 : Int) []).ap e29).triple) (cutP trivial [(0, 0), (1, 2), (2, 1), (3, 3)] (solve_Run.c4p a3 o28 y10 (0 : Int) o19) (((solve_Run.c4_ok k a3 o28 y10 k (0 : Int) o19).ap e44).triple) (cutP trivial [(0, 0), (1, 1), (2, 2), (3, 3)] (solve_Run.c5p a3 o28 (0 : Int) o43 y10) (((solve_Run.c5_ok k a3 o28 k (0 : Int) o43 y10).ap e58).triple) (retP trivial (.more (.ow T25 26) (.more (.dp (.slice T78)) (.one (.dp T2)))) ((o57.1, o57.2, (0 : Int)) : ((List V25) × ((List V78) × Int))))))))) (by kernel_rfl)⟩)))
theorem solve_Run.ok (k : Nat) : FnOk PR 58 (solve_Run.sp k) :=
  fn_ok (solve_Run.cok k) hmix Try.func58 (code := solve_Run.code) (by kernel_rfl) (by kernel_rfl) (by kernel_rfl) rfl rfl (by kernel_rfl) (by kernel_rfl) (by kernel_rfl) (fun x => Nat.le_of_ble_eq_true (by kernel_rfl)) fun x y hy => (solve_Run.way k x.1 x.2.1 x.2.2.1 x.2.2.2.1).ap hy

end Go.Proofs.T1
