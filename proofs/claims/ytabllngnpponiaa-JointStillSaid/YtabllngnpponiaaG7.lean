import Derived.Test.YtabllngnpponiaaG0
import Derived.Test.YtabllngnpponiaaG1
import Derived.Test.YtabllngnpponiaaG2
import Derived.Test.YtabllngnpponiaaG3
import Derived.Test.YtabllngnpponiaaG6
namespace Go.Proofs.T1
open Go Go.Sx Go.Proofs
set_option maxRecDepth 100000
set_option linter.unusedVariables false
/-! tourney/tourref2.Corners -/
noncomputable def tourref2_Corners.code : Code := Func.cd Try.f159
def tourref2_Corners.c1 (k : Nat) (a0 : (List V27)) : Nat → Int → Option (Unit ⊕ Unit)
  | 0, _ => none
  | n + 1, v4 =>
   bif' (ilt v4 (len a0))
   (req (inL v4 a0) <|
    bnd (tourref2_coord k (el Z27 a0 v4) 2097152) fun y7 =>
    bif' y7
    (tourref2_Corners.c1 k a0 n (iadd .i64 v4 1))
    (some (.inl ())))
   (some (.inr ()))
def tourref2_Corners.c3 (k : Nat) (a0 : (List V27)) (v16 : Int) (y21 : V27) : Nat → Int → Option (Unit ⊕ Unit)
  | 0, _ => none
  | n + 1, v23 =>
   bif' (ilt v23 (len a0))
   (req (nz (len a0)) <|
    req (inL (irem (iadd .i64 v16 v23) (len a0)) a0) <|
    bnd (tourref2_sub k (el Z27 a0 (irem (iadd .i64 v16 v23) (len a0))) (el Z27 a0 v16)) fun y27 =>
    bnd (tourref2_Cross k y21 y27) fun y29 =>
    bnd (tourref2_Of k (imul .i64 8 (iadd .i64 (iadd .i64 (iadd .i64 (imax y21.1 (ineg .i64 y21.1)) (imax y21.2.1 (ineg .i64 y21.2.1))) (imax y27.1 (ineg .i64 y27.1))) (imax y27.2.1 (ineg .i64 y27.2.1))))) fun y31 =>
    bnd (tourref2_Big_Cmp k y29 y31) fun y33 =>
    bif' (ilt y33 0)
    (some (.inl ()))
    (tourref2_Corners.c3 k a0 v16 y21 n (iadd .i64 v23 1)))
   (some (.inr ()))
def tourref2_Corners.c2 (k : Nat) (a0 : (List V27)) : Nat → Int → Option (Unit ⊕ Unit)
  | 0, _ => none
  | n + 1, v16 =>
   bif' (ilt v16 (len a0))
   (req (inL v16 a0) <|
    req (nz (len a0)) <|
    req (inL (irem (iadd .i64 v16 1) (len a0)) a0) <|
    bnd (tourref2_sub k (el Z27 a0 (irem (iadd .i64 v16 1) (len a0))) (el Z27 a0 v16)) fun y21 =>
    bnd (tourref2_Corners.c3 k a0 v16 y21 k 2) fun o36 =>
    two o36 (fun y38 =>
    some (.inl ())) (fun y40 =>
    tourref2_Corners.c2 k a0 n (iadd .i64 v16 1)))
   (some (.inr ()))
def tourref2_Corners (k : Nat) (a0 : (List V27)) : Option Int :=
  bnd (tourref2_Poly k a0) fun y1 =>
  bif' (ine y1 0)
  (some y1)
  (bnd (tourref2_Corners.c1 k a0 k 0) fun o10 =>
   two o10 (fun y12 =>
   some 1) (fun y14 =>
   bnd (tourref2_Corners.c2 k a0 k 0) fun o42 =>
    two o42 (fun y44 =>
    some 3) (fun y46 =>
    bnd (tourref2_Inside k a0 (0, 0, ())) fun y48 =>
     bif' y48
     (some 0)
     (some 3))))
noncomputable def tourref2_Corners.sp (k : Nat) : Go.Sx.Spec := ⟨(.pair T22 .unit), (.one (.dp T2)), fun x => tourref2_Corners k x.1, false⟩
noncomputable def tourref2_Corners.cx (k : Nat) : Go.Sx.Ctx := ⟨tys, [(38, tourref2_Poly.sp k), (94, tourref2_coord.sp k), (119, tourref2_sub.sp k), (160, tourref2_Cross.sp k), (162, tourref2_Of.sp k), (120, tourref2_Big_Cmp.sp k), (115, tourref2_Inside.sp k)], eqs, 99, 0, [], false⟩
theorem tourref2_Corners.cok (k : Nat) : CtxOk PR (tourref2_Corners.cx k) := ctx_ok tysOk eqsOk (FnsOk.cons (tourref2_Poly.ok k) (FnsOk.cons (tourref2_coord.ok k) (FnsOk.cons (tourref2_sub.ok k) (FnsOk.cons (tourref2_Cross.ok k) (FnsOk.cons (tourref2_Of.ok k) (FnsOk.cons (tourref2_Big_Cmp.ok k) (FnsOk.cons (tourref2_Inside.ok k) FnsOk.nil))))))) HsOk.nil
noncomputable def tourref2_Corners.c1p (a0 : (List V27)) (v4 : Int) : SL := ⟨[(0, (.val T22 a0)), (16, (.val T22 a0)), (17, (.val T2 (len a0))), (18, (.val T2 v4))], []⟩
noncomputable def tourref2_Corners.c1q (a0 : (List V27)) (o : Unit ⊕ Unit) : SL := (fun o => two o (fun v => ⟨[(2, (.val T2 (1 : Int)))], []⟩) (fun v => ⟨[(0, (.val T22 a0))], []⟩)) o
noncomputable def tourref2_Corners.c1x (o : Unit ⊕ Unit) : Ex := (fun o => two o (fun _ => .ret) (fun _ => (.exit 0))) o
noncomputable def tourref2_Corners.c1n (o : Unit ⊕ Unit) : Nat := (fun o => two o (fun _ => 0) (fun _ => 0)) o
theorem tourref2_Corners.c1_ok (k : Nat) (a0 : (List V27)) : ∀ (n : Nat) (v4 : Int), Owp (tourref2_Corners.c1 k a0 n v4) fun o => LTriple PR (tourref2_Corners.cx k) (sub tourref2_Corners.code [1, 1, 0, 1, 0, 0]) 0 (tourref2_Corners.c1p a0 v4) (tourref2_Corners.c1x o) (tourref2_Corners.c1n o) (tourref2_Corners.c1q a0 o)
  | 0, _ => fun _ h => nomatch h
  | n + 1, v4 => Owp.of (tourref2_Corners.c1.eq_2 ..) (
   Owp.bif (fun e5 =>
   Owp.req fun h6 =>
    Owp.bnd fun y7 e8 =>
    Owp.bif (fun e9 =>
    fun y hy => loop_back (tourref2_Corners.cok k) hmix 0 (tourref2_Corners.c1p a0 (iadd .i64 v4 (1 : Int))) [.dec true, .res (.one (.dp T4)) y7, .dec false] [] [] (via (finP (And.intro (And.intro (And.intro (And.intro trivial e5) h6) e8) (congrArg not e9)) .normal [] (tourref2_Corners.c1p a0 (iadd .i64 v4 (1 : Int)))) (by kernel_rfl)) ((tourref2_Corners.c1_ok k a0 n (iadd .i64 v4 (1 : Int))).ap hy)) (fun e9 =>
    Owp.some (loop_exit (tourref2_Corners.cok k) hmix [.dec true, .res (.one (.dp T4)) y7, .dec true] [] [] exne_ret (via (finP (And.intro (And.intro (And.intro (And.intro trivial e5) h6) e8) (congrArg not e9)) .ret [] (tourref2_Corners.c1q a0 (.inl ()))) (by kernel_rfl))))) (fun e5 =>
   Owp.some (loop_exit (tourref2_Corners.cok k) hmix [.dec false] [] [] (exne 0) (via (finP (And.intro trivial e5) (.exit 0) [] (tourref2_Corners.c1q a0 (.inr ()))) (by kernel_rfl)))))
noncomputable def tourref2_Corners.c3p (a0 : (List V27)) (v16 : Int) (y21 : V27) (v23 : Int) : SL := ⟨[(0, (.val T22 a0)), (6, (.val T2 v16)), (7, (.val .ptr ⟨0, 0, (0 : Int), 0, 0⟩)), (8, (.val .ptr ⟨1, 0, (0 : Int), 0, 0⟩)), (9, (.val T2 v23)), (26, (.val T22 a0)), (27, (.val T2 (len a0))), (28, (.val T2 v16))], [(0, .cells T27 (el Z27 a0 v16)), (1, .cells T27 y21)]⟩
noncomputable def tourref2_Corners.c3q (a0 : (List V27)) (v16 : Int) (o : Unit ⊕ Unit) : SL := (fun o => two o (fun v => ⟨[(2, (.val T2 (3 : Int)))], []⟩) (fun v => ⟨[(0, (.val T22 a0)), (26, (.val T22 a0)), (27, (.val T2 (len a0))), (28, (.val T2 v16))], []⟩)) o
noncomputable def tourref2_Corners.c3x (o : Unit ⊕ Unit) : Ex := (fun o => two o (fun _ => .ret) (fun _ => (.exit 4))) o
noncomputable def tourref2_Corners.c3n (o : Unit ⊕ Unit) : Nat := (fun o => two o (fun _ => 0) (fun _ => 0)) o
theorem tourref2_Corners.c3_ok (k : Nat) (a0 : (List V27)) (v16 : Int) (y21 : V27) : ∀ (n : Nat) (v23 : Int), Owp (tourref2_Corners.c3 k a0 v16 y21 n v23) fun o => LTriple PR (tourref2_Corners.cx k) (sub tourref2_Corners.code [1, 1, 1, 0, 1, 0, 0, 1, 1, 0, 0, 1, 1, 1, 0, 0]) 2 (tourref2_Corners.c3p a0 v16 y21 v23) (tourref2_Corners.c3x o) (tourref2_Corners.c3n o) (tourref2_Corners.c3q a0 v16 o)
  | 0, _ => fun _ h => nomatch h
  | n + 1, v23 => Owp.of (tourref2_Corners.c3.eq_2 ..) (
   Owp.bif (fun e24 =>
   Owp.req fun h25 =>
    Owp.req fun h26 =>
    Owp.bnd fun y27 e28 =>
    Owp.bnd fun y29 e30 =>
    Owp.bnd fun y31 e32 =>
    Owp.bnd fun y33 e34 =>
    Owp.bif (fun e35 =>
    Owp.some (loop_exit (tourref2_Corners.cok k) hmix [.dec true, .res (.one (.dp T27)) y27, .res (.one (.dp T130)) y29, .res (.one (.dp T130)) y31, .res (.one (.dp T2)) y33, .dec true] [] [] exne_ret (via (finP (And.intro (And.intro (And.intro (And.intro (And.intro (And.intro (And.intro (And.intro trivial e24) h25) h26) e28) e30) e32) e34) e35) .ret [] (tourref2_Corners.c3q a0 v16 (.inl ()))) (by kernel_rfl)))) (fun e35 =>
    fun y hy => loop_back (tourref2_Corners.cok k) hmix 2 (tourref2_Corners.c3p a0 v16 y21 (iadd .i64 v23 (1 : Int))) [.dec true, .res (.one (.dp T27)) y27, .res (.one (.dp T130)) y29, .res (.one (.dp T130)) y31, .res (.one (.dp T2)) y33, .dec false] [] [(0, 0), (1, 1)] (via (finP (And.intro (And.intro (And.intro (And.intro (And.intro (And.intro (And.intro (And.intro trivial e24) h25) h26) e28) e30) e32) e34) e35) .normal [(0, 0), (1, 1)] (tourref2_Corners.c3p a0 v16 y21 (iadd .i64 v23 (1 : Int)))) (by kernel_rfl)) ((tourref2_Corners.c3_ok k a0 v16 y21 n (iadd .i64 v23 (1 : Int))).ap hy))) (fun e24 =>
   Owp.some (loop_exit (tourref2_Corners.cok k) hmix [.dec false] [] [] (exne 4) (via (finP (And.intro trivial e24) (.exit 4) [] (tourref2_Corners.c3q a0 v16 (.inr ()))) (by kernel_rfl)))))
noncomputable def tourref2_Corners.c2p (a0 : (List V27)) (v16 : Int) : SL := ⟨[(0, (.val T22 a0)), (26, (.val T22 a0)), (27, (.val T2 (len a0))), (28, (.val T2 v16))], []⟩
noncomputable def tourref2_Corners.c2q (a0 : (List V27)) (o : Unit ⊕ Unit) : SL := (fun o => two o (fun v => ⟨[(2, (.val T2 (3 : Int)))], []⟩) (fun v => ⟨[(0, (.val T22 a0))], []⟩)) o
noncomputable def tourref2_Corners.c2x (o : Unit ⊕ Unit) : Ex := (fun o => two o (fun _ => .ret) (fun _ => (.exit 2))) o
noncomputable def tourref2_Corners.c2n (o : Unit ⊕ Unit) : Nat := (fun o => two o (fun _ => 0) (fun _ => 0)) o
theorem tourref2_Corners.c2_ok (k : Nat) (a0 : (List V27)) : ∀ (n : Nat) (v16 : Int), Owp (tourref2_Corners.c2 k a0 n v16) fun o => LTriple PR (tourref2_Corners.cx k) (sub tourref2_Corners.code [1, 1, 1, 0, 1, 0, 0]) 0 (tourref2_Corners.c2p a0 v16) (tourref2_Corners.c2x o) (tourref2_Corners.c2n o) (tourref2_Corners.c2q a0 o)
  | 0, _ => fun _ h => nomatch h
  | n + 1, v16 => Owp.of (tourref2_Corners.c2.eq_2 ..) (
   Owp.bif (fun e17 =>
   Owp.req fun h18 =>
    Owp.req fun h19 =>
    Owp.req fun h20 =>
    Owp.bnd fun y21 e22 =>
    Owp.bnd fun o36 e37 =>
    Owp.two (fun y38 e39 =>
    Owp.some (loop_exit (tourref2_Corners.cok k) hmix [.dec true, .res (.one (.dp T27)) y21, .cut ⟨[], [(0, 4), (1, 17)], (tourref2_Corners.c3p a0 v16 y21 (2 : Int)), 2, .ret, (tourref2_Corners.c3q a0 v16 (.inl ())), 0⟩] [] [] exne_ret (via (cutP (And.intro (And.intro (And.intro (And.intro (And.intro trivial e17) h18) h19) h20) e22) [(0, 4), (1, 17)] (tourref2_Corners.c3p a0 v16 y21 (2 : Int)) (((tourref2_Corners.c3_ok k a0 v16 y21 k (2 : Int)).ap (e37.trans (congrArg some e39))).triple) (finP trivial .ret [] (tourref2_Corners.c2q a0 (.inl ())))) (by kernel_rfl)))) (fun y40 e41 =>
    fun y hy => loop_back (tourref2_Corners.cok k) hmix 0 (tourref2_Corners.c2p a0 (iadd .i64 v16 (1 : Int))) [.dec true, .res (.one (.dp T27)) y21, .cut ⟨[], [(0, 4), (1, 17)], (tourref2_Corners.c3p a0 v16 y21 (2 : Int)), 2, (.exit 4), (tourref2_Corners.c3q a0 v16 (.inr ())), 0⟩] [] [] (via (cutP (And.intro (And.intro (And.intro (And.intro (And.intro trivial e17) h18) h19) h20) e22) [(0, 4), (1, 17)] (tourref2_Corners.c3p a0 v16 y21 (2 : Int)) (((tourref2_Corners.c3_ok k a0 v16 y21 k (2 : Int)).ap (e37.trans (congrArg some e41))).triple) (finP trivial .normal [] (tourref2_Corners.c2p a0 (iadd .i64 v16 (1 : Int))))) (by kernel_rfl)) ((tourref2_Corners.c2_ok k a0 n (iadd .i64 v16 (1 : Int))).ap hy))) (fun e17 =>
   Owp.some (loop_exit (tourref2_Corners.cok k) hmix [.dec false] [] [] (exne 2) (via (finP (And.intro trivial e17) (.exit 2) [] (tourref2_Corners.c2q a0 (.inr ()))) (by kernel_rfl)))))
theorem tourref2_Corners.way (k : Nat) (a0 : (List V27)) : Owp (tourref2_Corners k a0) fun y => ∃ answers cmds, exec PR (tourref2_Corners.cx k) tourref2_Corners.code 0 (entry (.pair T22 .unit) (a0, ())).st answers (Ret (tourref2_Corners.cx k) Try.f159 cmds (.one (.dp T2)) y) := by
  unfold tourref2_Corners; exact
   Owp.bnd fun y1 e2 =>
   Owp.bif (fun e3 =>
   Owp.some (⟨[.res (.one (.dp T2)) y1, .dec true], [], via (retP (And.intro (And.intro trivial e2) e3) (.one (.dp T2)) (y1 : Int)) (by kernel_rfl)⟩)) (fun e3 =>
   Owp.bnd fun o10 e11 =>
    Owp.two (fun y12 e13 =>
    Owp.some (⟨[.res (.one (.dp T2)) y1, .dec false, .cut ⟨[], [], (tourref2_Corners.c1p a0 (0 : Int)), 0, .ret, (tourref2_Corners.c1q a0 (.inl ())), 0⟩], [], via (cutP (And.intro (And.intro trivial e2) e3) [] (tourref2_Corners.c1p a0 (0 : Int)) (((tourref2_Corners.c1_ok k a0 k (0 : Int)).ap (e11.trans (congrArg some e13))).triple) (retP trivial (.one (.dp T2)) ((1 : Int) : Int))) (by kernel_rfl)⟩)) (fun y14 e15 =>
    Owp.bnd fun o42 e43 =>
     Owp.two (fun y44 e45 =>
     Owp.some (⟨[.res (.one (.dp T2)) y1, .dec false, .cut ⟨[], [], (tourref2_Corners.c1p a0 (0 : Int)), 0, (.exit 0), (tourref2_Corners.c1q a0 (.inr ())), 0⟩, .cut ⟨[], [], (tourref2_Corners.c2p a0 (0 : Int)), 0, .ret, (tourref2_Corners.c2q a0 (.inl ())), 0⟩], [], via (cutP (And.intro (And.intro trivial e2) e3) [] (tourref2_Corners.c1p a0 (0 : Int)) (((tourref2_Corners.c1_ok k a0 k (0 : Int)).ap (e11.trans (congrArg some e15))).triple) (cutP trivial [] (tourref2_Corners.c2p a0 (0 : Int)) (((tourref2_Corners.c2_ok k a0 k (0 : Int)).ap (e43.trans (congrArg some e45))).triple) (retP trivial (.one (.dp T2)) ((3 : Int) : Int)))) (by kernel_rfl)⟩)) (fun y46 e47 =>
     Owp.bnd fun y48 e49 =>
      Owp.bif (fun e50 =>
      Owp.some (⟨[.res (.one (.dp T2)) y1, .dec false, .cut ⟨[], [], (tourref2_Corners.c1p a0 (0 : Int)), 0, (.exit 0), (tourref2_Corners.c1q a0 (.inr ())), 0⟩, .cut ⟨[], [], (tourref2_Corners.c2p a0 (0 : Int)), 0, (.exit 2), (tourref2_Corners.c2q a0 (.inr ())), 0⟩, .res (.one (.dp T4)) y48, .dec false], [], via (cutP (And.intro (And.intro trivial e2) e3) [] (tourref2_Corners.c1p a0 (0 : Int)) (((tourref2_Corners.c1_ok k a0 k (0 : Int)).ap (e11.trans (congrArg some e15))).triple) (cutP trivial [] (tourref2_Corners.c2p a0 (0 : Int)) (((tourref2_Corners.c2_ok k a0 k (0 : Int)).ap (e43.trans (congrArg some e47))).triple) (retP (And.intro (And.intro trivial e49) (congrArg not e50)) (.one (.dp T2)) ((0 : Int) : Int)))) (by kernel_rfl)⟩)) (fun e50 =>
      Owp.some (⟨[.res (.one (.dp T2)) y1, .dec false, .cut ⟨[], [], (tourref2_Corners.c1p a0 (0 : Int)), 0, (.exit 0), (tourref2_Corners.c1q a0 (.inr ())), 0⟩, .cut ⟨[], [], (tourref2_Corners.c2p a0 (0 : Int)), 0, (.exit 2), (tourref2_Corners.c2q a0 (.inr ())), 0⟩, .res (.one (.dp T4)) y48, .dec true], [], via (cutP (And.intro (And.intro trivial e2) e3) [] (tourref2_Corners.c1p a0 (0 : Int)) (((tourref2_Corners.c1_ok k a0 k (0 : Int)).ap (e11.trans (congrArg some e15))).triple) (cutP trivial [] (tourref2_Corners.c2p a0 (0 : Int)) (((tourref2_Corners.c2_ok k a0 k (0 : Int)).ap (e43.trans (congrArg some e47))).triple) (retP (And.intro (And.intro trivial e49) (congrArg not e50)) (.one (.dp T2)) ((3 : Int) : Int)))) (by kernel_rfl)⟩)))))
theorem tourref2_Corners.ok (k : Nat) : FnOk PR 159 (tourref2_Corners.sp k) :=
  fn_ok (tourref2_Corners.cok k) hmix Try.func159 (code := tourref2_Corners.code) (by kernel_rfl) (by kernel_rfl) (by kernel_rfl) rfl rfl (by kernel_rfl) (by kernel_rfl) (by kernel_rfl) (fun x => Nat.le_of_ble_eq_true (by kernel_rfl)) fun x y hy => (tourref2_Corners.way k x.1).ap hy

/-! tourney/tourref2.between -/
noncomputable def tourref2_between.code : Code := Func.cd Try.f123
def tourref2_between (k : Nat) (a0 : Int) (a1 : Int) (a2 : Int) : Option Bool :=
  bif' (ile a1 a0)
  (some (ile a0 a2))
  (some false)
noncomputable def tourref2_between.sp (k : Nat) : Go.Sx.Spec := ⟨(.pair T2 T27), (.one (.dp T4)), fun x => tourref2_between k x.1 x.2.1 x.2.2.1, false⟩
noncomputable def tourref2_between.cx (k : Nat) : Go.Sx.Ctx := ⟨tys, [], eqs, 15, 0, [], false⟩
theorem tourref2_between.cok (k : Nat) : CtxOk PR (tourref2_between.cx k) := ctx_ok tysOk eqsOk FnsOk.nil HsOk.nil
theorem tourref2_between.way (k : Nat) (a0 : Int) (a1 : Int) (a2 : Int) : Owp (tourref2_between k a0 a1 a2) fun y => ∃ answers cmds, exec PR (tourref2_between.cx k) tourref2_between.code 0 (entry (.pair T2 T27) (a0, a1, a2, ())).st answers (Ret (tourref2_between.cx k) Try.f123 cmds (.one (.dp T4)) y) := by
  unfold tourref2_between; exact
   Owp.bif (fun e1 =>
   Owp.some (⟨[.dec true, .dec true, .dec true, .dec true], [], via (retP (And.intro (And.intro (And.intro (And.intro trivial e1) e1) e1) e1) (.one (.dp T4)) ((ile a0 a2) : Bool)) (by kernel_rfl)⟩)) (fun e1 =>
   Owp.some (⟨[.dec false, .dec false, .dec false, .dec false], [], via (retP (And.intro (And.intro (And.intro (And.intro trivial e1) e1) e1) e1) (.one (.dp T4)) (false : Bool)) (by kernel_rfl)⟩))
theorem tourref2_between.ok (k : Nat) : FnOk PR 123 (tourref2_between.sp k) :=
  fn_ok (tourref2_between.cok k) hmix Try.func123 (code := tourref2_between.code) (by kernel_rfl) (by kernel_rfl) (by kernel_rfl) rfl rfl (by kernel_rfl) (by kernel_rfl) (by kernel_rfl) (fun x => Nat.le_of_ble_eq_true (by kernel_rfl)) fun x y hy => (tourref2_between.way k x.1 x.2.1 x.2.2.1).ap hy

/-! tourney/tourref2.Body -/
noncomputable def tourref2_Body.code : Code := Func.cd Try.f113
def tourref2_Body.c1 (k : Nat) (a0 : V49) : Option (Bool) :=
  bnd (tourref2_coord k a0.1 58982400) fun y4 =>
  bif' y4
  (bnd (tourref2_coord k a0.2.1 268435456) fun y7 =>
   bif' y7
   (bnd (tourref2_between k a0.2.2.2.1 (-16777216) 16777216) fun y10 =>
    bif' y10
    (bnd (tourref2_between k a0.2.2.1 0 65535) fun y13 =>
     some (!y13))
    (some true))
   (some true))
  (some true)
def tourref2_Body.c2 (k : Nat) (a0 : V49) : Option (Bool) :=
  bnd (tourref2_between k a0.2.2.2.2.1 0 1099511627776) fun y18 =>
  bif' y18
  (bnd (tourref2_between k a0.2.2.2.2.2.1 0 1099511627776) fun y21 =>
   bif' y21
   (bnd (tourref2_between k a0.2.2.2.2.2.2.1 0 65536) fun y24 =>
    bif' y24
    (bnd (tourref2_between k a0.2.2.2.2.2.2.2.1 0 65536) fun y27 =>
     bif' y27
     (bnd (tourref2_between k a0.2.2.2.2.2.2.2.2.2.2.1 0 1000) fun y30 =>
      some (!y30))
     (some true))
    (some true))
   (some true))
  (some true)
def tourref2_Body.c3 (k : Nat) (a0 : V49) : Option (Bool) :=
  bif' (ine a0.2.1.1 0)
  (some true)
  (bif' (ine a0.2.1.2.1 0)
   (some true)
   (some (ine a0.2.2.2.1 0)))
def tourref2_Body.c4 (k : Nat) (a0 : V49) : Option (Bool) :=
  bif' (ieq a0.2.2.2.2.1 0)
  (some (igt a0.2.2.2.2.2.1 0))
  (some false)
def tourref2_Body.c5 (k : Nat) (a0 : V49) (o40 : Bool) : Option (Bool) :=
  bif' o40
  (some o40)
  (bif' (igt a0.2.2.2.2.1 0)
   (some (ieq a0.2.2.2.2.2.1 0))
   (some false))
def tourref2_Body.c6 (k : Nat) (a0 : V49) (o37 : Bool) : Option (Bool) :=
  bif' (ieq a0.2.2.2.2.1 0)
  (bif' o37
   (some true)
   (bif' a0.2.2.2.2.2.2.2.2.2.1
    (some true)
    (some (igt a0.2.2.2.2.2.2.2.2.2.2.1 0))))
  (some false)
def tourref2_Body.c7 (k : Nat) (a0 : V49) (o37 : Bool) : Option (Bool) :=
  bif' a0.2.2.2.2.2.2.2.2.2.1
  (some o37)
  (some false)
def tourref2_Body (k : Nat) (a0 : V49) : Option Int :=
  bnd (tourref2_Corners k a0.2.2.2.2.2.2.2.2.1) fun y1 =>
  bif' (ine y1 0)
  (some y1)
  (bnd (tourref2_Body.c1 k a0) fun o15 =>
   bif' o15
   (some 1)
   (bnd (tourref2_Body.c2 k a0) fun o32 =>
    bif' o32
    (some 1)
    (bnd (tourref2_Body.c3 k a0) fun o37 =>
     bnd (tourref2_Body.c4 k a0) fun o40 =>
     bnd (tourref2_Body.c5 k a0 o40) fun o44 =>
     bif' o44
     (some 3)
     (bnd (tourref2_Body.c6 k a0 o37) fun o50 =>
      bif' o50
      (some 3)
      (bnd (tourref2_Body.c7 k a0 o37) fun o54 =>
       bif' o54
       (some 3)
       (some 0))))))
noncomputable def tourref2_Body.sp (k : Nat) : Go.Sx.Spec := ⟨(.pair T49 .unit), (.one (.dp T2)), fun x => tourref2_Body k x.1, false⟩
noncomputable def tourref2_Body.cx (k : Nat) : Go.Sx.Ctx := ⟨tys, [(159, tourref2_Corners.sp k), (94, tourref2_coord.sp k), (123, tourref2_between.sp k)], eqs, 115, 0, [], false⟩
theorem tourref2_Body.cok (k : Nat) : CtxOk PR (tourref2_Body.cx k) := ctx_ok tysOk eqsOk (FnsOk.cons (tourref2_Corners.ok k) (FnsOk.cons (tourref2_coord.ok k) (FnsOk.cons (tourref2_between.ok k) FnsOk.nil))) HsOk.nil
noncomputable def tourref2_Body.c1p (a0 : V49) : SL := ⟨[(1, (.val .ptr ⟨0, 0, (0 : Int), 0, 0⟩))], [(0, .cells T49 a0)]⟩
noncomputable def tourref2_Body.c1q (a0 : V49) (o : Bool) : SL := (fun v => ⟨[(1, (.val .ptr ⟨0, 0, (0 : Int), 0, 0⟩)), (32, (.val T4 v))], [(0, .cells T49 a0)]⟩) o
noncomputable def tourref2_Body.c1x (o : Bool) : Ex := (fun _ => .normal) o
noncomputable def tourref2_Body.c1n (o : Bool) : Nat := (fun _ => 1) o
theorem tourref2_Body.c1_ok (k : Nat) (a0 : V49) : Owp (tourref2_Body.c1 k a0) fun o => Triple PR (tourref2_Body.cx k) (sub tourref2_Body.code [1, 1, 0, 0]) 1 (tourref2_Body.c1p a0) (tourref2_Body.c1x o) (tourref2_Body.c1n o) (tourref2_Body.c1q a0 o) := by
  unfold tourref2_Body.c1; exact
   Owp.bnd fun y4 e5 =>
   Owp.bif (fun e6 =>
   Owp.bnd fun y7 e8 =>
    Owp.bif (fun e9 =>
    Owp.bnd fun y10 e11 =>
     Owp.bif (fun e12 =>
     Owp.bnd fun y13 e14 =>
      Owp.some (triple_way (tourref2_Body.cok k) hmix [.res (.one (.dp T4)) y4, .dec false, .dec false, .dec false, .res (.one (.dp T4)) y7, .dec false, .dec false, .dec false, .dec false, .dec false, .res (.one (.dp T4)) y10, .dec false, .dec false, .dec false, .dec false, .dec false, .res (.one (.dp T4)) y13, .dec false, .dec false] [] [(0, 0)] (via (finP (And.intro (And.intro (And.intro (And.intro (And.intro (And.intro (And.intro (And.intro (And.intro (And.intro (And.intro (And.intro (And.intro (And.intro (And.intro (And.intro trivial e5) (congrArg not e6)) (congrArg not e6)) (And.intro (congrArg not e6) e8)) (congrArg not e6)) (congrArg not e6)) (congrArg not e9)) (congrArg not e9)) (And.intro (congrArg not e9) e11)) (congrArg not e9)) (congrArg not e9)) (congrArg not e12)) (congrArg not e12)) (And.intro (congrArg not e12) e14)) (congrArg not e12)) (congrArg not e12)) .normal [(0, 0)] (tourref2_Body.c1q a0 (!y13))) (by kernel_rfl)))) (fun e12 =>
     Owp.some (triple_way (tourref2_Body.cok k) hmix [.res (.one (.dp T4)) y4, .dec false, .dec false, .dec false, .res (.one (.dp T4)) y7, .dec false, .dec false, .dec false, .dec false, .dec false, .res (.one (.dp T4)) y10, .dec false, .dec false, .dec true, .dec true, .dec true, .dec true, .dec true, .dec true] [] [(0, 0)] (via (finP (And.intro (And.intro (And.intro (And.intro (And.intro (And.intro (And.intro (And.intro (And.intro (And.intro (And.intro (And.intro (And.intro (And.intro (And.intro (And.intro trivial e5) (congrArg not e6)) (congrArg not e6)) (And.intro (congrArg not e6) e8)) (congrArg not e6)) (congrArg not e6)) (congrArg not e9)) (congrArg not e9)) (And.intro (congrArg not e9) e11)) (congrArg not e9)) (congrArg not e9)) (congrArg not e12)) (congrArg not e12)) (congrArg not e12)) (congrArg not e12)) (congrArg not e12)) .normal [(0, 0)] (tourref2_Body.c1q a0 true)) (by kernel_rfl))))) (fun e9 =>
    Owp.some (triple_way (tourref2_Body.cok k) hmix [.res (.one (.dp T4)) y4, .dec false, .dec false, .dec false, .res (.one (.dp T4)) y7, .dec false, .dec false, .dec true, .dec true, .dec true, .dec true, .dec true, .dec true, .dec true, .dec true, .dec true, .dec true, .dec true, .dec true] [] [(0, 0)] (via (finP (And.intro (And.intro (And.intro (And.intro (And.intro (And.intro (And.intro (And.intro (And.intro (And.intro (And.intro (And.intro (And.intro (And.intro (And.intro (And.intro trivial e5) (congrArg not e6)) (congrArg not e6)) (And.intro (congrArg not e6) e8)) (congrArg not e6)) (congrArg not e6)) (congrArg not e9)) (congrArg not e9)) (congrArg not e9)) (congrArg not e9)) (congrArg not e9)) tt) tt) tt) tt) tt) .normal [(0, 0)] (tourref2_Body.c1q a0 true)) (by kernel_rfl))))) (fun e6 =>
   Owp.some (triple_way (tourref2_Body.cok k) hmix [.res (.one (.dp T4)) y4, .dec true, .dec true, .dec true, .dec true, .dec true, .dec true, .dec true, .dec true, .dec true, .dec true, .dec true, .dec true, .dec true, .dec true, .dec true, .dec true, .dec true, .dec true] [] [(0, 0)] (via (finP (And.intro (And.intro (And.intro (And.intro (And.intro (And.intro (And.intro (And.intro (And.intro (And.intro (And.intro (And.intro (And.intro (And.intro (And.intro (And.intro trivial e5) (congrArg not e6)) (congrArg not e6)) (congrArg not e6)) (congrArg not e6)) (congrArg not e6)) tt) tt) tt) tt) tt) tt) tt) tt) tt) tt) .normal [(0, 0)] (tourref2_Body.c1q a0 true)) (by kernel_rfl))))
noncomputable def tourref2_Body.c2p (a0 : V49) : SL := ⟨[(1, (.val .ptr ⟨0, 0, (0 : Int), 0, 0⟩))], [(0, .cells T49 a0)]⟩
noncomputable def tourref2_Body.c2q (a0 : V49) (o : Bool) : SL := (fun v => ⟨[(1, (.val .ptr ⟨0, 0, (0 : Int), 0, 0⟩)), (60, (.val T4 v))], [(0, .cells T49 a0)]⟩) o
noncomputable def tourref2_Body.c2x (o : Bool) : Ex := (fun _ => .normal) o
noncomputable def tourref2_Body.c2n (o : Bool) : Nat := (fun _ => 1) o
theorem tourref2_Body.c2_ok (k : Nat) (a0 : V49) : Owp (tourref2_Body.c2 k a0) fun o => Triple PR (tourref2_Body.cx k) (sub tourref2_Body.code [1, 1, 1, 0, 0]) 1 (tourref2_Body.c2p a0) (tourref2_Body.c2x o) (tourref2_Body.c2n o) (tourref2_Body.c2q a0 o) := by
  unfold tourref2_Body.c2; exact
   Owp.bnd fun y18 e19 =>
   Owp.bif (fun e20 =>
   Owp.bnd fun y21 e22 =>
    Owp.bif (fun e23 =>
    Owp.bnd fun y24 e25 =>
     Owp.bif (fun e26 =>
     Owp.bnd fun y27 e28 =>
      Owp.bif (fun e29 =>
      Owp.bnd fun y30 e31 =>
       Owp.some (triple_way (tourref2_Body.cok k) hmix [.res (.one (.dp T4)) y18, .dec false, .dec false, .dec false, .res (.one (.dp T4)) y21, .dec false, .dec false, .dec false, .dec false, .dec false, .res (.one (.dp T4)) y24, .dec false, .dec false, .dec false, .dec false, .dec false, .res (.one (.dp T4)) y27, .dec false, .dec false, .dec false, .dec false, .dec false, .res (.one (.dp T4)) y30, .dec false, .dec false] [] [(0, 0)] (via (finP (And.intro (And.intro (And.intro (And.intro (And.intro (And.intro (And.intro (And.intro (And.intro (And.intro (And.intro (And.intro (And.intro (And.intro (And.intro (And.intro (And.intro (And.intro (And.intro (And.intro (And.intro trivial e19) (congrArg not e20)) (congrArg not e20)) (And.intro (congrArg not e20) e22)) (congrArg not e20)) (congrArg not e20)) (congrArg not e23)) (congrArg not e23)) (And.intro (congrArg not e23) e25)) (congrArg not e23)) (congrArg not e23)) (congrArg not e26)) (congrArg not e26)) (And.intro (congrArg not e26) e28)) (congrArg not e26)) (congrArg not e26)) (congrArg not e29)) (congrArg not e29)) (And.intro (congrArg not e29) e31)) (congrArg not e29)) (congrArg not e29)) .normal [(0, 0)] (tourref2_Body.c2q a0 (!y30))) (by kernel_rfl)))) (fun e29 =>
      Owp.some (triple_way (tourref2_Body.cok k) hmix [.res (.one (.dp T4)) y18, .dec false, .dec false, .dec false, .res (.one (.dp T4)) y21, .dec false, .dec false, .dec false, .dec false, .dec false, .res (.one (.dp T4)) y24, .dec false, .dec false, .dec false, .dec false, .dec false, .res (.one (.dp T4)) y27, .dec false, .dec false, .dec true, .dec true, .dec true, .dec true, .dec true, .dec true] [] [(0, 0)] (via (finP (And.intro (And.intro (And.intro (And.intro (And.intro (And.intro (And.intro (And.intro (And.intro (And.intro (And.intro (And.intro (And.intro (And.intro (And.intro (And.intro (And.intro (And.intro (And.intro (And.intro (And.intro trivial e19) (congrArg not e20)) (congrArg not e20)) (And.intro (congrArg not e20) e22)) (congrArg not e20)) (congrArg not e20)) (congrArg not e23)) (congrArg not e23)) (And.intro (congrArg not e23) e25)) (congrArg not e23)) (congrArg not e23)) (congrArg not e26)) (congrArg not e26)) (And.intro (congrArg not e26) e28)) (congrArg not e26)) (congrArg not e26)) (congrArg not e29)) (congrArg not e29)) (congrArg not e29)) (congrArg not e29)) (congrArg not e29)) .normal [(0, 0)] (tourref2_Body.c2q a0 true)) (by kernel_rfl))))) (fun e26 =>
     Owp.some (triple_way (tourref2_Body.cok k) hmix [.res (.one (.dp T4)) y18, .dec false, .dec false, .dec false, .res (.one (.dp T4)) y21, .dec false, .dec false, .dec false, .dec false, .dec false, .res (.one (.dp T4)) y24, .dec false, .dec false, .dec true, .dec true, .dec true, .dec true, .dec true, .dec true, .dec true, .dec true, .dec true, .dec true, .dec true, .dec true] [] [(0, 0)] (via (finP (And.intro (And.intro (And.intro (And.intro (And.intro (And.intro (And.intro (And.intro (And.intro (And.intro (And.intro (And.intro (And.intro (And.intro (And.intro (And.intro (And.intro (And.intro (And.intro (And.intro (And.intro trivial e19) (congrArg not e20)) (congrArg not e20)) (And.intro (congrArg not e20) e22)) (congrArg not e20)) (congrArg not e20)) (congrArg not e23)) (congrArg not e23)) (And.intro (congrArg not e23) e25)) (congrArg not e23)) (congrArg not e23)) (congrArg not e26)) (congrArg not e26)) (congrArg not e26)) (congrArg not e26)) (congrArg not e26)) tt) tt) tt) tt) tt) .normal [(0, 0)] (tourref2_Body.c2q a0 true)) (by kernel_rfl))))) (fun e23 =>
    Owp.some (triple_way (tourref2_Body.cok k) hmix [.res (.one (.dp T4)) y18, .dec false, .dec false, .dec false, .res (.one (.dp T4)) y21, .dec false, .dec false, .dec true, .dec true, .dec true, .dec true, .dec true, .dec true, .dec true, .dec true, .dec true, .dec true, .dec true, .dec true, .dec true, .dec true, .dec true, .dec true, .dec true, .dec true] [] [(0, 0)] (via (finP (And.intro (And.intro (And.intro (And.intro (And.intro (And.intro (And.intro (And.intro (And.intro (And.intro (And.intro (And.intro (And.intro (And.intro (And.intro (And.intro (And.intro (And.intro (And.intro (And.intro (And.intro trivial e19) (congrArg not e20)) (congrArg not e20)) (And.intro (congrArg not e20) e22)) (congrArg not e20)) (congrArg not e20)) (congrArg not e23)) (congrArg not e23)) (congrArg not e23)) (congrArg not e23)) (congrArg not e23)) tt) tt) tt) tt) tt) tt) tt) tt) tt) tt) .normal [(0, 0)] (tourref2_Body.c2q a0 true)) (by kernel_rfl))))) (fun e20 =>
   Owp.some (triple_way (tourref2_Body.cok k) hmix [.res (.one (.dp T4)) y18, .dec true, .dec true, .dec true, .dec true, .dec true, .dec true, .dec true, .dec true, .dec true, .dec true, .dec true, .dec true, .dec true, .dec true, .dec true, .dec true, .dec true, .dec true, .dec true, .dec true, .dec true, .dec true, .dec true, .dec true] [] [(0, 0)] (via (finP (And.intro (And.intro (And.intro (And.intro (And.intro (And.intro (And.intro (And.intro (And.intro (And.intro (And.intro (And.intro (And.intro (And.intro (And.intro (And.intro (And.intro (And.intro (And.intro (And.intro (And.intro trivial e19) (congrArg not e20)) (congrArg not e20)) (congrArg not e20)) (congrArg not e20)) (congrArg not e20)) tt) tt) tt) tt) tt) tt) tt) tt) tt) tt) tt) tt) tt) tt) tt) .normal [(0, 0)] (tourref2_Body.c2q a0 true)) (by kernel_rfl))))
noncomputable def tourref2_Body.c3p (a0 : V49) : SL := ⟨[(1, (.val .ptr ⟨0, 0, (0 : Int), 0, 0⟩))], [(0, .cells T49 a0)]⟩
noncomputable def tourref2_Body.c3q (a0 : V49) (o : Bool) : SL := (fun v => ⟨[(1, (.val .ptr ⟨0, 0, (0 : Int), 0, 0⟩)), (4, (.val T4 v))], [(0, .cells T49 a0)]⟩) o
noncomputable def tourref2_Body.c3x (o : Bool) : Ex := (fun _ => .normal) o
noncomputable def tourref2_Body.c3n (o : Bool) : Nat := (fun _ => 1) o
theorem tourref2_Body.c3_ok (k : Nat) (a0 : V49) : Owp (tourref2_Body.c3 k a0) fun o => Triple PR (tourref2_Body.cx k) (sub tourref2_Body.code [1, 1, 1, 1, 0]) 1 (tourref2_Body.c3p a0) (tourref2_Body.c3x o) (tourref2_Body.c3n o) (tourref2_Body.c3q a0 o) := by
  unfold tourref2_Body.c3; exact
   Owp.bif (fun e35 =>
   Owp.some (triple_way (tourref2_Body.cok k) hmix [.dec true, .dec true, .dec true, .dec true, .dec true, .dec true, .dec true, .dec true, .dec true] [] [(0, 0)] (via (finP (And.intro (And.intro (And.intro (And.intro (And.intro (And.intro (And.intro (And.intro (And.intro trivial e35) e35) e35) e35) e35) tt) tt) tt) tt) .normal [(0, 0)] (tourref2_Body.c3q a0 true)) (by kernel_rfl)))) (fun e35 =>
   Owp.bif (fun e36 =>
    Owp.some (triple_way (tourref2_Body.cok k) hmix [.dec false, .dec false, .dec false, .dec false, .dec false, .dec true, .dec true, .dec true, .dec true] [] [(0, 0)] (via (finP (And.intro (And.intro (And.intro (And.intro (And.intro (And.intro (And.intro (And.intro (And.intro trivial e35) e35) e35) e35) e35) e36) e36) e36) e36) .normal [(0, 0)] (tourref2_Body.c3q a0 true)) (by kernel_rfl)))) (fun e36 =>
    Owp.some (triple_way (tourref2_Body.cok k) hmix [.dec false, .dec false, .dec false, .dec false, .dec false, .dec false, .dec false, .dec false, .dec false] [] [(0, 0)] (via (finP (And.intro (And.intro (And.intro (And.intro (And.intro (And.intro (And.intro (And.intro (And.intro trivial e35) e35) e35) e35) e35) e36) e36) e36) e36) .normal [(0, 0)] (tourref2_Body.c3q a0 (ine a0.2.2.2.1 (0 : Int)))) (by kernel_rfl)))))
noncomputable def tourref2_Body.c4p (a0 : V49) (o37 : Bool) : SL := ⟨[(1, (.val .ptr ⟨0, 0, (0 : Int), 0, 0⟩)), (4, (.val T4 o37))], [(0, .cells T49 a0)]⟩
noncomputable def tourref2_Body.c4q (a0 : V49) (o37 : Bool) (o : Bool) : SL := (fun v => ⟨[(1, (.val .ptr ⟨0, 0, (0 : Int), 0, 0⟩)), (4, (.val T4 o37)), (76, (.val T4 v))], [(0, .cells T49 a0)]⟩) o
noncomputable def tourref2_Body.c4x (o : Bool) : Ex := (fun _ => .normal) o
noncomputable def tourref2_Body.c4n (o : Bool) : Nat := (fun _ => 1) o
theorem tourref2_Body.c4_ok (k : Nat) (a0 : V49) (o37 : Bool) : Owp (tourref2_Body.c4 k a0) fun o => Triple PR (tourref2_Body.cx k) (sub tourref2_Body.code [1, 1, 1, 1, 1, 0, 0, 0, 0]) 1 (tourref2_Body.c4p a0 o37) (tourref2_Body.c4x o) (tourref2_Body.c4n o) (tourref2_Body.c4q a0 o37 o) := by
  unfold tourref2_Body.c4; exact
   Owp.bif (fun e39 =>
   Owp.some (triple_way (tourref2_Body.cok k) hmix [.dec true, .dec true, .dec true, .dec true] [] [(0, 0)] (via (finP (And.intro (And.intro (And.intro (And.intro trivial e39) e39) e39) e39) .normal [(0, 0)] (tourref2_Body.c4q a0 o37 (igt a0.2.2.2.2.2.1 (0 : Int)))) (by kernel_rfl)))) (fun e39 =>
   Owp.some (triple_way (tourref2_Body.cok k) hmix [.dec false, .dec false, .dec false, .dec false] [] [(0, 0)] (via (finP (And.intro (And.intro (And.intro (And.intro trivial e39) e39) e39) e39) .normal [(0, 0)] (tourref2_Body.c4q a0 o37 false)) (by kernel_rfl))))
noncomputable def tourref2_Body.c5p (a0 : V49) (o37 : Bool) (o40 : Bool) : SL := ⟨[(1, (.val .ptr ⟨0, 0, (0 : Int), 0, 0⟩)), (4, (.val T4 o37)), (76, (.val T4 o40))], [(0, .cells T49 a0)]⟩
noncomputable def tourref2_Body.c5q (a0 : V49) (o37 : Bool) (o : Bool) : SL := (fun v => ⟨[(1, (.val .ptr ⟨0, 0, (0 : Int), 0, 0⟩)), (4, (.val T4 o37)), (76, (.val T4 v))], [(0, .cells T49 a0)]⟩) o
noncomputable def tourref2_Body.c5x (o : Bool) : Ex := (fun _ => .normal) o
noncomputable def tourref2_Body.c5n (o : Bool) : Nat := (fun _ => 1) o
theorem tourref2_Body.c5_ok (k : Nat) (a0 : V49) (o37 : Bool) (o40 : Bool) : Owp (tourref2_Body.c5 k a0 o40) fun o => Triple PR (tourref2_Body.cx k) (sub tourref2_Body.code [1, 1, 1, 1, 1, 0, 0, 0, 1]) 1 (tourref2_Body.c5p a0 o37 o40) (tourref2_Body.c5x o) (tourref2_Body.c5n o) (tourref2_Body.c5q a0 o37 o) := by
  unfold tourref2_Body.c5; exact
   Owp.bif (fun e42 =>
   Owp.some (triple_way (tourref2_Body.cok k) hmix [.dec true] [] [(0, 0)] (via (finP (And.intro trivial e42) .normal [(0, 0)] (tourref2_Body.c5q a0 o37 o40)) (by kernel_rfl)))) (fun e42 =>
   Owp.bif (fun e43 =>
    Owp.some (triple_way (tourref2_Body.cok k) hmix [.dec false, .dec true, .dec true, .dec true, .dec true] [] [(0, 0)] (via (finP (And.intro (And.intro (And.intro (And.intro (And.intro trivial e42) e43) e43) e43) e43) .normal [(0, 0)] (tourref2_Body.c5q a0 o37 (ieq a0.2.2.2.2.2.1 (0 : Int)))) (by kernel_rfl)))) (fun e43 =>
    Owp.some (triple_way (tourref2_Body.cok k) hmix [.dec false, .dec false, .dec false, .dec false, .dec false] [] [(0, 0)] (via (finP (And.intro (And.intro (And.intro (And.intro (And.intro trivial e42) e43) e43) e43) e43) .normal [(0, 0)] (tourref2_Body.c5q a0 o37 false)) (by kernel_rfl)))))
noncomputable def tourref2_Body.c6p (a0 : V49) (o37 : Bool) : SL := ⟨[(1, (.val .ptr ⟨0, 0, (0 : Int), 0, 0⟩)), (4, (.val T4 o37))], [(0, .cells T49 a0)]⟩
noncomputable def tourref2_Body.c6q (a0 : V49) (o37 : Bool) (o : Bool) : SL := (fun v => ⟨[(1, (.val .ptr ⟨0, 0, (0 : Int), 0, 0⟩)), (4, (.val T4 o37)), (93, (.val T4 v))], [(0, .cells T49 a0)]⟩) o
noncomputable def tourref2_Body.c6x (o : Bool) : Ex := (fun _ => .normal) o
noncomputable def tourref2_Body.c6n (o : Bool) : Nat := (fun _ => 1) o
theorem tourref2_Body.c6_ok (k : Nat) (a0 : V49) (o37 : Bool) : Owp (tourref2_Body.c6 k a0 o37) fun o => Triple PR (tourref2_Body.cx k) (sub tourref2_Body.code [1, 1, 1, 1, 1, 0, 0, 1, 1, 0]) 1 (tourref2_Body.c6p a0 o37) (tourref2_Body.c6x o) (tourref2_Body.c6n o) (tourref2_Body.c6q a0 o37 o) := by
  unfold tourref2_Body.c6; exact
   Owp.bif (fun e47 =>
   Owp.bif (fun e48 =>
    Owp.some (triple_way (tourref2_Body.cok k) hmix [.dec true, .dec true, .dec true, .dec true, .dec true, .dec true, .dec true, .dec true, .dec true, .dec true, .dec true, .dec true, .dec true] [] [(0, 0)] (via (finP (And.intro (And.intro (And.intro (And.intro (And.intro (And.intro (And.intro (And.intro (And.intro (And.intro (And.intro trivial e47) e47) e48) e48) (And.intro e47 e48)) e47) tt) tt) tt) (And.intro e47 tt)) e47) .normal [(0, 0)] (tourref2_Body.c6q a0 o37 true)) (by kernel_rfl)))) (fun e48 =>
    Owp.bif (fun e49 =>
     Owp.some (triple_way (tourref2_Body.cok k) hmix [.dec true, .dec true, .dec false, .dec false, .dec true, .dec false, .dec true, .dec true, .dec true, .dec true, .dec true, .dec true, .dec true] [] [(0, 0)] (via (finP (And.intro (And.intro (And.intro (And.intro (And.intro (And.intro (And.intro (And.intro (And.intro (And.intro (And.intro trivial e47) e47) e48) e48) (And.intro e47 e48)) e47) e49) e49) e49) (And.intro e47 e49)) e47) .normal [(0, 0)] (tourref2_Body.c6q a0 o37 true)) (by kernel_rfl)))) (fun e49 =>
     Owp.some (triple_way (tourref2_Body.cok k) hmix [.dec true, .dec true, .dec false, .dec false, .dec true, .dec false, .dec true, .dec false, .dec false, .dec false, .dec true, .dec false, .dec true] [] [(0, 0)] (via (finP (And.intro (And.intro (And.intro (And.intro (And.intro (And.intro (And.intro (And.intro (And.intro (And.intro (And.intro trivial e47) e47) e48) e48) (And.intro e47 e48)) e47) e49) e49) e49) (And.intro e47 e49)) e47) .normal [(0, 0)] (tourref2_Body.c6q a0 o37 (igt a0.2.2.2.2.2.2.2.2.2.2.1 (0 : Int)))) (by kernel_rfl)))))) (fun e47 =>
   Owp.some (triple_way (tourref2_Body.cok k) hmix [.dec false, .dec false, .dec true, .dec true, .dec false, .dec true, .dec false, .dec true, .dec true, .dec true, .dec false, .dec true, .dec false] [] [(0, 0)] (via (finP (And.intro (And.intro (And.intro (And.intro (And.intro (And.intro trivial e47) e47) e47) e47) e47) e47) .normal [(0, 0)] (tourref2_Body.c6q a0 o37 false)) (by kernel_rfl))))
noncomputable def tourref2_Body.c7p (a0 : V49) (o37 : Bool) : SL := ⟨[(1, (.val .ptr ⟨0, 0, (0 : Int), 0, 0⟩)), (4, (.val T4 o37))], [(0, .cells T49 a0)]⟩
noncomputable def tourref2_Body.c7q (o : Bool) : SL := (fun v => ⟨[(109, (.val T4 v))], []⟩) o
noncomputable def tourref2_Body.c7x (o : Bool) : Ex := (fun _ => .normal) o
noncomputable def tourref2_Body.c7n (o : Bool) : Nat := (fun _ => 0) o
theorem tourref2_Body.c7_ok (k : Nat) (a0 : V49) (o37 : Bool) : Owp (tourref2_Body.c7 k a0 o37) fun o => Triple PR (tourref2_Body.cx k) (sub tourref2_Body.code [1, 1, 1, 1, 1, 0, 0, 1, 1, 1, 1, 0]) 1 (tourref2_Body.c7p a0 o37) (tourref2_Body.c7x o) (tourref2_Body.c7n o) (tourref2_Body.c7q o) := by
  unfold tourref2_Body.c7; exact
   Owp.bif (fun e53 =>
   Owp.some (triple_way (tourref2_Body.cok k) hmix [.dec true, .dec true] [] [] (via (finP (And.intro (And.intro trivial e53) e53) .normal [] (tourref2_Body.c7q o37)) (by kernel_rfl)))) (fun e53 =>
   Owp.some (triple_way (tourref2_Body.cok k) hmix [.dec false, .dec false] [] [] (via (finP (And.intro (And.intro trivial e53) e53) .normal [] (tourref2_Body.c7q false)) (by kernel_rfl))))
theorem tourref2_Body.way (k : Nat) (a0 : V49) : Owp (tourref2_Body k a0) fun y => ∃ answers cmds, exec PR (tourref2_Body.cx k) tourref2_Body.code 0 (entry (.pair T49 .unit) (a0, ())).st answers (Ret (tourref2_Body.cx k) Try.f113 cmds (.one (.dp T2)) y) := by
  unfold tourref2_Body; exact
   Owp.bnd fun y1 e2 =>
   Owp.bif (fun e3 =>
   Owp.some (⟨[.res (.one (.dp T2)) y1, .dec true], [], via (retP (And.intro (And.intro trivial e2) e3) (.one (.dp T2)) (y1 : Int)) (by kernel_rfl)⟩)) (fun e3 =>
   Owp.bnd fun o15 e16 =>
    Owp.bif (fun e17 =>
    Owp.some (⟨[.res (.one (.dp T2)) y1, .dec false, .cutR 4 ⟨[], [(0, 0)], (tourref2_Body.c1p a0), 1, .normal, (tourref2_Body.c1q a0 o15), 1⟩, .dec true], [], via (cutP (And.intro (And.intro trivial e2) e3) [(0, 0)] (tourref2_Body.c1p a0) (((tourref2_Body.c1_ok k a0).ap e16)) (retP (And.intro trivial e17) (.one (.dp T2)) ((1 : Int) : Int))) (by kernel_rfl)⟩)) (fun e17 =>
    Owp.bnd fun o32 e33 =>
     Owp.bif (fun e34 =>
     Owp.some (⟨[.res (.one (.dp T2)) y1, .dec false, .cutR 4 ⟨[], [(0, 0)], (tourref2_Body.c1p a0), 1, .normal, (tourref2_Body.c1q a0 o15), 1⟩, .dec false, .cutR 6 ⟨[], [(0, 0)], (tourref2_Body.c2p a0), 1, .normal, (tourref2_Body.c2q a0 o32), 1⟩, .dec true], [], via (cutP (And.intro (And.intro trivial e2) e3) [(0, 0)] (tourref2_Body.c1p a0) (((tourref2_Body.c1_ok k a0).ap e16)) (cutP (And.intro trivial e17) [(0, 0)] (tourref2_Body.c2p a0) (((tourref2_Body.c2_ok k a0).ap e33)) (retP (And.intro trivial e34) (.one (.dp T2)) ((1 : Int) : Int)))) (by kernel_rfl)⟩)) (fun e34 =>
     Owp.bnd fun o37 e38 =>
      Owp.bnd fun o40 e41 =>
      Owp.bnd fun o44 e45 =>
      Owp.bif (fun e46 =>
      Owp.some (⟨[.res (.one (.dp T2)) y1, .dec false, .cutR 4 ⟨[], [(0, 0)], (tourref2_Body.c1p a0), 1, .normal, (tourref2_Body.c1q a0 o15), 1⟩, .dec false, .cutR 6 ⟨[], [(0, 0)], (tourref2_Body.c2p a0), 1, .normal, (tourref2_Body.c2q a0 o32), 1⟩, .dec false, .cutR 8 ⟨[], [(0, 0)], (tourref2_Body.c3p a0), 1, .normal, (tourref2_Body.c3q a0 o37), 1⟩, .cutR 9 ⟨[], [(0, 0)], (tourref2_Body.c4p a0 o37), 1, .normal, (tourref2_Body.c4q a0 o37 o40), 1⟩, .cut ⟨[], [(0, 0)], (tourref2_Body.c5p a0 o37 o40), 1, .normal, (tourref2_Body.c5q a0 o37 o44), 1⟩, .dec true], [], via (cutP (And.intro (And.intro trivial e2) e3) [(0, 0)] (tourref2_Body.c1p a0) (((tourref2_Body.c1_ok k a0).ap e16)) (cutP (And.intro trivial e17) [(0, 0)] (tourref2_Body.c2p a0) (((tourref2_Body.c2_ok k a0).ap e33)) (cutP (And.intro trivial e34) [(0, 0)] (tourref2_Body.c3p a0) (((tourref2_Body.c3_ok k a0).ap e38)) (cutP trivial [(0, 0)] (tourref2_Body.c4p a0 o37) (((tourref2_Body.c4_ok k a0 o37).ap e41)) (cutP trivial [(0, 0)] (tourref2_Body.c5p a0 o37 o40) (((tourref2_Body.c5_ok k a0 o37 o40).ap e45)) (retP (And.intro trivial e46) (.one (.dp T2)) ((3 : Int) : Int))))))) (by kernel_rfl)⟩)) (fun e46 =>
      Owp.bnd fun o50 e51 =>
       Owp.bif (fun e52 =>
       Owp.some (⟨[.res (.one (.dp T2)) y1, .dec false, .cutR 4 ⟨[], [(0, 0)], (tourref2_Body.c1p a0), 1, .normal, (tourref2_Body.c1q a0 o15), 1⟩, .dec false, .cutR 6 ⟨[], [(0, 0)], (tourref2_Body.c2p a0), 1, .normal, (tourref2_Body.c2q a0 o32), 1⟩, .dec false, .cutR 8 ⟨[], [(0, 0)], (tourref2_Body.c3p a0), 1, .normal, (tourref2_Body.c3q a0 o37), 1⟩, .cutR 9 ⟨[], [(0, 0)], (tourref2_Body.c4p a0 o37), 1, .normal, (tourref2_Body.c4q a0 o37 o40), 1⟩, .cut ⟨[], [(0, 0)], (tourref2_Body.c5p a0 o37 o40), 1, .normal, (tourref2_Body.c5q a0 o37 o44), 1⟩, .dec false, .cutR 12 ⟨[], [(0, 0)], (tourref2_Body.c6p a0 o37), 1, .normal, (tourref2_Body.c6q a0 o37 o50), 1⟩, .dec true], [], via (cutP (And.intro (And.intro trivial e2) e3) [(0, 0)] (tourref2_Body.c1p a0) (((tourref2_Body.c1_ok k a0).ap e16)) (cutP (And.intro trivial e17) [(0, 0)] (tourref2_Body.c2p a0) (((tourref2_Body.c2_ok k a0).ap e33)) (cutP (And.intro trivial e34) [(0, 0)] (tourref2_Body.c3p a0) (((tourref2_Body.c3_ok k a0).ap e38)) (cutP trivial [(0, 0)] (tourref2_Body.c4p a0 o37) (((tourref2_Body.c4_ok k a0 o37).ap e41)) (cutP trivial [(0, 0)] (tourref2_Body.c5p a0 o37 o40) (((tourref2_Body.c5_ok k a0 o37 o40).ap e45)) (cutP (And.intro trivial e46) [(0, 0)] (tourref2_Body.c6p a0 o37) (((tourref2_Body.c6_ok k a0 o37).ap e51)) (retP (And.intro trivial e52) (.one (.dp T2)) ((3 : Int) : Int)))))))) (by kernel_rfl)⟩)) (fun e52 =>
       Owp.bnd fun o54 e55 =>
        Owp.bif (fun e56 =>
        Owp.some (⟨[.res (.one (.dp T2)) y1, .dec false, .cutR 4 ⟨[], [(0, 0)], (tourref2_Body.c1p a0), 1, .normal, (tourref2_Body.c1q a0 o15), 1⟩, .dec false, .cutR 6 ⟨[], [(0, 0)], (tourref2_Body.c2p a0), 1, .normal, (tourref2_Body.c2q a0 o32), 1⟩, .dec false, .cutR 8 ⟨[], [(0, 0)], (tourref2_Body.c3p a0), 1, .normal, (tourref2_Body.c3q a0 o37), 1⟩, .cutR 9 ⟨[], [(0, 0)], (tourref2_Body.c4p a0 o37), 1, .normal, (tourref2_Body.c4q a0 o37 o40), 1⟩, .cut ⟨[], [(0, 0)], (tourref2_Body.c5p a0 o37 o40), 1, .normal, (tourref2_Body.c5q a0 o37 o44), 1⟩, .dec false, .cutR 12 ⟨[], [(0, 0)], (tourref2_Body.c6p a0 o37), 1, .normal, (tourref2_Body.c6q a0 o37 o50), 1⟩, .dec false, .cutR 14 ⟨[], [(0, 0)], (tourref2_Body.c7p a0 o37), 1, .normal, (tourref2_Body.c7q o54), 0⟩, .dec true], [], via (cutP (And.intro (And.intro trivial e2) e3) [(0, 0)] (tourref2_Body.c1p a0) (((tourref2_Body.c1_ok k a0).ap e16)) (cutP (And.intro trivial e17) [(0, 0)] (tourref2_Body.c2p a0) (((tourref2_Body.c2_ok k a0).ap e33)) (cutP (And.intro trivial e34) [(0, 0)] (tourref2_Body.c3p a0) (((tourref2_Body.c3_ok k a0).ap e38)) (cutP trivial [(0, 0)] (tourref2_Body.c4p a0 o37) (((tourref2_Body.c4_ok k a0 o37).ap e41)) (cutP trivial [(0, 0)] (tourref2_Body.c5p a0 o37 o40) (((tourref2_Body.c5_ok k a0 o37 o40).ap e45)) (cutP (And.intro trivial e46) [(0, 0)] (tourref2_Body.c6p a0 o37) (((tourref2_Body.c6_ok k a0 o37).ap e51)) (cutP (And.intro trivial e52) [(0, 0)] (tourref2_Body.c7p a0 o37) (((tourref2_Body.c7_ok k a0 o37).ap e55)) (retP (And.intro trivial e56) (.one (.dp T2)) ((3 : Int) : Int))))))))) (by kernel_rfl)⟩)) (fun e56 =>
        Owp.some (⟨[.res (.one (.dp T2)) y1, .dec false, .cutR 4 ⟨[], [(0, 0)], (tourref2_Body.c1p a0), 1, .normal, (tourref2_Body.c1q a0 o15), 1⟩, .dec false, .cutR 6 ⟨[], [(0, 0)], (tourref2_Body.c2p a0), 1, .normal, (tourref2_Body.c2q a0 o32), 1⟩, .dec false, .cutR 8 ⟨[], [(0, 0)], (tourref2_Body.c3p a0), 1, .normal, (tourref2_Body.c3q a0 o37), 1⟩, .cutR 9 ⟨[], [(0, 0)], (tourref2_Body.c4p a0 o37), 1, .normal, (tourref2_Body.c4q a0 o37 o40), 1⟩, .cut ⟨[], [(0, 0)], (tourref2_Body.c5p a0 o37 o40), 1, .normal, (tourref2_Body.c5q a0 o37 o44), 1⟩, .dec false, .cutR 12 ⟨[], [(0, 0)], (tourref2_Body.c6p a0 o37), 1, .normal, (tourref2_Body.c6q a0 o37 o50), 1⟩, .dec false, .cutR 14 ⟨[], [(0, 0)], (tourref2_Body.c7p a0 o37), 1, .normal, (tourref2_Body.c7q o54), 0⟩, .dec false], [], via (cutP (And.intro (And.intro trivial e2) e3) [(0, 0)] (tourref2_Body.c1p a0) (((tourref2_Body.c1_ok k a0).ap e16)) (cutP (And.intro trivial e17) [(0, 0)] (tourref2_Body.c2p a0) (((tourref2_Body.c2_ok k a0).ap e33)) (cutP (And.intro trivial e34) [(0, 0)] (tourref2_Body.c3p a0) (((tourref2_Body.c3_ok k a0).ap e38)) (cutP trivial [(0, 0)] (tourref2_Body.c4p a0 o37) (((tourref2_Body.c4_ok k a0 o37).ap e41)) (cutP trivial [(0, 0)] (tourref2_Body.c5p a0 o37 o40) (((tourref2_Body.c5_ok k a0 o37 o40).ap e45)) (cutP (And.intro trivial e46) [(0, 0)] (tourref2_Body.c6p a0 o37) (((tourref2_Body.c6_ok k a0 o37).ap e51)) (cutP (And.intro trivial e52) [(0, 0)] (tourref2_Body.c7p a0 o37) (((tourref2_Body.c7_ok k a0 o37).ap e55)) (retP (And.intro trivial e56) (.one (.dp T2)) ((0 : Int) : Int))))))))) (by kernel_rfl)⟩)))))))
theorem tourref2_Body.ok (k : Nat) : FnOk PR 113 (tourref2_Body.sp k) :=
  fn_ok (tourref2_Body.cok k) hmix Try.func113 (code := tourref2_Body.code) (by kernel_rfl) (by kernel_rfl) (by kernel_rfl) rfl rfl (by kernel_rfl) (by kernel_rfl) (by kernel_rfl) (fun x => Nat.le_of_ble_eq_true (by kernel_rfl)) fun x y hy => (tourref2_Body.way k x.1).ap hy

/-! tourney/body.over -/
noncomputable def body_over.code : Code := Func.cd Try.f217
def body_over (k : Nat) (a0 : Int) (a1 : Int) : Option Int :=
  bnd (fix_Div k a0 a1) fun y1 =>
  some y1.1
noncomputable def body_over.sp (k : Nat) : Go.Sx.Spec := ⟨T27, (.one (.dp T2)), fun x => body_over k x.1 x.2.1, false⟩
noncomputable def body_over.cx (k : Nat) : Go.Sx.Ctx := ⟨tys, [(218, fix_Div.sp k)], eqs, 14, 0, [], false⟩
theorem body_over.cok (k : Nat) : CtxOk PR (body_over.cx k) := ctx_ok tysOk eqsOk (FnsOk.cons (fix_Div.ok k) FnsOk.nil) HsOk.nil
theorem body_over.way (k : Nat) (a0 : Int) (a1 : Int) : Owp (body_over k a0 a1) fun y => ∃ answers cmds, exec PR (body_over.cx k) body_over.code 0 (entry T27 (a0, a1, ())).st answers (Ret (body_over.cx k) Try.f217 cmds (.one (.dp T2)) y) := by
  unfold body_over; exact
   Owp.bnd fun y1 e2 =>
   Owp.some (⟨[.res (.more (.dp T2) (.one (.dp T2))) y1], [], via (retP (And.intro trivial e2) (.one (.dp T2)) (y1.1 : Int)) (by kernel_rfl)⟩)
theorem body_over.ok (k : Nat) : FnOk PR 217 (body_over.sp k) :=
  fn_ok (body_over.cok k) hmix Try.func217 (code := body_over.code) (by kernel_rfl) (by kernel_rfl) (by kernel_rfl) rfl rfl (by kernel_rfl) (by kernel_rfl) (by kernel_rfl) (fun x => Nat.le_of_ble_eq_true (by kernel_rfl)) fun x y hy => (body_over.way k x.1 x.2.1).ap hy

/-! tourney/body.Ease -/
noncomputable def body_Ease.code : Code := Func.cd Try.f173
def body_Ease.c1 (k : Nat) (a0 : V49) : Option (Bool) :=
  bnd (body_Check k a0) fun y1 =>
  bif' (ine y1 0)
  (some true)
  (bif' (ieq a0.2.2.2.2.1 0)
   (some true)
   (some a0.2.2.2.2.2.2.2.2.2.1))
def body_Ease (k : Nat) (a0 : V49) (a1 : V27) (a2 : V27) : Option Int :=
  bnd (body_Ease.c1 k a0) fun o5 =>
  bif' o5
  (some 0)
  (bnd (vec_Sub k a1 a0.1) fun y8 =>
   bnd (vec_Cross k y8 a2) fun y10 =>
   bnd (body_over k 65536 a0.2.2.2.2.1) fun y12 =>
   bnd (fix_Mul k y10 y10) fun y14 =>
   bnd (body_over k y14 a0.2.2.2.2.2.1) fun y16 =>
   bnd (fix_Add k y12 y16) fun y18 =>
   some y18)
noncomputable def body_Ease.sp (k : Nat) : Go.Sx.Spec := ⟨(.pair T49 T35), (.one (.dp T2)), fun x => body_Ease k x.1 x.2.1 x.2.2.1, false⟩
noncomputable def body_Ease.cx (k : Nat) : Go.Sx.Ctx := ⟨tys, [(151, body_Check.sp k), (55, vec_Sub.sp k), (216, vec_Cross.sp k), (217, body_over.sp k), (105, fix_Mul.sp k), (104, fix_Add.sp k)], eqs, 36, 0, [], false⟩
theorem body_Ease.cok (k : Nat) : CtxOk PR (body_Ease.cx k) := ctx_ok tysOk eqsOk (FnsOk.cons (body_Check.ok k) (FnsOk.cons (vec_Sub.ok k) (FnsOk.cons (vec_Cross.ok k) (FnsOk.cons (body_over.ok k) (FnsOk.cons (fix_Mul.ok k) (FnsOk.cons (fix_Add.ok k) FnsOk.nil)))))) HsOk.nil
noncomputable def body_Ease.c1p (a0 : V49) (a1 : V27) (a2 : V27) : SL := ⟨[(3, (.val .ptr ⟨0, 0, (0 : Int), 0, 0⟩)), (4, (.val .ptr ⟨1, 0, (0 : Int), 0, 0⟩)), (5, (.val .ptr ⟨2, 0, (0 : Int), 0, 0⟩))], [(0, .cells T49 a0), (1, .cells T27 a1), (2, .cells T27 a2)]⟩
noncomputable def body_Ease.c1q (a0 : V49) (a1 : V27) (a2 : V27) (o : Bool) : SL := (fun v => ⟨[(3, (.val .ptr ⟨0, 0, (0 : Int), 0, 0⟩)), (4, (.val .ptr ⟨1, 0, (0 : Int), 0, 0⟩)), (5, (.val .ptr ⟨2, 0, (0 : Int), 0, 0⟩)), (19, (.val T4 v))], [(0, .cells T49 a0), (1, .cells T27 a1), (2, .cells T27 a2)]⟩) o
noncomputable def body_Ease.c1x (o : Bool) : Ex := (fun _ => .normal) o
noncomputable def body_Ease.c1n (o : Bool) : Nat := (fun _ => 3) o
theorem body_Ease.c1_ok (k : Nat) (a0 : V49) (a1 : V27) (a2 : V27) : Owp (body_Ease.c1 k a0) fun o => Triple PR (body_Ease.cx k) (sub body_Ease.code [1, 0, 0]) 3 (body_Ease.c1p a0 a1 a2) (body_Ease.c1x o) (body_Ease.c1n o) (body_Ease.c1q a0 a1 a2 o) := by
  unfold body_Ease.c1; exact
   Owp.bnd fun y1 e2 =>
   Owp.bif (fun e3 =>
   Owp.some (triple_way (body_Ease.cok k) hmix [.res (.one (.dp T2)) y1, .dec true, .dec true, .dec true, .dec true, .dec true, .dec true, .dec true] [] [(0, 0), (1, 1), (2, 2)] (via (finP (And.intro (And.intro (And.intro (And.intro (And.intro (And.intro (And.intro (And.intro trivial e2) e3) e3) e3) e3) tt) tt) tt) .normal [(0, 0), (1, 1), (2, 2)] (body_Ease.c1q a0 a1 a2 true)) (by kernel_rfl)))) (fun e3 =>
   Owp.bif (fun e4 =>
    Owp.some (triple_way (body_Ease.cok k) hmix [.res (.one (.dp T2)) y1, .dec false, .dec false, .dec false, .dec false, .dec true, .dec true, .dec true] [] [(0, 0), (1, 1), (2, 2)] (via (finP (And.intro (And.intro (And.intro (And.intro (And.intro (And.intro (And.intro (And.intro trivial e2) e3) e3) e3) e3) e4) e4) e4) .normal [(0, 0), (1, 1), (2, 2)] (body_Ease.c1q a0 a1 a2 true)) (by kernel_rfl)))) (fun e4 =>
    Owp.some (triple_way (body_Ease.cok k) hmix [.res (.one (.dp T2)) y1, .dec false, .dec false, .dec false, .dec false, .dec false, .dec false, .dec false] [] [(0, 0), (1, 1), (2, 2)] (via (finP (And.intro (And.intro (And.intro (And.intro (And.intro (And.intro (And.intro (And.intro trivial e2) e3) e3) e3) e3) e4) e4) e4) .normal [(0, 0), (1, 1), (2, 2)] (body_Ease.c1q a0 a1 a2 a0.2.2.2.2.2.2.2.2.2.1)) (by kernel_rfl)))))
theorem body_Ease.way (k : Nat) (a0 : V49) (a1 : V27) (a2 : V27) : Owp (body_Ease k a0 a1 a2) fun y => ∃ answers cmds, exec PR (body_Ease.cx k) body_Ease.code 0 (entry (.pair T49 T35) (a0, a1, a2, ())).st answers (Ret (body_Ease.cx k) Try.f173 cmds (.one (.dp T2)) y) := by
  unfold body_Ease; exact
   Owp.bnd fun o5 e6 =>
   Owp.bif (fun e7 =>
   Owp.some (⟨[.cutR 1 ⟨[], [(0, 0), (1, 1), (2, 2)], (body_Ease.c1p a0 a1 a2), 3, .normal, (body_Ease.c1q a0 a1 a2 o5), 3⟩, .dec true], [], via (cutP trivial [(0, 0), (1, 1), (2, 2)] (body_Ease.c1p a0 a1 a2) (((body_Ease.c1_ok k a0 a1 a2).ap e6)) (retP (And.intro trivial e7) (.one (.dp T2)) ((0 : Int) : Int))) (by kernel_rfl)⟩)) (fun e7 =>
   Owp.bnd fun y8 e9 =>
    Owp.bnd fun y10 e11 =>
    Owp.bnd fun y12 e13 =>
    Owp.bnd fun y14 e15 =>
    Owp.bnd fun y16 e17 =>
    Owp.bnd fun y18 e19 =>
    Owp.some (⟨[.cutR 1 ⟨[], [(0, 0), (1, 1), (2, 2)], (body_Ease.c1p a0 a1 a2), 3, .normal, (body_Ease.c1q a0 a1 a2 o5), 3⟩, .dec false, .res (.one (.dp T27)) y8, .res (.one (.dp T2)) y10, .res (.one (.dp T2)) y12, .res (.one (.dp T2)) y14, .res (.one (.dp T2)) y16, .res (.one (.dp T2)) y18], [], via (cutP trivial [(0, 0), (1, 1), (2, 2)] (body_Ease.c1p a0 a1 a2) (((body_Ease.c1_ok k a0 a1 a2).ap e6)) (retP (And.intro (And.intro (And.intro (And.intro (And.intro (And.intro (And.intro trivial e7) e9) e11) e13) e15) e17) e19) (.one (.dp T2)) (y18 : Int))) (by kernel_rfl)⟩))
theorem body_Ease.ok (k : Nat) : FnOk PR 173 (body_Ease.sp k) :=
  fn_ok (body_Ease.cok k) hmix Try.func173 (code := body_Ease.code) (by kernel_rfl) (by kernel_rfl) (by kernel_rfl) rfl rfl (by kernel_rfl) (by kernel_rfl) (by kernel_rfl) (fun x => Nat.le_of_ble_eq_true (by kernel_rfl)) fun x y hy => (body_Ease.way k x.1 x.2.1 x.2.2.1).ap hy

/-! tourney/body.At -/
noncomputable def body_At.code : Code := Func.cd Try.f175
def body_At (k : Nat) (a0 : V49) (a1 : V27) : Option V27 :=
  bnd (body_Check k a0) fun y1 =>
  bif' (ine y1 0)
  (some (0, 0, ()))
  (bnd (vec_Sub k a1 a0.1) fun y4 =>
   bnd (fix_Mul k a0.2.2.2.1 411775) fun y6 =>
   bnd (fix_Mul k y6 y4.2.1) fun y8 =>
   bnd (fix_Sub k a0.2.1.1 y8) fun y10 =>
   bnd (fix_Mul k y6 y4.1) fun y12 =>
   bnd (fix_Add k a0.2.1.2.1 y12) fun y14 =>
   some (y10, y14, ()))
noncomputable def body_At.sp (k : Nat) : Go.Sx.Spec := ⟨(.pair T49 (.pair T27 .unit)), (.one (.dp T27)), fun x => body_At k x.1 x.2.1, false⟩
noncomputable def body_At.cx (k : Nat) : Go.Sx.Ctx := ⟨tys, [(151, body_Check.sp k), (55, vec_Sub.sp k), (105, fix_Mul.sp k), (127, fix_Sub.sp k), (104, fix_Add.sp k)], eqs, 35, 0, [], false⟩
theorem body_At.cok (k : Nat) : CtxOk PR (body_At.cx k) := ctx_ok tysOk eqsOk (FnsOk.cons (body_Check.ok k) (FnsOk.cons (vec_Sub.ok k) (FnsOk.cons (fix_Mul.ok k) (FnsOk.cons (fix_Sub.ok k) (FnsOk.cons (fix_Add.ok k) FnsOk.nil))))) HsOk.nil
theorem body_At.way (k : Nat) (a0 : V49) (a1 : V27) : Owp (body_At k a0 a1) fun y => ∃ answers cmds, exec PR (body_At.cx k) body_At.code 0 (entry (.pair T49 (.pair T27 .unit)) (a0, a1, ())).st answers (Ret (body_At.cx k) Try.f175 cmds (.one (.dp T27)) y) := by
  unfold body_At; exact
   Owp.bnd fun y1 e2 =>
   Owp.bif (fun e3 =>
   Owp.some (⟨[.res (.one (.dp T2)) y1, .dec true], [], via (retP (And.intro (And.intro trivial e2) e3) (.one (.dp T27)) (((0 : Int), (0 : Int), ()) : V27)) (by kernel_rfl)⟩)) (fun e3 =>
   Owp.bnd fun y4 e5 =>
    Owp.bnd fun y6 e7 =>
    Owp.bnd fun y8 e9 =>
    Owp.bnd fun y10 e11 =>
    Owp.bnd fun y12 e13 =>
    Owp.bnd fun y14 e15 =>
    Owp.some (⟨[.res (.one (.dp T2)) y1, .dec false, .res (.one (.dp T27)) y4, .res (.one (.dp T2)) y6, .res (.one (.dp T2)) y8, .res (.one (.dp T2)) y10, .res (.one (.dp T2)) y12, .res (.one (.dp T2)) y14], [], via (retP (And.intro (And.intro (And.intro (And.intro (And.intro (And.intro (And.intro (And.intro trivial e2) e3) e5) e7) e9) e11) e13) e15) (.one (.dp T27)) ((y10, y14, ()) : V27)) (by kernel_rfl)⟩))
theorem body_At.ok (k : Nat) : FnOk PR 175 (body_At.sp k) :=
  fn_ok (body_At.cok k) hmix Try.func175 (code := body_At.code) (by kernel_rfl) (by kernel_rfl) (by kernel_rfl) rfl rfl (by kernel_rfl) (by kernel_rfl) (by kernel_rfl) (fun x => Nat.le_of_ble_eq_true (by kernel_rfl)) fun x y hy => (body_At.way k x.1 x.2.1).ap hy

/-! tourney/body.own -/
noncomputable def body_own.code : Code := Func.cd Try.f219
def body_own (k : Nat) (a0 : V49) : Option V49 :=
  bnd (slices_Clone k a0.2.2.2.2.2.2.2.2.1) fun y1 =>
  some (a0.1, a0.2.1, a0.2.2.1, a0.2.2.2.1, a0.2.2.2.2.1, a0.2.2.2.2.2.1, a0.2.2.2.2.2.2.1, a0.2.2.2.2.2.2.2.1, y1, a0.2.2.2.2.2.2.2.2.2)
noncomputable def body_own.sp (k : Nat) : Go.Sx.Spec := ⟨(.pair T49 .unit), (.one (.dp T49)), fun x => body_own k x.1, false⟩
noncomputable def body_own.cx (k : Nat) : Go.Sx.Ctx := ⟨tys, [(87, (slices_Clone.sp k).frz)], eqs, 8, 0, [], false⟩
theorem body_own.cok (k : Nat) : CtxOk PR (body_own.cx k) := ctx_ok tysOk eqsOk (FnsOk.cons (FnOk.frz rfl (slices_Clone.ok k)) FnsOk.nil) HsOk.nil
theorem body_own.way (k : Nat) (a0 : V49) : Owp (body_own k a0) fun y => ∃ answers cmds, exec PR (body_own.cx k) body_own.code 0 (entry (.pair T49 .unit) (a0, ())).st answers (Ret (body_own.cx k) Try.f219 cmds (.one (.dp T49)) y) := by
  unfold body_own; exact
   Owp.bnd fun y1 e2 =>
   Owp.some (⟨[.res (.one (.dp T22)) y1], [], via (retP (And.intro trivial e2) (.one (.dp T49)) ((a0.1, a0.2.1, a0.2.2.1, a0.2.2.2.1, a0.2.2.2.2.1, a0.2.2.2.2.2.1, a0.2.2.2.2.2.2.1, a0.2.2.2.2.2.2.2.1, y1, a0.2.2.2.2.2.2.2.2.2) : V49)) (by kernel_rfl)⟩)
theorem body_own.ok (k : Nat) : FnOk PR 219 (body_own.sp k) :=
  fn_ok (body_own.cok k) hmix Try.func219 (code := body_own.code) (by kernel_rfl) (by kernel_rfl) (by kernel_rfl) rfl rfl (by kernel_rfl) (by kernel_rfl) (by kernel_rfl) (fun x => Nat.le_of_ble_eq_true (by kernel_rfl)) fun x y hy => (body_own.way k x.1).ap hy

/-! tourney/body.clamp -/
noncomputable def body_clamp.code : Code := Func.cd Try.f220
def body_clamp (k : Nat) (a0 : Int) (a1 : Int) : Option Int :=
  some (imin (imax a0 (ineg .i64 a1)) a1)
noncomputable def body_clamp.sp (k : Nat) : Go.Sx.Spec := ⟨T27, (.one (.dp T2)), fun x => body_clamp k x.1 x.2.1, false⟩
noncomputable def body_clamp.cx (k : Nat) : Go.Sx.Ctx := ⟨tys, [], eqs, 11, 0, [], false⟩
theorem body_clamp.cok (k : Nat) : CtxOk PR (body_clamp.cx k) := ctx_ok tysOk eqsOk FnsOk.nil HsOk.nil
theorem body_clamp.way (k : Nat) (a0 : Int) (a1 : Int) : Owp (body_clamp k a0 a1) fun y => ∃ answers cmds, exec PR (body_clamp.cx k) body_clamp.code 0 (entry T27 (a0, a1, ())).st answers (Ret (body_clamp.cx k) Try.f220 cmds (.one (.dp T2)) y) := by
  unfold body_clamp; exact
   Owp.some (⟨[], [], via (retP trivial (.one (.dp T2)) ((imin (imax a0 (ineg .i64 a1)) a1) : Int)) (by kernel_rfl)⟩)
theorem body_clamp.ok (k : Nat) : FnOk PR 220 (body_clamp.sp k) :=
  fn_ok (body_clamp.cok k) hmix Try.func220 (code := body_clamp.code) (by kernel_rfl) (by kernel_rfl) (by kernel_rfl) rfl rfl (by kernel_rfl) (by kernel_rfl) (by kernel_rfl) (fun x => Nat.le_of_ble_eq_true (by kernel_rfl)) fun x y hy => (body_clamp.way k x.1 x.2.1).ap hy

/-! tourney/body.Push -/
noncomputable def body_Push.code : Code := Func.cd Try.f177
def body_Push.c1 (k : Nat) (y1 : V49) : Option (Bool) :=
  bnd (body_Check k y1) fun y3 =>
  bif' (ine y3 0)
  (some true)
  (bif' (ieq y1.2.2.2.2.1 0)
   (some true)
   (some y1.2.2.2.2.2.2.2.2.2.1))
def body_Push (k : Nat) (a0 : V49) (a1 : V27) (a2 : V27) : Option V49 :=
  bnd (body_own k a0) fun y1 =>
  bnd (body_Push.c1 k y1) fun o7 =>
  bif' o7
  (some y1)
  (bnd (vec_Sub k a2 y1.1) fun y10 =>
   bnd (vec_Cross k y10 a1) fun y12 =>
   bnd (body_over k y12 y1.2.2.2.2.2.1) fun y14 =>
   bnd (body_over k y14 411775) fun y16 =>
   bnd (body_over k a1.1 y1.2.2.2.2.1) fun y18 =>
   bnd (fix_Add k y1.2.1.1 y18) fun y20 =>
   bnd (body_clamp k y20 268435456) fun y22 =>
   bnd (body_over k a1.2.1 y1.2.2.2.2.1) fun y24 =>
   bnd (fix_Add k y1.2.1.2.1 y24) fun y26 =>
   bnd (body_clamp k y26 268435456) fun y28 =>
   bnd (fix_Add k y1.2.2.2.1 y16) fun y30 =>
   bnd (body_clamp k y30 16777216) fun y32 =>
   some (y1.1, (y22, y28, ()), y1.2.2.1, y32, y1.2.2.2.2))
noncomputable def body_Push.sp (k : Nat) : Go.Sx.Spec := ⟨(.pair T49 T35), (.one (.dp T49)), fun x => body_Push k x.1 x.2.1 x.2.2.1, false⟩
noncomputable def body_Push.cx (k : Nat) : Go.Sx.Ctx := ⟨tys, [(219, body_own.sp k), (151, body_Check.sp k), (55, vec_Sub.sp k), (216, vec_Cross.sp k), (217, body_over.sp k), (104, fix_Add.sp k), (220, body_clamp.sp k)], eqs, 64, 0, [], false⟩
theorem body_Push.cok (k : Nat) : CtxOk PR (body_Push.cx k) := ctx_ok tysOk eqsOk (FnsOk.cons (body_own.ok k) (FnsOk.cons (body_Check.ok k) (FnsOk.cons (vec_Sub.ok k) (FnsOk.cons (vec_Cross.ok k) (FnsOk.cons (body_over.ok k) (FnsOk.cons (fix_Add.ok k) (FnsOk.cons (body_clamp.ok k) FnsOk.nil))))))) HsOk.nil
noncomputable def body_Push.c1p (a1 : V27) (a2 : V27) (y1 : V49) : SL := ⟨[(3, (.val .ptr ⟨0, 0, (0 : Int), 0, 0⟩)), (4, (.val .ptr ⟨1, 0, (0 : Int), 0, 0⟩)), (5, (.val .ptr ⟨2, 0, (0 : Int), 0, 0⟩)), (6, (.val .ptr ⟨3, 0, (0 : Int), 0, 0⟩))], [(0, .cells T49 y1), (1, .cells T27 a1), (2, .cells T27 a2), (3, .cells T49 (((0 : Int), (0 : Int), ()), ((0 : Int), (0 : Int), ()), (0 : Int), (0 : Int), (0 : Int), (0 : Int), (0 : Int), (0 : Int), [], false, (0 : Int), ()))]⟩
noncomputable def body_Push.c1q (a1 : V27) (a2 : V27) (y1 : V49) (o : Bool) : SL := (fun v => ⟨[(3, (.val .ptr ⟨0, 0, (0 : Int), 0, 0⟩)), (4, (.val .ptr ⟨1, 0, (0 : Int), 0, 0⟩)), (5, (.val .ptr ⟨2, 0, (0 : Int), 0, 0⟩)), (6, (.val .ptr ⟨3, 0, (0 : Int), 0, 0⟩)), (21, (.val T4 v))], [(0, .cells T49 y1), (1, .cells T27 a1), (2, .cells T27 a2), (3, .cells T49 (((0 : Int), (0 : Int), ()), ((0 : Int), (0 : Int), ()), (0 : Int), (0 : Int), (0 : Int), (0 : Int), (0 : Int), (0 : Int), [], false, (0 : Int), ()))]⟩) o
noncomputable def body_Push.c1x (o : Bool) : Ex := (fun _ => .normal) o
noncomputable def body_Push.c1n (o : Bool) : Nat := (fun _ => 4) o
theorem body_Push.c1_ok (k : Nat) (a1 : V27) (a2 : V27) (y1 : V49) : Owp (body_Push.c1 k y1) fun o => Triple PR (body_Push.cx k) (sub body_Push.code [1, 1, 0, 0]) 4 (body_Push.c1p a1 a2 y1) (body_Push.c1x o) (body_Push.c1n o) (body_Push.c1q a1 a2 y1 o) := by
  unfold body_Push.c1; exact
   Owp.bnd fun y3 e4 =>
   Owp.bif (fun e5 =>
   Owp.some (triple_way (body_Push.cok k) hmix [.res (.one (.dp T2)) y3, .dec true, .dec true, .dec true, .dec true, .dec true, .dec true, .dec true] [] [(0, 0), (1, 1), (2, 2), (3, 3)] (via (finP (And.intro (And.intro (And.intro (And.intro (And.intro (And.intro (And.intro (And.intro trivial e4) e5) e5) e5) e5) tt) tt) tt) .normal [(0, 0), (1, 1), (2, 2), (3, 3)] (body_Push.c1q a1 a2 y1 true)) (by kernel_rfl)))) (fun e5 =>
   Owp.bif (fun e6 =>
    Owp.some (triple_way (body_Push.cok k) hmix [.res (.one (.dp T2)) y3, .dec false, .dec false, .dec false, .dec false, .dec true, .dec true, .dec true] [] [(0, 0), (1, 1), (2, 2), (3, 3)] (via (finP (And.intro (And.intro (And.intro (And.intro (And.intro (And.intro (And.intro (And.intro trivial e4) e5) e5) e5) e5) e6) e6) e6) .normal [(0, 0), (1, 1), (2, 2), (3, 3)] (body_Push.c1q a1 a2 y1 true)) (by kernel_rfl)))) (fun e6 =>
    Owp.some (triple_way (body_Push.cok k) hmix [.res (.one (.dp T2)) y3, .dec false, .dec false, .dec false, .dec false, .dec false, .dec false, .dec false] [] [(0, 0), (1, 1), (2, 2), (3, 3)] (via (finP (And.intro (And.intro (And.intro (And.intro (And.intro (And.intro (And.intro (And.intro trivial e4) e5) e5) e5) e5) e6) e6) e6) .normal [(0, 0), (1, 1), (2, 2), (3, 3)] (body_Push.c1q a1 a2 y1 y1.2.2.2.2.2.2.2.2.2.1)) (by kernel_rfl)))))
theorem body_Push.way (k : Nat) (a0 : V49) (a1 : V27) (a2 : V27) : Owp (body_Push k a0 a1 a2) fun y => ∃ answers cmds, exec PR (body_Push.cx k) body_Push.code 0 (entry (.pair T49 T35) (a0, a1, a2, ())).st answers (Ret (body_Push.cx k) Try.f177 cmds (.one (.dp T49)) y) := by
  unfold body_Push; exact
   Owp.bnd fun y1 e2 =>
   Owp.bnd fun o7 e8 =>
   Owp.bif (fun e9 =>
   Owp.some (⟨[.res (.one (.dp T49)) y1, .cutR 2 ⟨[], [(0, 0), (1, 1), (2, 2), (3, 3)], (body_Push.c1p a1 a2 y1), 4, .normal, (body_Push.c1q a1 a2 y1 o7), 4⟩, .dec true], [], via (cutP (And.intro trivial e2) [(0, 0), (1, 1), (2, 2), (3, 3)] (body_Push.c1p a1 a2 y1) (((body_Push.c1_ok k a1 a2 y1).ap e8)) (retP (And.intro trivial e9) (.one (.dp T49)) (y1 : V49))) (by kernel_rfl)⟩)) (fun e9 =>
   Owp.bnd fun y10 e11 =>
    Owp.bnd fun y12 e13 =>
    Owp.bnd fun y14 e15 =>
    Owp.bnd fun y16 e17 =>
    Owp.bnd fun y18 e19 =>
    Owp.bnd fun y20 e21 =>
    Owp.bnd fun y22 e23 =>
    Owp.bnd fun y24 e25 =>
    Owp.bnd fun y26 e27 =>
    Owp.bnd fun y28 e29 =>
    Owp.bnd fun y30 e31 =>
    Owp.bnd fun y32 e33 =>
    Owp.some (⟨[.res (.one (.dp T49)) y1, .cutR 2 ⟨[], [(0, 0), (1, 1), (2, 2), (3, 3)], (body_Push.c1p a1 a2 y1), 4, .normal, (body_Push.c1q a1 a2 y1 o7), 4⟩, .dec false, .res (.one (.dp T27)) y10, .res (.one (.dp T2)) y12, .res (.one (.dp T2)) y14, .res (.one (.dp T2)) y16, .res (.one (.dp T2)) y18, .res (.one (.dp T2)) y20, .res (.one (.dp T2)) y22, .res (.one (.dp T2)) y24, .res (.one (.dp T2)) y26, .res (.one (.dp T2)) y28, .res (.one (.dp T2)) y30, .res (.one (.dp T2)) y32], [], via (cutP (And.intro trivial e2) [(0, 0), (1, 1), (2, 2), (3, 3)] (body_Push.c1p a1 a2 y1) (((body_Push.c1_ok k a1 a2 y1).ap e8)) (retP (And.intro (And.intro (And.intro (And.intro (And.intro (And.intro (And.intro (And.intro (And.intro (And.intro (And.intro (And.intro (And.intro trivial e9) e11) e13) e15) e17) e19) e21) e23) e25) e27) e29) e31) e33) (.one (.dp T49)) ((y1.1, (y22, y28, ()), y1.2.2.1, y32, y1.2.2.2.2) : V49))) (by kernel_rfl)⟩))
theorem body_Push.ok (k : Nat) : FnOk PR 177 (body_Push.sp k) :=
  fn_ok (body_Push.cok k) hmix Try.func177 (code := body_Push.code) (by kernel_rfl) (by kernel_rfl) (by kernel_rfl) rfl rfl (by kernel_rfl) (by kernel_rfl) (by kernel_rfl) (fun x => Nat.le_of_ble_eq_true (by kernel_rfl)) fun x y hy => (body_Push.way k x.1 x.2.1 x.2.2.1).ap hy

end Go.Proofs.T1
