import Derived.Test.YtcgcnojpcgjnmaaG0
import Derived.Test.YtcgcnojpcgjnmaaG2
namespace Go.Proofs.T1
open Go Go.Sx Go.Proofs
set_option maxRecDepth 100000
set_option linter.unusedVariables false
/-! tourney/tourref2.Poly -/
noncomputable def tourref2_Poly.code : Code := Func.cd Try.f50
def tourref2_Poly.c1 (k : Nat) (a0 : (List V22)) : Nat → Int → Option (Unit ⊕ Unit)
  | 0, _ => none
  | n + 1, v3 =>
   bif' (ilt v3 (len a0))
   (req (inL v3 a0) <|
    bnd (tourref2_coord k (el Z22 a0 v3) 65536000) fun y6 =>
    bif' y6
    (tourref2_Poly.c1 k a0 n (iadd .i64 v3 1))
    (some (.inl ())))
   (some (.inr ()))
def tourref2_Poly.c4 (k : Nat) (a0 : (List V22)) (v15 : Int) (v17 : Int) : Nat → Int → Option (Unit ⊕ Unit)
  | 0, _ => none
  | n + 1, v19 =>
   bif' (ilt v19 (len a0))
   (req (inL v15 a0) <|
    req (inL v17 a0) <|
    req (inL v19 a0) <|
    bnd (tourref2_left k (el Z22 a0 v15) (el Z22 a0 v17) (el Z22 a0 v19)) fun y24 =>
    bif' (ile y24 0)
    (some (.inl ()))
    (tourref2_Poly.c4 k a0 v15 v17 n (iadd .i64 v19 1)))
   (some (.inr ()))
def tourref2_Poly.c3 (k : Nat) (a0 : (List V22)) (v15 : Int) : Nat → Int → Option (Unit ⊕ Unit)
  | 0, _ => none
  | n + 1, v17 =>
   bif' (ilt v17 (len a0))
   (bnd (tourref2_Poly.c4 k a0 v15 v17 k (iadd .i64 v17 1)) fun o27 =>
    two o27 (fun y29 =>
    some (.inl ())) (fun y31 =>
    tourref2_Poly.c3 k a0 v15 n (iadd .i64 v17 1)))
   (some (.inr ()))
def tourref2_Poly.c2 (k : Nat) (a0 : (List V22)) : Nat → Int → Option (Unit ⊕ Unit)
  | 0, _ => none
  | n + 1, v15 =>
   bif' (ilt v15 (len a0))
   (bnd (tourref2_Poly.c3 k a0 v15 k (iadd .i64 v15 1)) fun o33 =>
    two o33 (fun y35 =>
    some (.inl ())) (fun y37 =>
    tourref2_Poly.c2 k a0 n (iadd .i64 v15 1)))
   (some (.inr ()))
def tourref2_Poly (k : Nat) (a0 : (List V22)) : Option Int :=
  bif' (igt (len a0) 8)
  (some 2)
  (bif' (ilt (len a0) 3)
   (some 3)
   (bnd (tourref2_Poly.c1 k a0 k 0) fun o9 =>
    two o9 (fun y11 =>
    some 1) (fun y13 =>
    bnd (tourref2_Poly.c2 k a0 k 0) fun o39 =>
     two o39 (fun y41 =>
     some 3) (fun y43 =>
     some 0))))
noncomputable def tourref2_Poly.sp (k : Nat) : Go.Sx.Spec := ⟨(.pair T24 .unit), (.one (.dp T2)), fun x => tourref2_Poly k x.1, false⟩
noncomputable def tourref2_Poly.cx (k : Nat) : Go.Sx.Ctx := ⟨tys, [(87, tourref2_coord.sp k), (124, tourref2_left.sp k)], eqs, 60, 0, [], false⟩
theorem tourref2_Poly.cok (k : Nat) : CtxOk PR (tourref2_Poly.cx k) := ctx_ok tysOk eqsOk (FnsOk.cons (tourref2_coord.ok k) (FnsOk.cons (tourref2_left.ok k) FnsOk.nil)) HsOk.nil
noncomputable def tourref2_Poly.c1p (a0 : (List V22)) (v3 : Int) : SL := ⟨[(0, (.val T24 a0)), (3, (.val T2 (len a0))), (17, (.val T24 a0)), (18, (.val T2 (len a0))), (19, (.val T2 v3))], []⟩
noncomputable def tourref2_Poly.c1q (a0 : (List V22)) (o : Unit ⊕ Unit) : SL := (fun o => two o (fun v => ⟨[(2, (.val T2 (1 : Int)))], []⟩) (fun v => ⟨[(0, (.val T24 a0)), (3, (.val T2 (len a0)))], []⟩)) o
noncomputable def tourref2_Poly.c1x (o : Unit ⊕ Unit) : Ex := (fun o => two o (fun _ => .ret) (fun _ => (.exit 1))) o
noncomputable def tourref2_Poly.c1n (o : Unit ⊕ Unit) : Nat := (fun o => two o (fun _ => 0) (fun _ => 0)) o
theorem tourref2_Poly.c1_ok (k : Nat) (a0 : (List V22)) : ∀ (n : Nat) (v3 : Int), Owp (tourref2_Poly.c1 k a0 n v3) fun o => LTriple PR (tourref2_Poly.cx k) (sub tourref2_Poly.code [1, 1, 1, 0, 1, 0, 0]) 0 (tourref2_Poly.c1p a0 v3) (tourref2_Poly.c1x o) (tourref2_Poly.c1n o) (tourref2_Poly.c1q a0 o)
  | 0, _ => fun _ h => nomatch h
  | n + 1, v3 => Owp.of (tourref2_Poly.c1.eq_2 ..) (
   Owp.bif (fun e4 =>
   Owp.req fun h5 =>
    Owp.bnd fun y6 e7 =>
    Owp.bif (fun e8 =>
    fun y hy => loop_back (tourref2_Poly.cok k) hmix 0 (tourref2_Poly.c1p a0 (iadd .i64 v3 (1 : Int))) [.dec true, .res (.one (.dp T4)) y6, .dec false] [] [] (via (finP (And.intro (And.intro (And.intro (And.intro trivial e4) h5) e7) (congrArg not e8)) .normal [] (tourref2_Poly.c1p a0 (iadd .i64 v3 (1 : Int)))) (by kernel_rfl)) ((tourref2_Poly.c1_ok k a0 n (iadd .i64 v3 (1 : Int))).ap hy)) (fun e8 =>
    Owp.some (loop_exit (tourref2_Poly.cok k) hmix [.dec true, .res (.one (.dp T4)) y6, .dec true] [] [] exne_ret (via (finP (And.intro (And.intro (And.intro (And.intro trivial e4) h5) e7) (congrArg not e8)) .ret [] (tourref2_Poly.c1q a0 (.inl ()))) (by kernel_rfl))))) (fun e4 =>
   Owp.some (loop_exit (tourref2_Poly.cok k) hmix [.dec false] [] [] (exne 1) (via (finP (And.intro trivial e4) (.exit 1) [] (tourref2_Poly.c1q a0 (.inr ()))) (by kernel_rfl)))))
noncomputable def tourref2_Poly.c4p (a0 : (List V22)) (v15 : Int) (v17 : Int) (v19 : Int) : SL := ⟨[(0, (.val T24 a0)), (3, (.val T2 (len a0))), (6, (.val T2 v15)), (7, (.val T2 v17)), (8, (.val T2 v19)), (27, (.val T2 (len a0))), (28, (.val T2 v15))], []⟩
noncomputable def tourref2_Poly.c4q (a0 : (List V22)) (v15 : Int) (v17 : Int) (o : Unit ⊕ Unit) : SL := (fun o => two o (fun v => ⟨[(2, (.val T2 (3 : Int)))], []⟩) (fun v => ⟨[(0, (.val T24 a0)), (3, (.val T2 (len a0))), (6, (.val T2 v15)), (7, (.val T2 v17)), (27, (.val T2 (len a0))), (28, (.val T2 v15))], []⟩)) o
noncomputable def tourref2_Poly.c4x (o : Unit ⊕ Unit) : Ex := (fun o => two o (fun _ => .ret) (fun _ => (.exit 7))) o
noncomputable def tourref2_Poly.c4n (o : Unit ⊕ Unit) : Nat := (fun o => two o (fun _ => 0) (fun _ => 0)) o
theorem tourref2_Poly.c4_ok (k : Nat) (a0 : (List V22)) (v15 : Int) (v17 : Int) : ∀ (n : Nat) (v19 : Int), Owp (tourref2_Poly.c4 k a0 v15 v17 n v19) fun o => LTriple PR (tourref2_Poly.cx k) (sub tourref2_Poly.code [1, 1, 1, 1, 0, 1, 0, 0, 1, 1, 0, 0, 1, 1, 0, 0, 1, 0, 0, 1, 0, 0]) 0 (tourref2_Poly.c4p a0 v15 v17 v19) (tourref2_Poly.c4x o) (tourref2_Poly.c4n o) (tourref2_Poly.c4q a0 v15 v17 o)
  | 0, _ => fun _ h => nomatch h
  | n + 1, v19 => Owp.of (tourref2_Poly.c4.eq_2 ..) (
   Owp.bif (fun e20 =>
   Owp.req fun h21 =>
    Owp.req fun h22 =>
    Owp.req fun h23 =>
    Owp.bnd fun y24 e25 =>
    Owp.bif (fun e26 =>
    Owp.some (loop_exit (tourref2_Poly.cok k) hmix [.dec true, .res (.one (.dp T2)) y24, .dec true] [] [] exne_ret (via (finP (And.intro (And.intro (And.intro (And.intro (And.intro (And.intro trivial e20) h21) h22) h23) e25) e26) .ret [] (tourref2_Poly.c4q a0 v15 v17 (.inl ()))) (by kernel_rfl)))) (fun e26 =>
    fun y hy => loop_back (tourref2_Poly.cok k) hmix 0 (tourref2_Poly.c4p a0 v15 v17 (iadd .i64 v19 (1 : Int))) [.dec true, .res (.one (.dp T2)) y24, .dec false] [] [] (via (finP (And.intro (And.intro (And.intro (And.intro (And.intro (And.intro trivial e20) h21) h22) h23) e25) e26) .normal [] (tourref2_Poly.c4p a0 v15 v17 (iadd .i64 v19 (1 : Int)))) (by kernel_rfl)) ((tourref2_Poly.c4_ok k a0 v15 v17 n (iadd .i64 v19 (1 : Int))).ap hy))) (fun e20 =>
   Owp.some (loop_exit (tourref2_Poly.cok k) hmix [.dec false] [] [] (exne 7) (via (finP (And.intro trivial e20) (.exit 7) [] (tourref2_Poly.c4q a0 v15 v17 (.inr ()))) (by kernel_rfl)))))
noncomputable def tourref2_Poly.c3p (a0 : (List V22)) (v15 : Int) (v17 : Int) : SL := ⟨[(0, (.val T24 a0)), (3, (.val T2 (len a0))), (6, (.val T2 v15)), (7, (.val T2 v17)), (27, (.val T2 (len a0))), (28, (.val T2 v15))], []⟩
noncomputable def tourref2_Poly.c3q (a0 : (List V22)) (v15 : Int) (o : Unit ⊕ Unit) : SL := (fun o => two o (fun v => ⟨[(2, (.val T2 (3 : Int)))], []⟩) (fun v => ⟨[(0, (.val T24 a0)), (3, (.val T2 (len a0))), (27, (.val T2 (len a0))), (28, (.val T2 v15))], []⟩)) o
noncomputable def tourref2_Poly.c3x (o : Unit ⊕ Unit) : Ex := (fun o => two o (fun _ => .ret) (fun _ => (.exit 5))) o
noncomputable def tourref2_Poly.c3n (o : Unit ⊕ Unit) : Nat := (fun o => two o (fun _ => 0) (fun _ => 0)) o
theorem tourref2_Poly.c3_ok (k : Nat) (a0 : (List V22)) (v15 : Int) : ∀ (n : Nat) (v17 : Int), Owp (tourref2_Poly.c3 k a0 v15 n v17) fun o => LTriple PR (tourref2_Poly.cx k) (sub tourref2_Poly.code [1, 1, 1, 1, 0, 1, 0, 0, 1, 1, 0, 0, 1, 1, 0, 0]) 0 (tourref2_Poly.c3p a0 v15 v17) (tourref2_Poly.c3x o) (tourref2_Poly.c3n o) (tourref2_Poly.c3q a0 v15 o)
  | 0, _ => fun _ h => nomatch h
  | n + 1, v17 => Owp.of (tourref2_Poly.c3.eq_2 ..) (
   Owp.bif (fun e18 =>
   Owp.bnd fun o27 e28 =>
    Owp.two (fun y29 e30 =>
    Owp.some (loop_exit (tourref2_Poly.cok k) hmix [.dec true, .cut ⟨[], [], (tourref2_Poly.c4p a0 v15 v17 (iadd .i64 v17 (1 : Int))), 0, .ret, (tourref2_Poly.c4q a0 v15 v17 (.inl ())), 0⟩] [] [] exne_ret (via (cutP (And.intro trivial e18) [] (tourref2_Poly.c4p a0 v15 v17 (iadd .i64 v17 (1 : Int))) (((tourref2_Poly.c4_ok k a0 v15 v17 k (iadd .i64 v17 (1 : Int))).ap (e28.trans (congrArg some e30))).triple) (finP trivial .ret [] (tourref2_Poly.c3q a0 v15 (.inl ())))) (by kernel_rfl)))) (fun y31 e32 =>
    fun y hy => loop_back (tourref2_Poly.cok k) hmix 0 (tourref2_Poly.c3p a0 v15 (iadd .i64 v17 (1 : Int))) [.dec true, .cut ⟨[], [], (tourref2_Poly.c4p a0 v15 v17 (iadd .i64 v17 (1 : Int))), 0, (.exit 7), (tourref2_Poly.c4q a0 v15 v17 (.inr ())), 0⟩] [] [] (via (cutP (And.intro trivial e18) [] (tourref2_Poly.c4p a0 v15 v17 (iadd .i64 v17 (1 : Int))) (((tourref2_Poly.c4_ok k a0 v15 v17 k (iadd .i64 v17 (1 : Int))).ap (e28.trans (congrArg some e32))).triple) (finP trivial .normal [] (tourref2_Poly.c3p a0 v15 (iadd .i64 v17 (1 : Int))))) (by kernel_rfl)) ((tourref2_Poly.c3_ok k a0 v15 n (iadd .i64 v17 (1 : Int))).ap hy))) (fun e18 =>
   Owp.some (loop_exit (tourref2_Poly.cok k) hmix [.dec false] [] [] (exne 5) (via (finP (And.intro trivial e18) (.exit 5) [] (tourref2_Poly.c3q a0 v15 (.inr ()))) (by kernel_rfl)))))
noncomputable def tourref2_Poly.c2p (a0 : (List V22)) (v15 : Int) : SL := ⟨[(0, (.val T24 a0)), (3, (.val T2 (len a0))), (27, (.val T2 (len a0))), (28, (.val T2 v15))], []⟩
noncomputable def tourref2_Poly.c2q (o : Unit ⊕ Unit) : SL := (fun o => two o (fun v => ⟨[(2, (.val T2 (3 : Int)))], []⟩) (fun v => ⟨[], []⟩)) o
noncomputable def tourref2_Poly.c2x (o : Unit ⊕ Unit) : Ex := (fun o => two o (fun _ => .ret) (fun _ => (.exit 3))) o
noncomputable def tourref2_Poly.c2n (o : Unit ⊕ Unit) : Nat := (fun o => two o (fun _ => 0) (fun _ => 0)) o
theorem tourref2_Poly.c2_ok (k : Nat) (a0 : (List V22)) : ∀ (n : Nat) (v15 : Int), Owp (tourref2_Poly.c2 k a0 n v15) fun o => LTriple PR (tourref2_Poly.cx k) (sub tourref2_Poly.code [1, 1, 1, 1, 0, 1, 0, 0]) 0 (tourref2_Poly.c2p a0 v15) (tourref2_Poly.c2x o) (tourref2_Poly.c2n o) (tourref2_Poly.c2q o)
  | 0, _ => fun _ h => nomatch h
  | n + 1, v15 => Owp.of (tourref2_Poly.c2.eq_2 ..) (
   Owp.bif (fun e16 =>
   Owp.bnd fun o33 e34 =>
    Owp.two (fun y35 e36 =>
    Owp.some (loop_exit (tourref2_Poly.cok k) hmix [.dec true, .cut ⟨[], [], (tourref2_Poly.c3p a0 v15 (iadd .i64 v15 (1 : Int))), 0, .ret, (tourref2_Poly.c3q a0 v15 (.inl ())), 0⟩] [] [] exne_ret (via (cutP (And.intro trivial e16) [] (tourref2_Poly.c3p a0 v15 (iadd .i64 v15 (1 : Int))) (((tourref2_Poly.c3_ok k a0 v15 k (iadd .i64 v15 (1 : Int))).ap (e34.trans (congrArg some e36))).triple) (finP trivial .ret [] (tourref2_Poly.c2q (.inl ())))) (by kernel_rfl)))) (fun y37 e38 =>
    fun y hy => loop_back (tourref2_Poly.cok k) hmix 0 (tourref2_Poly.c2p a0 (iadd .i64 v15 (1 : Int))) [.dec true, .cut ⟨[], [], (tourref2_Poly.c3p a0 v15 (iadd .i64 v15 (1 : Int))), 0, (.exit 5), (tourref2_Poly.c3q a0 v15 (.inr ())), 0⟩] [] [] (via (cutP (And.intro trivial e16) [] (tourref2_Poly.c3p a0 v15 (iadd .i64 v15 (1 : Int))) (((tourref2_Poly.c3_ok k a0 v15 k (iadd .i64 v15 (1 : Int))).ap (e34.trans (congrArg some e38))).triple) (finP trivial .normal [] (tourref2_Poly.c2p a0 (iadd .i64 v15 (1 : Int))))) (by kernel_rfl)) ((tourref2_Poly.c2_ok k a0 n (iadd .i64 v15 (1 : Int))).ap hy))) (fun e16 =>
   Owp.some (loop_exit (tourref2_Poly.cok k) hmix [.dec false] [] [] (exne 3) (via (finP (And.intro trivial e16) (.exit 3) [] (tourref2_Poly.c2q (.inr ()))) (by kernel_rfl)))))
theorem tourref2_Poly.way (k : Nat) (a0 : (List V22)) : Owp (tourref2_Poly k a0) fun y => ∃ answers cmds, exec PR (tourref2_Poly.cx k) tourref2_Poly.code 0 (entry (.pair T24 .unit) (a0, ())).st answers (Ret (tourref2_Poly.cx k) Try.f50 cmds (.one (.dp T2)) y) := by
  unfold tourref2_Poly; exact
   Owp.bif (fun e1 =>
   Owp.some (⟨[.dec true], [], via (retP (And.intro trivial e1) (.one (.dp T2)) ((2 : Int) : Int)) (by kernel_rfl)⟩)) (fun e1 =>
   Owp.bif (fun e2 =>
    Owp.some (⟨[.dec false, .dec true], [], via (retP (And.intro (And.intro trivial e1) e2) (.one (.dp T2)) ((3 : Int) : Int)) (by kernel_rfl)⟩)) (fun e2 =>
    Owp.bnd fun o9 e10 =>
     Owp.two (fun y11 e12 =>
     Owp.some (⟨[.dec false, .dec false, .cut ⟨[], [], (tourref2_Poly.c1p a0 (0 : Int)), 0, .ret, (tourref2_Poly.c1q a0 (.inl ())), 0⟩], [], via (cutP (And.intro (And.intro trivial e1) e2) [] (tourref2_Poly.c1p a0 (0 : Int)) (((tourref2_Poly.c1_ok k a0 k (0 : Int)).ap (e10.trans (congrArg some e12))).triple) (retP trivial (.one (.dp T2)) ((1 : Int) : Int))) (by kernel_rfl)⟩)) (fun y13 e14 =>
     Owp.bnd fun o39 e40 =>
      Owp.two (fun y41 e42 =>
      Owp.some (⟨[.dec false, .dec false, .cut ⟨[], [], (tourref2_Poly.c1p a0 (0 : Int)), 0, (.exit 1), (tourref2_Poly.c1q a0 (.inr ())), 0⟩, .cut ⟨[], [], (tourref2_Poly.c2p a0 (0 : Int)), 0, .ret, (tourref2_Poly.c2q (.inl ())), 0⟩], [], via (cutP (And.intro (And.intro trivial e1) e2) [] (tourref2_Poly.c1p a0 (0 : Int)) (((tourref2_Poly.c1_ok k a0 k (0 : Int)).ap (e10.trans (congrArg some e14))).triple) (cutP trivial [] (tourref2_Poly.c2p a0 (0 : Int)) (((tourref2_Poly.c2_ok k a0 k (0 : Int)).ap (e40.trans (congrArg some e42))).triple) (retP trivial (.one (.dp T2)) ((3 : Int) : Int)))) (by kernel_rfl)⟩)) (fun y43 e44 =>
      Owp.some (⟨[.dec false, .dec false, .cut ⟨[], [], (tourref2_Poly.c1p a0 (0 : Int)), 0, (.exit 1), (tourref2_Poly.c1q a0 (.inr ())), 0⟩, .cut ⟨[], [], (tourref2_Poly.c2p a0 (0 : Int)), 0, (.exit 3), (tourref2_Poly.c2q (.inr ())), 0⟩], [], via (cutP (And.intro (And.intro trivial e1) e2) [] (tourref2_Poly.c1p a0 (0 : Int)) (((tourref2_Poly.c1_ok k a0 k (0 : Int)).ap (e10.trans (congrArg some e14))).triple) (cutP trivial [] (tourref2_Poly.c2p a0 (0 : Int)) (((tourref2_Poly.c2_ok k a0 k (0 : Int)).ap (e40.trans (congrArg some e44))).triple) (retP trivial (.one (.dp T2)) ((0 : Int) : Int)))) (by kernel_rfl)⟩)))))
theorem tourref2_Poly.ok (k : Nat) : FnOk PR 50 (tourref2_Poly.sp k) :=
  fn_ok (tourref2_Poly.cok k) hmix Try.func50 (code := tourref2_Poly.code) (by kernel_rfl) (by kernel_rfl) (by kernel_rfl) rfl rfl (by kernel_rfl) (by kernel_rfl) (by kernel_rfl) (fun x => Nat.le_of_ble_eq_true (by kernel_rfl)) fun x y hy => (tourref2_Poly.way k x.1).ap hy

/-! tourney/tourlaw2.square -/
noncomputable def tourlaw2_square.code : Code := Func.cd Try.f69
def tourlaw2_square (k : Nat) (a0 : Int) (a1 : Int) (a2 : Int) : Option (List V22) :=
  some [((imul .i64 a0 65536), (imul .i64 a1 65536), ()), ((iadd .i64 (imul .i64 a0 65536) (imul .i64 a2 65536)), (imul .i64 a1 65536), ()), ((iadd .i64 (imul .i64 a0 65536) (imul .i64 a2 65536)), (iadd .i64 (imul .i64 a1 65536) (imul .i64 a2 65536)), ()), ((imul .i64 a0 65536), (iadd .i64 (imul .i64 a1 65536) (imul .i64 a2 65536)), ())]
noncomputable def tourlaw2_square.sp (k : Nat) : Go.Sx.Spec := ⟨(.pair T2 T22), (.one (.ow T22 23)), fun x => tourlaw2_square k x.1 x.2.1 x.2.2.1, false⟩
noncomputable def tourlaw2_square.cx (k : Nat) : Go.Sx.Ctx := ⟨tys, [], eqs, 34, 0, [], false⟩
theorem tourlaw2_square.cok (k : Nat) : CtxOk PR (tourlaw2_square.cx k) := ctx_ok tysOk eqsOk FnsOk.nil HsOk.nil
theorem tourlaw2_square.way (k : Nat) (a0 : Int) (a1 : Int) (a2 : Int) : Owp (tourlaw2_square k a0 a1 a2) fun y => ∃ answers cmds, exec PR (tourlaw2_square.cx k) tourlaw2_square.code 0 (entry (.pair T2 T22) (a0, a1, a2, ())).st answers (Ret (tourlaw2_square.cx k) Try.f69 cmds (.one (.ow T22 23)) y) := by
  unfold tourlaw2_square; exact
   Owp.some (⟨[.dec true], [], via (retP trivial (.one (.ow T22 23)) ([((imul .i64 a0 (65536 : Int)), (imul .i64 a1 (65536 : Int)), ()), ((iadd .i64 (imul .i64 a0 (65536 : Int)) (imul .i64 a2 (65536 : Int))), (imul .i64 a1 (65536 : Int)), ()), ((iadd .i64 (imul .i64 a0 (65536 : Int)) (imul .i64 a2 (65536 : Int))), (iadd .i64 (imul .i64 a1 (65536 : Int)) (imul .i64 a2 (65536 : Int))), ()), ((imul .i64 a0 (65536 : Int)), (iadd .i64 (imul .i64 a1 (65536 : Int)) (imul .i64 a2 (65536 : Int))), ())] : (List V22))) (by kernel_rfl)⟩)
theorem tourlaw2_square.ok (k : Nat) : FnOk PR 69 (tourlaw2_square.sp k) :=
  fn_ok (tourlaw2_square.cok k) hmix Try.func69 (code := tourlaw2_square.code) (by kernel_rfl) (by kernel_rfl) (by kernel_rfl) rfl rfl (by kernel_rfl) (by kernel_rfl) (by kernel_rfl) (fun x => Nat.le_of_ble_eq_true (by kernel_rfl)) fun x y hy => (tourlaw2_square.way k x.1 x.2.1 x.2.2.1).ap hy

/-! tourney/tourref2.Inside -/
noncomputable def tourref2_Inside.code : Code := Func.cd Try.f100
def tourref2_Inside.c2 (k : Nat) (a0 : (List V22)) (a1 : V22) (v4 : Int) : Option (Bool) :=
  req (inL 0 a0) <|
  req (inL (isub .i64 v4 1) a0) <|
  bnd (tourref2_left k (el Z22 a0 0) (el Z22 a0 (isub .i64 v4 1)) a1) fun y8 =>
  bif' (ige y8 0)
  (req (inL v4 a0) <|
   bnd (tourref2_left k (el Z22 a0 (isub .i64 v4 1)) (el Z22 a0 v4) a1) fun y12 =>
   bif' (ige y12 0)
   (bnd (tourref2_left k (el Z22 a0 v4) (el Z22 a0 0) a1) fun y15 =>
    some (ige y15 0))
   (some false))
  (some false)
def tourref2_Inside.c1 (k : Nat) (a0 : (List V22)) (a1 : V22) : Nat → Int → Option (Unit ⊕ Unit)
  | 0, _ => none
  | n + 1, v4 =>
   bif' (ilt v4 (len a0))
   (bnd (tourref2_Inside.c2 k a0 a1 v4) fun o17 =>
    bif' o17
    (some (.inl ()))
    (tourref2_Inside.c1 k a0 a1 n (iadd .i64 v4 1)))
   (some (.inr ()))
def tourref2_Inside (k : Nat) (a0 : (List V22)) (a1 : V22) : Option Bool :=
  bnd (tourref2_coord k a1 65536000) fun y1 =>
  bif' y1
  (bnd (tourref2_Inside.c1 k a0 a1 k 2) fun o20 =>
   two o20 (fun y22 =>
   some true) (fun y24 =>
   some false))
  (some false)
noncomputable def tourref2_Inside.sp (k : Nat) : Go.Sx.Spec := ⟨(.pair T24 (.pair T22 .unit)), (.one (.dp T4)), fun x => tourref2_Inside k x.1 x.2.1, false⟩
noncomputable def tourref2_Inside.cx (k : Nat) : Go.Sx.Ctx := ⟨tys, [(87, tourref2_coord.sp k), (124, tourref2_left.sp k)], eqs, 52, 0, [], false⟩
theorem tourref2_Inside.cok (k : Nat) : CtxOk PR (tourref2_Inside.cx k) := ctx_ok tysOk eqsOk (FnsOk.cons (tourref2_coord.ok k) (FnsOk.cons (tourref2_left.ok k) FnsOk.nil)) HsOk.nil
noncomputable def tourref2_Inside.c2p (a0 : (List V22)) (a1 : V22) (v4 : Int) : SL := ⟨[(0, (.val T24 a0)), (3, (.val .ptr ⟨0, 0, (0 : Int), 0, 0⟩)), (5, (.val T2 v4))], [(0, .cells T22 a1)]⟩
noncomputable def tourref2_Inside.c2q (a0 : (List V22)) (a1 : V22) (v4 : Int) (o : Bool) : SL := (fun v => ⟨[(0, (.val T24 a0)), (3, (.val .ptr ⟨0, 0, (0 : Int), 0, 0⟩)), (5, (.val T2 v4)), (51, (.val T4 v))], [(0, .cells T22 a1)]⟩) o
noncomputable def tourref2_Inside.c2x (o : Bool) : Ex := (fun _ => .normal) o
noncomputable def tourref2_Inside.c2n (o : Bool) : Nat := (fun _ => 1) o
theorem tourref2_Inside.c2_ok (k : Nat) (a0 : (List V22)) (a1 : V22) (v4 : Int) : Owp (tourref2_Inside.c2 k a0 a1 v4) fun o => Triple PR (tourref2_Inside.cx k) (sub tourref2_Inside.code [1, 1, 0, 1, 0, 0, 1, 0, 0, 0]) 1 (tourref2_Inside.c2p a0 a1 v4) (tourref2_Inside.c2x o) (tourref2_Inside.c2n o) (tourref2_Inside.c2q a0 a1 v4 o) := by
  unfold tourref2_Inside.c2; exact
   Owp.req fun h6 =>
   Owp.req fun h7 =>
   Owp.bnd fun y8 e9 =>
   Owp.bif (fun e10 =>
   Owp.req fun h11 =>
    Owp.bnd fun y12 e13 =>
    Owp.bif (fun e14 =>
    Owp.bnd fun y15 e16 =>
     Owp.some (triple_way (tourref2_Inside.cok k) hmix [.res (.one (.dp T2)) y8, .dec true, .dec true, .dec true, .dec true, .dec true, .dec true, .dec true, .dec true, .dec true, .dec true, .dec true, .res (.one (.dp T2)) y12, .dec true, .dec true, .dec true, .dec true, .dec true, .dec true, .dec true, .dec true, .dec true, .dec true, .dec true, .res (.one (.dp T2)) y15, .dec true, .dec true] [] [(0, 0)] (via (finP (And.intro (And.intro (And.intro (And.intro (And.intro (And.intro (And.intro (And.intro (And.intro (And.intro (And.intro (And.intro (And.intro (And.intro (And.intro (And.intro (And.intro (And.intro (And.intro (And.intro (And.intro (And.intro (And.intro (And.intro (And.intro (And.intro (And.intro trivial h6) h7) e9) e10) e10) e10) (And.intro e10 h7)) e10) e10) e10) (And.intro e10 h11)) e10) e10) (And.intro e10 e13)) e10) e10) e14) e14) (And.intro e14 h11)) e14) e14) (And.intro e14 h6)) e14) e14) (And.intro e14 e16)) e14) e14) .normal [(0, 0)] (tourref2_Inside.c2q a0 a1 v4 (ige y15 (0 : Int)))) (by kernel_rfl)))) (fun e14 =>
    Owp.some (triple_way (tourref2_Inside.cok k) hmix [.res (.one (.dp T2)) y8, .dec true, .dec true, .dec true, .dec true, .dec true, .dec true, .dec true, .dec true, .dec true, .dec true, .dec true, .res (.one (.dp T2)) y12, .dec true, .dec true, .dec false, .dec false, .dec false, .dec false, .dec false, .dec false, .dec false, .dec false, .dec false, .dec true, .dec false, .dec false] [] [(0, 0)] (via (finP (And.intro (And.intro (And.intro (And.intro (And.intro (And.intro (And.intro (And.intro (And.intro (And.intro (And.intro (And.intro (And.intro (And.intro (And.intro (And.intro (And.intro (And.intro (And.intro (And.intro (And.intro (And.intro (And.intro (And.intro (And.intro (And.intro (And.intro trivial h6) h7) e9) e10) e10) e10) (And.intro e10 h7)) e10) e10) e10) (And.intro e10 h11)) e10) e10) (And.intro e10 e13)) e10) e10) e14) e14) e14) e14) e14) e14) e14) e14) e14) e14) e14) .normal [(0, 0)] (tourref2_Inside.c2q a0 a1 v4 false)) (by kernel_rfl))))) (fun e10 =>
   Owp.some (triple_way (tourref2_Inside.cok k) hmix [.res (.one (.dp T2)) y8, .dec false, .dec false, .dec false, .dec false, .dec false, .dec false, .dec false, .dec false, .dec false, .dec false, .dec false, .dec true, .dec false, .dec false, .dec false, .dec false, .dec false, .dec false, .dec false, .dec false, .dec false, .dec false, .dec false, .dec true, .dec false, .dec false] [] [(0, 0)] (via (finP (And.intro (And.intro (And.intro (And.intro (And.intro (And.intro (And.intro (And.intro (And.intro (And.intro (And.intro (And.intro (And.intro (And.intro (And.intro (And.intro (And.intro (And.intro (And.intro (And.intro (And.intro (And.intro (And.intro (And.intro (And.intro (And.intro (And.intro trivial h6) h7) e9) e10) e10) e10) e10) e10) e10) e10) e10) e10) e10) e10) e10) e10) ff) ff) ff) ff) ff) ff) ff) ff) ff) ff) ff) .normal [(0, 0)] (tourref2_Inside.c2q a0 a1 v4 false)) (by kernel_rfl))))
noncomputable def tourref2_Inside.c1p (a0 : (List V22)) (a1 : V22) (v4 : Int) : SL := ⟨[(0, (.val T24 a0)), (3, (.val .ptr ⟨0, 0, (0 : Int), 0, 0⟩)), (5, (.val T2 v4))], [(0, .cells T22 a1)]⟩
noncomputable def tourref2_Inside.c1q (o : Unit ⊕ Unit) : SL := (fun o => two o (fun v => ⟨[(4, (.val T4 true))], []⟩) (fun v => ⟨[], []⟩)) o
noncomputable def tourref2_Inside.c1x (o : Unit ⊕ Unit) : Ex := (fun o => two o (fun _ => .ret) (fun _ => (.exit 0))) o
noncomputable def tourref2_Inside.c1n (o : Unit ⊕ Unit) : Nat := (fun o => two o (fun _ => 0) (fun _ => 0)) o
theorem tourref2_Inside.c1_ok (k : Nat) (a0 : (List V22)) (a1 : V22) : ∀ (n : Nat) (v4 : Int), Owp (tourref2_Inside.c1 k a0 a1 n v4) fun o => LTriple PR (tourref2_Inside.cx k) (sub tourref2_Inside.code [1, 1, 0, 1, 0, 0]) 1 (tourref2_Inside.c1p a0 a1 v4) (tourref2_Inside.c1x o) (tourref2_Inside.c1n o) (tourref2_Inside.c1q o)
  | 0, _ => fun _ h => nomatch h
  | n + 1, v4 => Owp.of (tourref2_Inside.c1.eq_2 ..) (
   Owp.bif (fun e5 =>
   Owp.bnd fun o17 e18 =>
    Owp.bif (fun e19 =>
    Owp.some (loop_exit (tourref2_Inside.cok k) hmix [.dec true, .cutR 6 ⟨[], [(0, 0)], (tourref2_Inside.c2p a0 a1 v4), 1, .normal, (tourref2_Inside.c2q a0 a1 v4 o17), 1⟩, .dec true] [] [] exne_ret (via (cutP (And.intro trivial e5) [(0, 0)] (tourref2_Inside.c2p a0 a1 v4) (((tourref2_Inside.c2_ok k a0 a1 v4).ap e18)) (finP (And.intro trivial e19) .ret [] (tourref2_Inside.c1q (.inl ())))) (by kernel_rfl)))) (fun e19 =>
    fun y hy => loop_back (tourref2_Inside.cok k) hmix 1 (tourref2_Inside.c1p a0 a1 (iadd .i64 v4 (1 : Int))) [.dec true, .cutR 6 ⟨[], [(0, 0)], (tourref2_Inside.c2p a0 a1 v4), 1, .normal, (tourref2_Inside.c2q a0 a1 v4 o17), 1⟩, .dec false] [] [(0, 0)] (via (cutP (And.intro trivial e5) [(0, 0)] (tourref2_Inside.c2p a0 a1 v4) (((tourref2_Inside.c2_ok k a0 a1 v4).ap e18)) (finP (And.intro trivial e19) .normal [(0, 0)] (tourref2_Inside.c1p a0 a1 (iadd .i64 v4 (1 : Int))))) (by kernel_rfl)) ((tourref2_Inside.c1_ok k a0 a1 n (iadd .i64 v4 (1 : Int))).ap hy))) (fun e5 =>
   Owp.some (loop_exit (tourref2_Inside.cok k) hmix [.dec false] [] [] (exne 0) (via (finP (And.intro trivial e5) (.exit 0) [] (tourref2_Inside.c1q (.inr ()))) (by kernel_rfl)))))
theorem tourref2_Inside.way (k : Nat) (a0 : (List V22)) (a1 : V22) : Owp (tourref2_Inside k a0 a1) fun y => ∃ answers cmds, exec PR (tourref2_Inside.cx k) tourref2_Inside.code 0 (entry (.pair T24 (.pair T22 .unit)) (a0, a1, ())).st answers (Ret (tourref2_Inside.cx k) Try.f100 cmds (.one (.dp T4)) y) := by
  unfold tourref2_Inside; exact
   Owp.bnd fun y1 e2 =>
   Owp.bif (fun e3 =>
   Owp.bnd fun o20 e21 =>
    Owp.two (fun y22 e23 =>
    Owp.some (⟨[.res (.one (.dp T4)) y1, .dec false, .cut ⟨[], [(0, 0)], (tourref2_Inside.c1p a0 a1 (2 : Int)), 1, .ret, (tourref2_Inside.c1q (.inl ())), 0⟩], [], via (cutP (And.intro (And.intro trivial e2) (congrArg not e3)) [(0, 0)] (tourref2_Inside.c1p a0 a1 (2 : Int)) (((tourref2_Inside.c1_ok k a0 a1 k (2 : Int)).ap (e21.trans (congrArg some e23))).triple) (retP trivial (.one (.dp T4)) (true : Bool))) (by kernel_rfl)⟩)) (fun y24 e25 =>
    Owp.some (⟨[.res (.one (.dp T4)) y1, .dec false, .cut ⟨[], [(0, 0)], (tourref2_Inside.c1p a0 a1 (2 : Int)), 1, (.exit 0), (tourref2_Inside.c1q (.inr ())), 0⟩], [], via (cutP (And.intro (And.intro trivial e2) (congrArg not e3)) [(0, 0)] (tourref2_Inside.c1p a0 a1 (2 : Int)) (((tourref2_Inside.c1_ok k a0 a1 k (2 : Int)).ap (e21.trans (congrArg some e25))).triple) (retP trivial (.one (.dp T4)) (false : Bool))) (by kernel_rfl)⟩))) (fun e3 =>
   Owp.some (⟨[.res (.one (.dp T4)) y1, .dec true], [], via (retP (And.intro (And.intro trivial e2) (congrArg not e3)) (.one (.dp T4)) (false : Bool)) (by kernel_rfl)⟩))
theorem tourref2_Inside.ok (k : Nat) : FnOk PR 100 (tourref2_Inside.sp k) :=
  fn_ok (tourref2_Inside.cok k) hmix Try.func100 (code := tourref2_Inside.code) (by kernel_rfl) (by kernel_rfl) (by kernel_rfl) rfl rfl (by kernel_rfl) (by kernel_rfl) (by kernel_rfl) (fun x => Nat.le_of_ble_eq_true (by kernel_rfl)) fun x y hy => (tourref2_Inside.way k x.1 x.2.1).ap hy

/-! tourney/tourref2.Dot -/
noncomputable def tourref2_Dot.code : Code := Func.cd Try.f125
def tourref2_Dot (k : Nat) (a0 : V22) (a1 : V22) : Option (List Int) :=
  bnd (tourref2_Of k a0.1) fun y1 =>
  bnd (tourref2_Of k a1.1) fun y3 =>
  bnd (tourref2_Big_Mul k y1 y3) fun y5 =>
  bnd (tourref2_Of k a0.2.1) fun y7 =>
  bnd (tourref2_Of k a1.2.1) fun y9 =>
  bnd (tourref2_Big_Mul k y7 y9) fun y11 =>
  bnd (tourref2_Big_Add k y5 y11) fun y13 =>
  some y13
noncomputable def tourref2_Dot.sp (k : Nat) : Go.Sx.Spec := ⟨T52, (.one (.dp T134)), fun x => tourref2_Dot k x.1 x.2.1, false⟩
noncomputable def tourref2_Dot.cx (k : Nat) : Go.Sx.Ctx := ⟨tys, [(159, tourref2_Of.sp k), (177, tourref2_Big_Mul.sp k), (178, tourref2_Big_Add.sp k)], eqs, 20, 0, [], false⟩
theorem tourref2_Dot.cok (k : Nat) : CtxOk PR (tourref2_Dot.cx k) := ctx_ok tysOk eqsOk (FnsOk.cons (tourref2_Of.ok k) (FnsOk.cons (tourref2_Big_Mul.ok k) (FnsOk.cons (tourref2_Big_Add.ok k) FnsOk.nil))) HsOk.nil
theorem tourref2_Dot.way (k : Nat) (a0 : V22) (a1 : V22) : Owp (tourref2_Dot k a0 a1) fun y => ∃ answers cmds, exec PR (tourref2_Dot.cx k) tourref2_Dot.code 0 (entry T52 (a0, a1, ())).st answers (Ret (tourref2_Dot.cx k) Try.f125 cmds (.one (.dp T134)) y) := by
  unfold tourref2_Dot; exact
   Owp.bnd fun y1 e2 =>
   Owp.bnd fun y3 e4 =>
   Owp.bnd fun y5 e6 =>
   Owp.bnd fun y7 e8 =>
   Owp.bnd fun y9 e10 =>
   Owp.bnd fun y11 e12 =>
   Owp.bnd fun y13 e14 =>
   Owp.some (⟨[.res (.one (.dp T134)) y1, .res (.one (.dp T134)) y3, .res (.one (.dp T134)) y5, .res (.one (.dp T134)) y7, .res (.one (.dp T134)) y9, .res (.one (.dp T134)) y11, .res (.one (.dp T134)) y13], [], via (retP (And.intro (And.intro (And.intro (And.intro (And.intro (And.intro (And.intro trivial e2) e4) e6) e8) e10) e12) e14) (.one (.dp T134)) (y13 : (List Int))) (by kernel_rfl)⟩)
theorem tourref2_Dot.ok (k : Nat) : FnOk PR 125 (tourref2_Dot.sp k) :=
  fn_ok (tourref2_Dot.cok k) hmix Try.func125 (code := tourref2_Dot.code) (by kernel_rfl) (by kernel_rfl) (by kernel_rfl) rfl rfl (by kernel_rfl) (by kernel_rfl) (by kernel_rfl) (fun x => Nat.le_of_ble_eq_true (by kernel_rfl)) fun x y hy => (tourref2_Dot.way k x.1 x.2.1).ap hy

/-! slices.Clone[[]tourney/api.Contact,tourney/api.Contact] -/
noncomputable def slices_Clone.code : Code := Func.cd Try.f128
def slices_Clone (k : Nat) (a0 : (List V78)) : Option (List V78) :=
  req (room0 80 a0) <|
  some a0
noncomputable def slices_Clone.sp (k : Nat) : Go.Sx.Spec := ⟨(.pair (.slice T78) .unit), (.one (.ow T78 79)), fun x => slices_Clone k x.1, false⟩
noncomputable def slices_Clone.cx (k : Nat) : Go.Sx.Ctx := ⟨tys, [], eqs, 8, 0, [], false⟩
theorem slices_Clone.cok (k : Nat) : CtxOk PR (slices_Clone.cx k) := ctx_ok tysOk eqsOk FnsOk.nil HsOk.nil
theorem slices_Clone.way (k : Nat) (a0 : (List V78)) : Owp (slices_Clone k a0) fun y => ∃ answers cmds, exec PR (slices_Clone.cx k) slices_Clone.code 0 (entry (.pair (.slice T78) .unit) (a0, ())).st answers (Ret (slices_Clone.cx k) Try.f128 cmds (.one (.ow T78 79)) y) := by
  unfold slices_Clone; exact
   Owp.req fun h1 => match a0, h1 with
   | [], h1 => Owp.some (⟨[.fork [] [.dec true]], [.own 2 T78 79], via (show (True → (True ∧ (True ∧ some (Blk.row T78 ([] : (List V78)) 79) = some (Blk.row T78 ([] : (List V78)) 79)))) ∧ ((True ∧ room0 80 ([] : (List V78))) ∧ (True ∧ some (Blk.row T78 ([] : (List V78)) 79) = some (Blk.row T78 ([] : (List V78)) 79))) from ⟨fun _ => ⟨trivial, trivial, rfl⟩, ⟨trivial, h1⟩, trivial, rfl⟩) (by kernel_rfl)⟩)
   | a :: l, h1 => Owp.some (⟨[.dec false, .dec true], [.own 2 T78 79], via (show ((True ∧ false = false) ∧ room0 80 (a :: l)) ∧ (True ∧ some (Blk.row T78 (a :: l : (List V78)) 79) = some (Blk.row T78 (a :: l : (List V78)) 79)) from ⟨⟨⟨trivial, rfl⟩, h1⟩, trivial, rfl⟩) (by kernel_rfl)⟩)
theorem slices_Clone.ok (k : Nat) : FnOk PR 128 (slices_Clone.sp k) :=
  fn_ok (slices_Clone.cok k) hmix Try.func128 (code := slices_Clone.code) (by kernel_rfl) (by kernel_rfl) (by kernel_rfl) rfl rfl (by kernel_rfl) (by kernel_rfl) (by kernel_rfl) (fun x => Nat.le_of_ble_eq_true (by kernel_rfl)) fun x y hy => (slices_Clone.way k x.1).ap hy

/-! slices.Clone[[]tourney/api.Vec,tourney/api.Vec] -/
noncomputable def slices_Clone_129.code : Code := Func.cd Try.f129
def slices_Clone_129 (k : Nat) (a0 : (List V22)) : Option (List V22) :=
  req (room0 16 a0) <|
  some a0
noncomputable def slices_Clone_129.sp (k : Nat) : Go.Sx.Spec := ⟨(.pair T24 .unit), (.one (.ow T22 23)), fun x => slices_Clone_129 k x.1, false⟩
noncomputable def slices_Clone_129.cx (k : Nat) : Go.Sx.Ctx := ⟨tys, [], eqs, 8, 0, [], false⟩
theorem slices_Clone_129.cok (k : Nat) : CtxOk PR (slices_Clone_129.cx k) := ctx_ok tysOk eqsOk FnsOk.nil HsOk.nil
theorem slices_Clone_129.way (k : Nat) (a0 : (List V22)) : Owp (slices_Clone_129 k a0) fun y => ∃ answers cmds, exec PR (slices_Clone_129.cx k) slices_Clone_129.code 0 (entry (.pair T24 .unit) (a0, ())).st answers (Ret (slices_Clone_129.cx k) Try.f129 cmds (.one (.ow T22 23)) y) := by
  unfold slices_Clone_129; exact
   Owp.req fun h1 => match a0, h1 with
   | [], h1 => Owp.some (⟨[.fork [] [.dec true]], [.own 2 T22 23], via (show (True → (True ∧ (True ∧ some (Blk.row T22 ([] : (List V22)) 23) = some (Blk.row T22 ([] : (List V22)) 23)))) ∧ ((True ∧ room0 16 ([] : (List V22))) ∧ (True ∧ some (Blk.row T22 ([] : (List V22)) 23) = some (Blk.row T22 ([] : (List V22)) 23))) from ⟨fun _ => ⟨trivial, trivial, rfl⟩, ⟨trivial, h1⟩, trivial, rfl⟩) (by kernel_rfl)⟩)
   | a :: l, h1 => Owp.some (⟨[.dec false, .dec true], [.own 2 T22 23], via (show ((True ∧ false = false) ∧ room0 16 (a :: l)) ∧ (True ∧ some (Blk.row T22 (a :: l : (List V22)) 23) = some (Blk.row T22 (a :: l : (List V22)) 23)) from ⟨⟨⟨trivial, rfl⟩, h1⟩, trivial, rfl⟩) (by kernel_rfl)⟩)
theorem slices_Clone_129.ok (k : Nat) : FnOk PR 129 (slices_Clone_129.sp k) :=
  fn_ok (slices_Clone_129.cok k) hmix Try.func129 (code := slices_Clone_129.code) (by kernel_rfl) (by kernel_rfl) (by kernel_rfl) rfl rfl (by kernel_rfl) (by kernel_rfl) (by kernel_rfl) (fun x => Nat.le_of_ble_eq_true (by kernel_rfl)) fun x y hy => (slices_Clone_129.way k x.1).ap hy

/-! tourney/tourmake.Below -/
noncomputable def tourmake_Below.code : Code := Func.cd Try.f57
def tourmake_Below (k : Nat) (a0 : Int) (a1 : Int) : Option Int :=
  req (nz a1) <|
  bif' (ilt (irem a0 a1) 0)
  (some (iadd .i64 (irem a0 a1) a1))
  (some (irem a0 a1))
noncomputable def tourmake_Below.sp (k : Nat) : Go.Sx.Spec := ⟨T22, (.one (.dp T2)), fun x => tourmake_Below k x.1 x.2.1, false⟩
noncomputable def tourmake_Below.cx (k : Nat) : Go.Sx.Ctx := ⟨tys, [], eqs, 14, 0, [], false⟩
theorem tourmake_Below.cok (k : Nat) : CtxOk PR (tourmake_Below.cx k) := ctx_ok tysOk eqsOk FnsOk.nil HsOk.nil
theorem tourmake_Below.way (k : Nat) (a0 : Int) (a1 : Int) : Owp (tourmake_Below k a0 a1) fun y => ∃ answers cmds, exec PR (tourmake_Below.cx k) tourmake_Below.code 0 (entry T22 (a0, a1, ())).st answers (Ret (tourmake_Below.cx k) Try.f57 cmds (.one (.dp T2)) y) := by
  unfold tourmake_Below; exact
   Owp.req fun h1 =>
   Owp.bif (fun e2 =>
   Owp.some (⟨[.dec true], [], via (retP (And.intro (And.intro trivial h1) e2) (.one (.dp T2)) ((iadd .i64 (irem a0 a1) a1) : Int)) (by kernel_rfl)⟩)) (fun e2 =>
   Owp.some (⟨[.dec false], [], via (retP (And.intro (And.intro trivial h1) e2) (.one (.dp T2)) ((irem a0 a1) : Int)) (by kernel_rfl)⟩))
theorem tourmake_Below.ok (k : Nat) : FnOk PR 57 (tourmake_Below.sp k) :=
  fn_ok (tourmake_Below.cok k) hmix Try.func57 (code := tourmake_Below.code) (by kernel_rfl) (by kernel_rfl) (by kernel_rfl) rfl rfl (by kernel_rfl) (by kernel_rfl) (by kernel_rfl) (fun x => Nat.le_of_ble_eq_true (by kernel_rfl)) fun x y hy => (tourmake_Below.way k x.1 x.2.1).ap hy

/-! (*tourney/tourmake.Stream).Next -/
noncomputable def tourmake_Stream_Next.code : Code := Func.cd Try.f168
def tourmake_Stream_Next.c1 (k : Nat) (a0 : ((List Int) × Unit)) (a1 : Int) : Option (Bool) :=
  bif' (ieq (len a0.1) 0)
  (some true)
  (some (ilt a1 1))
def tourmake_Stream_Next (k : Nat) (a0 : ((List Int) × Unit)) (a1 : Int) : Option (((List Int) × Unit) × Int) :=
  bnd (tourmake_Stream_Next.c1 k a0 a1) fun o2 =>
  bif' o2
  (some (a0, 0))
  (req (inL 0 a0.1) <|
   req (cutOk a0.1 1 (List.length a0.1 : Int)) <|
   bnd (tourmake_Below k (el 0 a0.1 0) a1) fun y7 =>
   some (((cut a0.1 1 (List.length a0.1 : Int)), ()), y7))
noncomputable def tourmake_Stream_Next.sp (k : Nat) : Go.Sx.Spec := ⟨(.pair (.ref (.pair T49 .unit)) (.pair T2 .unit)), (.more (.dp (.pair T49 .unit)) (.one (.dp T2))), fun x => tourmake_Stream_Next k x.1 x.2.1, true⟩
noncomputable def tourmake_Stream_Next.cx (k : Nat) : Go.Sx.Ctx := ⟨tys, [(57, tourmake_Below.sp k)], eqs, 33, 1, [], false⟩
theorem tourmake_Stream_Next.cok (k : Nat) : CtxOk PR (tourmake_Stream_Next.cx k) := ctx_ok tysOk eqsOk (FnsOk.cons (tourmake_Below.ok k) FnsOk.nil) HsOk.nil
noncomputable def tourmake_Stream_Next.c1p (a0 : ((List Int) × Unit)) (a1 : Int) : SL := ⟨[(0, (.val .ptr ⟨0, 0, (0 : Int), 0, 0⟩)), (1, (.val T2 a1))], [(0, .cells (.pair T49 .unit) a0)]⟩
noncomputable def tourmake_Stream_Next.c1q (a0 : ((List Int) × Unit)) (a1 : Int) (o : Bool) : SL := (fun v => ⟨[(0, (.val .ptr ⟨0, 0, (0 : Int), 0, 0⟩)), (1, (.val T2 a1)), (15, (.val T4 v))], [(0, .cells (.pair T49 .unit) a0)]⟩) o
noncomputable def tourmake_Stream_Next.c1x (o : Bool) : Ex := (fun _ => .normal) o
noncomputable def tourmake_Stream_Next.c1n (o : Bool) : Nat := (fun _ => 1) o
theorem tourmake_Stream_Next.c1_ok (k : Nat) (a0 : ((List Int) × Unit)) (a1 : Int) : Owp (tourmake_Stream_Next.c1 k a0 a1) fun o => Triple PR (tourmake_Stream_Next.cx k) (sub tourmake_Stream_Next.code [1, 0, 0]) 1 (tourmake_Stream_Next.c1p a0 a1) (tourmake_Stream_Next.c1x o) (tourmake_Stream_Next.c1n o) (tourmake_Stream_Next.c1q a0 a1 o) := by
  unfold tourmake_Stream_Next.c1; exact
   Owp.bif (fun e1 =>
   Owp.some (triple_way (tourmake_Stream_Next.cok k) hmix [.dec true, .dec true, .dec true] [] [(0, 0)] (via (finP (And.intro (And.intro (And.intro trivial e1) e1) e1) .normal [(0, 0)] (tourmake_Stream_Next.c1q a0 a1 true)) (by kernel_rfl)))) (fun e1 =>
   Owp.some (triple_way (tourmake_Stream_Next.cok k) hmix [.dec false, .dec false, .dec false] [] [(0, 0)] (via (finP (And.intro (And.intro (And.intro trivial e1) e1) e1) .normal [(0, 0)] (tourmake_Stream_Next.c1q a0 a1 (ilt a1 (1 : Int)))) (by kernel_rfl))))
@[irreducible] noncomputable def tourmake_Stream_Next.P (k : Nat) (a0 : ((List Int) × Unit)) (a1 : Int) (y : (((List Int) × Unit) × Int)) (answers : List Ans) (cmds : List Cmd) : Prop := exec PR (tourmake_Stream_Next.cx k) tourmake_Stream_Next.code 1 (entryW (.pair T49 .unit) (.pair T2 .unit) (a0, (a1, ()))).st answers (RetW (tourmake_Stream_Next.cx k) Try.f168 cmds (.pair T49 .unit) (.one (.dp T2)) y)
theorem tourmake_Stream_Next.way (k : Nat) (a0 : ((List Int) × Unit)) (a1 : Int) : Owp (tourmake_Stream_Next k a0 a1) fun y => ∃ answers cmds, tourmake_Stream_Next.P k a0 a1 y answers cmds := by
  unfold tourmake_Stream_Next; exact
   Owp.bnd fun o2 e3 =>
   Owp.bif (fun e4 =>
   Owp.some (⟨[.cutR 1 ⟨[], [(0, 0)], (tourmake_Stream_Next.c1p a0 a1), 1, .normal, (tourmake_Stream_Next.c1q a0 a1 o2), 1⟩, .dec true], [], via (cutP trivial [(0, 0)] (tourmake_Stream_Next.c1p a0 a1) (((tourmake_Stream_Next.c1_ok k a0 a1).ap e3)) (retwP (And.intro trivial e4) (.pair T49 .unit) (a0 : ((List Int) × Unit)) (.one (.dp T2)) ((0 : Int) : Int))) (by kernel_rfl)⟩)) (fun e4 =>
   Owp.req fun h5 =>
    Owp.req fun h6 =>
    Owp.bnd fun y7 e8 =>
    Owp.some (⟨[.cutR 1 ⟨[], [(0, 0)], (tourmake_Stream_Next.c1p a0 a1), 1, .normal, (tourmake_Stream_Next.c1q a0 a1 o2), 1⟩, .dec false, .res (.one (.dp T2)) y7], [], via (cutP trivial [(0, 0)] (tourmake_Stream_Next.c1p a0 a1) (((tourmake_Stream_Next.c1_ok k a0 a1).ap e3)) (retwP (And.intro (And.intro (And.intro (And.intro trivial e4) h5) h6) e8) (.pair T49 .unit) (((cut a0.1 (1 : Int) (List.length a0.1 : Int)), ()) : ((List Int) × Unit)) (.one (.dp T2)) (y7 : Int))) (by kernel_rfl)⟩))
theorem tourmake_Stream_Next.ok (k : Nat) : FnOk PR 168 (tourmake_Stream_Next.sp k) :=
  fnW_ok (t := (.pair T49 .unit)) (ps := (.pair T2 .unit)) (t' := (.pair T49 .unit)) (rs := (.one (.dp T2))) (g := fun x => tourmake_Stream_Next k x.1 x.2.1) (tourmake_Stream_Next.cok k) hmix Try.func168 (code := tourmake_Stream_Next.code) (by kernel_rfl) (by kernel_rfl) (by kernel_rfl) (by kernel_rfl) (by kernel_rfl) (by kernel_rfl) (by kernel_rfl) (by kernel_rfl) (by kernel_rfl) (fun x => Nat.le_of_ble_eq_true (by kernel_rfl)) fun x y hy => match (tourmake_Stream_Next.way k x.1 x.2.1).ap hy with | ⟨ans, cmds, h⟩ => ⟨ans, cmds, via h (by kernel_rfl)⟩

/-! tourney/tourmake.poly -/
noncomputable def tourmake_poly.code : Code := Func.cd Try.f167
def tourmake_poly (k : Nat) (a0 : ((List Int) × Unit)) : Option (((List Int) × Unit) × (List V22)) :=
  bnd (tourmake_Stream_Next k a0 4) fun y1 =>
  bnd (tourmake_Stream_Next k y1.1 4) fun y3 =>
  bnd (tourmake_Stream_Next k y3.1 4) fun y5 =>
  bif' (ieq y5.2 0)
  (some (y5.1, [((ineg .i64 (imul .i64 (iadd .i64 1 y1.2) 65536)), (ineg .i64 (imul .i64 (iadd .i64 1 y3.2) 65536)), ()), ((imul .i64 (iadd .i64 1 y1.2) 65536), (ineg .i64 (imul .i64 (iadd .i64 1 y3.2) 65536)), ()), ((imul .i64 (iadd .i64 1 y1.2) 65536), (imul .i64 (iadd .i64 1 y3.2) 65536), ()), ((ineg .i64 (imul .i64 (iadd .i64 1 y1.2) 65536)), (imul .i64 (iadd .i64 1 y3.2) 65536), ())]))
  (bif' (ieq y5.2 1)
   (bnd (tourmake_Stream_Next k y5.1 (imul .i64 2 (imul .i64 (iadd .i64 1 y1.2) 65536))) fun y9 =>
    some (y9.1, [((ineg .i64 (imul .i64 (iadd .i64 1 y1.2) 65536)), (ineg .i64 (imul .i64 (iadd .i64 1 y3.2) 65536)), ()), ((imul .i64 (iadd .i64 1 y1.2) 65536), (ineg .i64 (imul .i64 (iadd .i64 1 y3.2) 65536)), ()), ((isub .i64 y9.2 (imul .i64 (iadd .i64 1 y1.2) 65536)), (imul .i64 (iadd .i64 1 y3.2) 65536), ())]))
   (bif' (ieq y5.2 2)
    (some (y5.1, [((ineg .i64 (imul .i64 (iadd .i64 1 y1.2) 65536)), (ineg .i64 (imul .i64 (iadd .i64 1 y3.2) 65536)), ()), ((isub .i64 (imul .i64 (iadd .i64 1 y1.2) 65536) (iquo .i64 (imin (imul .i64 (iadd .i64 1 y1.2) 65536) (imul .i64 (iadd .i64 1 y3.2) 65536)) 2)), (ineg .i64 (imul .i64 (iadd .i64 1 y3.2) 65536)), ()), ((imul .i64 (iadd .i64 1 y1.2) 65536), (isub .i64 (iquo .i64 (imin (imul .i64 (iadd .i64 1 y1.2) 65536) (imul .i64 (iadd .i64 1 y3.2) 65536)) 2) (imul .i64 (iadd .i64 1 y3.2) 65536)), ()), ((imul .i64 (iadd .i64 1 y1.2) 65536), (imul .i64 (iadd .i64 1 y3.2) 65536), ()), ((ineg .i64 (imul .i64 (iadd .i64 1 y1.2) 65536)), (imul .i64 (iadd .i64 1 y3.2) 65536), ())]))
    (some (y5.1, [((ineg .i64 (imul .i64 (iadd .i64 1 y1.2) 65536)), 0, ()), (0, (ineg .i64 (imul .i64 (iadd .i64 1 y3.2) 65536)), ()), ((imul .i64 (iadd .i64 1 y1.2) 65536), 0, ()), (0, (imul .i64 (iadd .i64 1 y3.2) 65536), ())]))))
noncomputable def tourmake_poly.sp (k : Nat) : Go.Sx.Spec := ⟨(.pair (.ref (.pair T49 .unit)) .unit), (.more (.dp (.pair T49 .unit)) (.one (.dp T24))), fun x => tourmake_poly k x.1, true⟩
noncomputable def tourmake_poly.cx (k : Nat) : Go.Sx.Ctx := ⟨tys, [(168, tourmake_Stream_Next.sp k)], eqs, 96, 1, [], false⟩
theorem tourmake_poly.cok (k : Nat) : CtxOk PR (tourmake_poly.cx k) := ctx_ok tysOk eqsOk (FnsOk.cons (tourmake_Stream_Next.ok k) FnsOk.nil) HsOk.nil
@[irreducible] noncomputable def tourmake_poly.P (k : Nat) (a0 : ((List Int) × Unit)) (y : (((List Int) × Unit) × (List V22))) (answers : List Ans) (cmds : List Cmd) : Prop := exec PR (tourmake_poly.cx k) tourmake_poly.code 1 (entryW (.pair T49 .unit) .unit (a0, ())).st answers (RetW (tourmake_poly.cx k) Try.f167 cmds (.pair T49 .unit) (.one (.dp T24)) y)
theorem tourmake_poly.way (k : Nat) (a0 : ((List Int) × Unit)) : Owp (tourmake_poly k a0) fun y => ∃ answers cmds, tourmake_poly.P k a0 y answers cmds := by
  unfold tourmake_poly; exact
   Owp.bnd fun y1 e2 =>
   Owp.bnd fun y3 e4 =>
   Owp.bnd fun y5 e6 =>
   Owp.bif (fun e7 =>
   Owp.some (⟨[.res (.more (.dp (.pair T49 .unit)) (.one (.dp T2))) y1, .res (.more (.dp (.pair T49 .unit)) (.one (.dp T2))) y3, .res (.more (.dp (.pair T49 .unit)) (.one (.dp T2))) y5, .dec true, .dec true], [.freeze 2], via (retwP (And.intro (And.intro (And.intro (And.intro trivial e2) e4) e6) e7) (.pair T49 .unit) (y5.1 : ((List Int) × Unit)) (.one (.dp T24)) ([((ineg .i64 (imul .i64 (iadd .i64 (1 : Int) y1.2) (65536 : Int))), (ineg .i64 (imul .i64 (iadd .i64 (1 : Int) y3.2) (65536 : Int))), ()), ((imul .i64 (iadd .i64 (1 : Int) y1.2) (65536 : Int)), (ineg .i64 (imul .i64 (iadd .i64 (1 : Int) y3.2) (65536 : Int))), ()), ((imul .i64 (iadd .i64 (1 : Int) y1.2) (65536 : Int)), (imul .i64 (iadd .i64 (1 : Int) y3.2) (65536 : Int)), ()), ((ineg .i64 (imul .i64 (iadd .i64 (1 : Int) y1.2) (65536 : Int))), (imul .i64 (iadd .i64 (1 : Int) y3.2) (65536 : Int)), ())] : (List V22))) (by kernel_rfl)⟩)) (fun e7 =>
   Owp.bif (fun e8 =>
    Owp.bnd fun y9 e10 =>
     Owp.some (⟨[.res (.more (.dp (.pair T49 .unit)) (.one (.dp T2))) y1, .res (.more (.dp (.pair T49 .unit)) (.one (.dp T2))) y3, .res (.more (.dp (.pair T49 .unit)) (.one (.dp T2))) y5, .dec false, .dec true, .res (.more (.dp (.pair T49 .unit)) (.one (.dp T2))) y9, .dec true], [.freeze 2], via (retwP (And.intro (And.intro (And.intro (And.intro (And.intro (And.intro trivial e2) e4) e6) e7) e8) e10) (.pair T49 .unit) (y9.1 : ((List Int) × Unit)) (.one (.dp T24)) ([((ineg .i64 (imul .i64 (iadd .i64 (1 : Int) y1.2) (65536 : Int))), (ineg .i64 (imul .i64 (iadd .i64 (1 : Int) y3.2) (65536 : Int))), ()), ((imul .i64 (iadd .i64 (1 : Int) y1.2) (65536 : Int)), (ineg .i64 (imul .i64 (iadd .i64 (1 : Int) y3.2) (65536 : Int))), ()), ((isub .i64 y9.2 (imul .i64 (iadd .i64 (1 : Int) y1.2) (65536 : Int))), (imul .i64 (iadd .i64 (1 : Int) y3.2) (65536 : Int)), ())] : (List V22))) (by kernel_rfl)⟩)) (fun e8 =>
    Owp.bif (fun e11 =>
     Owp.some (⟨[.res (.more (.dp (.pair T49 .unit)) (.one (.dp T2))) y1, .res (.more (.dp (.pair T49 .unit)) (.one (.dp T2))) y3, .res (.more (.dp (.pair T49 .unit)) (.one (.dp T2))) y5, .dec false, .dec false, .dec true, .dec true], [.freeze 2], via (retwP (And.intro (And.intro (And.intro (And.intro (And.intro (And.intro (And.intro trivial e2) e4) e6) e7) e8) e11) (by decide : nz (2 : Int))) (.pair T49 .unit) (y5.1 : ((List Int) × Unit)) (.one (.dp T24)) ([((ineg .i64 (imul .i64 (iadd .i64 (1 : Int) y1.2) (65536 : Int))), (ineg .i64 (imul .i64 (iadd .i64 (1 : Int) y3.2) (65536 : Int))), ()), ((isub .i64 (imul .i64 (iadd .i64 (1 : Int) y1.2) (65536 : Int)) (iquo .i64 (imin (imul .i64 (iadd .i64 (1 : Int) y1.2) (65536 : Int)) (imul .i64 (iadd .i64 (1 : Int) y3.2) (65536 : Int))) (2 : Int))), (ineg .i64 (imul .i64 (iadd .i64 (1 : Int) y3.2) (65536 : Int))), ()), ((imul .i64 (iadd .i64 (1 : Int) y1.2) (65536 : Int)), (isub .i64 (iquo .i64 (imin (imul .i64 (iadd .i64 (1 : Int) y1.2) (65536 : Int)) (imul .i64 (iadd .i64 (1 : Int) y3.2) (65536 : Int))) (2 : Int)) (imul .i64 (iadd .i64 (1 : Int) y3.2) (65536 : Int))), ()), ((imul .i64 (iadd .i64 (1 : Int) y1.2) (65536 : Int)), (imul .i64 (iadd .i64 (1 : Int) y3.2) (65536 : Int)), ()), ((ineg .i64 (imul .i64 (iadd .i64 (1 : Int) y1.2) (65536 : Int))), (imul .i64 (iadd .i64 (1 : Int) y3.2) (65536 : Int)), ())] : (List V22))) (by kernel_rfl)⟩)) (fun e11 =>
     Owp.some (⟨[.res (.more (.dp (.pair T49 .unit)) (.one (.dp T2))) y1, .res (.more (.dp (.pair T49 .unit)) (.one (.dp T2))) y3, .res (.more (.dp (.pair T49 .unit)) (.one (.dp T2))) y5, .dec false, .dec false, .dec false, .dec true], [.freeze 2], via (retwP (And.intro (And.intro (And.intro (And.intro (And.intro (And.intro trivial e2) e4) e6) e7) e8) e11) (.pair T49 .unit) (y5.1 : ((List Int) × Unit)) (.one (.dp T24)) ([((ineg .i64 (imul .i64 (iadd .i64 (1 : Int) y1.2) (65536 : Int))), (0 : Int), ()), ((0 : Int), (ineg .i64 (imul .i64 (iadd .i64 (1 : Int) y3.2) (65536 : Int))), ()), ((imul .i64 (iadd .i64 (1 : Int) y1.2) (65536 : Int)), (0 : Int), ()), ((0 : Int), (imul .i64 (iadd .i64 (1 : Int) y3.2) (65536 : Int)), ())] : (List V22))) (by kernel_rfl)⟩))))
theorem tourmake_poly.ok (k : Nat) : FnOk PR 167 (tourmake_poly.sp k) :=
  fnW_ok (t := (.pair T49 .unit)) (ps := .unit) (t' := (.pair T49 .unit)) (rs := (.one (.dp T24))) (g := fun x => tourmake_poly k x.1) (tourmake_poly.cok k) hmix Try.func167 (code := tourmake_poly.code) (by kernel_rfl) (by kernel_rfl) (by kernel_rfl) (by kernel_rfl) (by kernel_rfl) (by kernel_rfl) (by kernel_rfl) (by kernel_rfl) (by kernel_rfl) (fun x => Nat.le_of_ble_eq_true (by kernel_rfl)) fun x y hy => match (tourmake_poly.way k x.1).ap hy with | ⟨ans, cmds, h⟩ => ⟨ans, cmds, via h (by kernel_rfl)⟩

end Go.Proofs.T1
