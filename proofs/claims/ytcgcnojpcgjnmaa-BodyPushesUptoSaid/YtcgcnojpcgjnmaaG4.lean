import Derived.Test.YtcgcnojpcgjnmaaG0
import Derived.Test.YtcgcnojpcgjnmaaG1
import Derived.Test.YtcgcnojpcgjnmaaG2
import Derived.Test.YtcgcnojpcgjnmaaG3
namespace Go.Proofs.T1
open Go Go.Sx Go.Proofs
set_option maxRecDepth 100000
set_option linter.unusedVariables false
/-! tourney/body.fat -/
noncomputable def body_fat.code : Code := Func.cd Try.f173
def body_fat.c3 (k : Nat) (a0 : (List V22)) (v1 : Int) (v6 : Int) : Option (Bool) :=
  bif' (ine v6 v1)
  (req (nz (len a0)) <|
   bif' (ine v6 (irem (iadd .i64 v1 1) (len a0)))
   (bnd (body_size k ((isub .i64 (el Z22 a0 (irem (iadd .i64 v1 1) (len a0))).1 (el Z22 a0 v1).1), (isub .i64 (el Z22 a0 (irem (iadd .i64 v1 1) (len a0))).2.1 (el Z22 a0 v1).2.1), ())) fun y12 =>
    bnd (body_size k ((isub .i64 (el Z22 a0 v6).1 (el Z22 a0 v1).1), (isub .i64 (el Z22 a0 v6).2.1 (el Z22 a0 v1).2.1), ())) fun y14 =>
    some (ilt (isub .i64 (imul .i64 (isub .i64 (el Z22 a0 (irem (iadd .i64 v1 1) (len a0))).1 (el Z22 a0 v1).1) (isub .i64 (el Z22 a0 v6).2.1 (el Z22 a0 v1).2.1)) (imul .i64 (isub .i64 (el Z22 a0 (irem (iadd .i64 v1 1) (len a0))).2.1 (el Z22 a0 v1).2.1) (isub .i64 (el Z22 a0 v6).1 (el Z22 a0 v1).1))) (imul .i64 8 (iadd .i64 y12 y14))))
   (some false))
  (some false)
def body_fat.c2 (k : Nat) (a0 : (List V22)) (v1 : Int) : Nat → Int → Option (Unit ⊕ Unit)
  | 0, _ => none
  | n + 1, v6 =>
   bif' (ilt v6 (len a0))
   (req (inL v6 a0) <|
    bnd (body_fat.c3 k a0 v1 v6) fun o16 =>
    bif' o16
    (some (.inl ()))
    (body_fat.c2 k a0 v1 n (iadd .i64 v6 1)))
   (some (.inr ()))
def body_fat.c1 (k : Nat) (a0 : (List V22)) : Nat → Int → Option (Unit ⊕ Unit)
  | 0, _ => none
  | n + 1, v1 =>
   bif' (ilt v1 (len a0))
   (req (inL v1 a0) <|
    req (nz (len a0)) <|
    req (inL (irem (iadd .i64 v1 1) (len a0)) a0) <|
    bnd (body_fat.c2 k a0 v1 k 0) fun o19 =>
    two o19 (fun y21 =>
    some (.inl ())) (fun y23 =>
    body_fat.c1 k a0 n (iadd .i64 v1 1)))
   (some (.inr ()))
def body_fat (k : Nat) (a0 : (List V22)) : Option Bool :=
  bnd (body_fat.c1 k a0 k 0) fun o25 =>
  two o25 (fun y27 =>
  some false) (fun y29 =>
  some true)
noncomputable def body_fat.sp (k : Nat) : Go.Sx.Spec := ⟨(.pair T24 .unit), (.one (.dp T4)), fun x => body_fat k x.1, false⟩
noncomputable def body_fat.cx (k : Nat) : Go.Sx.Ctx := ⟨tys, [(200, body_size.sp k)], eqs, 88, false⟩
theorem body_fat.cok (k : Nat) : CtxOk PR (body_fat.cx k) := ctx_ok tysOk eqsOk (FnsOk.cons (body_size.ok k) FnsOk.nil)
noncomputable def body_fat.c3p (a0 : (List V22)) (v1 : Int) (v6 : Int) : SL := ⟨[(0, (.val T24 a0)), (3, (.val T2 v1)), (4, (.val .ptr ⟨0, 0, (0 : Int), 0, 0⟩)), (6, (.val .ptr ⟨1, 0, (0 : Int), 0, 0⟩)), (7, (.val T2 v6)), (9, (.val .ptr ⟨2, 0, (0 : Int), 0, 0⟩)), (10, (.val T24 a0)), (11, (.val T2 (len a0))), (12, (.val T2 v1)), (36, (.val T24 a0)), (37, (.val T2 (len a0))), (38, (.val T2 v6))], [(0, .cells T22 (el Z22 a0 v1)), (1, .cells T22 ((isub .i64 (el Z22 a0 (irem (iadd .i64 v1 (1 : Int)) (len a0))).1 (el Z22 a0 v1).1), (isub .i64 (el Z22 a0 (irem (iadd .i64 v1 (1 : Int)) (len a0))).2.1 (el Z22 a0 v1).2.1), ())), (2, .cells T22 ((isub .i64 (el Z22 a0 v6).1 (el Z22 a0 v1).1), (isub .i64 (el Z22 a0 v6).2.1 (el Z22 a0 v1).2.1), ()))]⟩
noncomputable def body_fat.c3q (a0 : (List V22)) (v1 : Int) (v6 : Int) (o : Bool) : SL := (fun v => ⟨[(0, (.val T24 a0)), (3, (.val T2 v1)), (4, (.val .ptr ⟨0, 0, (0 : Int), 0, 0⟩)), (6, (.val .ptr ⟨1, 0, (0 : Int), 0, 0⟩)), (10, (.val T24 a0)), (11, (.val T2 (len a0))), (12, (.val T2 v1)), (36, (.val T24 a0)), (37, (.val T2 (len a0))), (38, (.val T2 v6)), (85, (.val T4 v))], [(0, .cells T22 (el Z22 a0 v1)), (1, .cells T22 ((isub .i64 (el Z22 a0 (irem (iadd .i64 v1 (1 : Int)) (len a0))).1 (el Z22 a0 v1).1), (isub .i64 (el Z22 a0 (irem (iadd .i64 v1 (1 : Int)) (len a0))).2.1 (el Z22 a0 v1).2.1), ()))]⟩) o
noncomputable def body_fat.c3x (o : Bool) : Ex := (fun _ => .normal) o
noncomputable def body_fat.c3n (o : Bool) : Nat := (fun _ => 2) o
theorem body_fat.c3_ok (k : Nat) (a0 : (List V22)) (v1 : Int) (v6 : Int) : Owp (body_fat.c3 k a0 v1 v6) fun o => Triple PR (body_fat.cx k) (sub body_fat.code [1, 0, 1, 0, 0, 1, 1, 0, 0, 1, 1, 1, 1, 0, 0, 1, 1, 0, 0, 1, 1, 0]) 3 (body_fat.c3p a0 v1 v6) (body_fat.c3x o) (body_fat.c3n o) (body_fat.c3q a0 v1 v6 o) := by
  unfold body_fat.c3; exact
   Owp.bif (fun e9 =>
   Owp.req fun h10 =>
    Owp.bif (fun e11 =>
    Owp.bnd fun y12 e13 =>
     Owp.bnd fun y14 e15 =>
     Owp.some (triple_way (body_fat.cok k) hmix [.dec true, .dec true, .dec true, .dec true, .dec true, .dec true, .dec true, .dec true, .dec true, .dec true, .dec true, .dec true, .dec true, .dec true, .dec true, .dec true, .dec true, .dec true, .dec true, .dec true, .dec true, .res (.one (.dp T2)) y12, .dec true, .dec true, .res (.one (.dp T2)) y14, .dec true, .dec true, .dec true, .dec true] [] [(0, 0), (1, 1)] (via (finP (And.intro (And.intro (And.intro (And.intro (And.intro (And.intro (And.intro (And.intro (And.intro (And.intro (And.intro (And.intro (And.intro (And.intro (And.intro (And.intro (And.intro (And.intro (And.intro (And.intro (And.intro (And.intro (And.intro (And.intro (And.intro (And.intro (And.intro trivial e9) e9) e9) e9) e9) (And.intro e9 h10)) e9) e9) e11) e11) e11) e11) e11) e11) e11) e11) e11) e11) e11) e11) (And.intro e11 e13)) e11) (And.intro e11 e15)) e11) e11) e11) e11) .normal [(0, 0), (1, 1)] (body_fat.c3q a0 v1 v6 (ilt (isub .i64 (imul .i64 (isub .i64 (el Z22 a0 (irem (iadd .i64 v1 (1 : Int)) (len a0))).1 (el Z22 a0 v1).1) (isub .i64 (el Z22 a0 v6).2.1 (el Z22 a0 v1).2.1)) (imul .i64 (isub .i64 (el Z22 a0 (irem (iadd .i64 v1 (1 : Int)) (len a0))).2.1 (el Z22 a0 v1).2.1) (isub .i64 (el Z22 a0 v6).1 (el Z22 a0 v1).1))) (imul .i64 (8 : Int) (iadd .i64 y12 y14))))) (by kernel_rfl)))) (fun e11 =>
    Owp.some (triple_way (body_fat.cok k) hmix [.dec true, .dec true, .dec true, .dec true, .dec true, .dec true, .dec true, .dec true, .dec false, .dec false, .dec false, .dec false, .dec false, .dec false, .dec false, .dec false, .dec false, .dec false, .dec false, .dec false, .dec false, .dec true, .dec false, .dec false, .dec true, .dec false, .dec false, .dec false, .dec false] [] [(0, 0), (1, 1)] (via (finP (And.intro (And.intro (And.intro (And.intro (And.intro (And.intro (And.intro (And.intro (And.intro (And.intro (And.intro (And.intro (And.intro (And.intro (And.intro (And.intro (And.intro (And.intro (And.intro (And.intro (And.intro (And.intro (And.intro (And.intro (And.intro (And.intro (And.intro trivial e9) e9) e9) e9) e9) (And.intro e9 h10)) e9) e9) e11) e11) e11) e11) e11) e11) e11) e11) e11) e11) e11) e11) e11) e11) e11) e11) e11) e11) e11) .normal [(0, 0), (1, 1)] (body_fat.c3q a0 v1 v6 false)) (by kernel_rfl))))) (fun e9 =>
   Owp.some (triple_way (body_fat.cok k) hmix [.dec false, .dec false, .dec false, .dec false, .dec false, .dec false, .dec false, .dec false, .dec false, .dec false, .dec false, .dec false, .dec false, .dec false, .dec false, .dec false, .dec false, .dec false, .dec false, .dec false, .dec false, .dec true, .dec false, .dec false, .dec true, .dec false, .dec false, .dec false, .dec false] [] [(0, 0), (1, 1)] (via (finP (And.intro (And.intro (And.intro (And.intro (And.intro (And.intro (And.intro (And.intro (And.intro (And.intro (And.intro (And.intro (And.intro (And.intro (And.intro (And.intro (And.intro (And.intro (And.intro (And.intro (And.intro (And.intro (And.intro (And.intro (And.intro (And.intro (And.intro trivial e9) e9) e9) e9) e9) e9) e9) e9) ff) ff) ff) ff) ff) ff) ff) ff) ff) ff) ff) ff) ff) ff) ff) ff) ff) ff) ff) .normal [(0, 0), (1, 1)] (body_fat.c3q a0 v1 v6 false)) (by kernel_rfl))))
noncomputable def body_fat.c2p (a0 : (List V22)) (v1 : Int) (v6 : Int) : SL := ⟨[(0, (.val T24 a0)), (3, (.val T2 v1)), (4, (.val .ptr ⟨0, 0, (0 : Int), 0, 0⟩)), (6, (.val .ptr ⟨1, 0, (0 : Int), 0, 0⟩)), (10, (.val T24 a0)), (11, (.val T2 (len a0))), (12, (.val T2 v1)), (36, (.val T24 a0)), (37, (.val T2 (len a0))), (38, (.val T2 v6))], [(0, .cells T22 (el Z22 a0 v1)), (1, .cells T22 ((isub .i64 (el Z22 a0 (irem (iadd .i64 v1 (1 : Int)) (len a0))).1 (el Z22 a0 v1).1), (isub .i64 (el Z22 a0 (irem (iadd .i64 v1 (1 : Int)) (len a0))).2.1 (el Z22 a0 v1).2.1), ()))]⟩
noncomputable def body_fat.c2q (a0 : (List V22)) (v1 : Int) (o : Unit ⊕ Unit) : SL := (fun o => two o (fun v => ⟨[(2, (.val T4 false))], []⟩) (fun v => ⟨[(0, (.val T24 a0)), (10, (.val T24 a0)), (11, (.val T2 (len a0))), (12, (.val T2 v1))], []⟩)) o
noncomputable def body_fat.c2x (o : Unit ⊕ Unit) : Ex := (fun o => two o (fun _ => .ret) (fun _ => (.exit 2))) o
noncomputable def body_fat.c2n (o : Unit ⊕ Unit) : Nat := (fun o => two o (fun _ => 0) (fun _ => 0)) o
theorem body_fat.c2_ok (k : Nat) (a0 : (List V22)) (v1 : Int) : ∀ (n : Nat) (v6 : Int), Owp (body_fat.c2 k a0 v1 n v6) fun o => LTriple PR (body_fat.cx k) (sub body_fat.code [1, 0, 1, 0, 0, 1, 1, 0, 0, 1, 1, 1, 1, 0, 0]) 2 (body_fat.c2p a0 v1 v6) (body_fat.c2x o) (body_fat.c2n o) (body_fat.c2q a0 v1 o)
  | 0, _ => fun _ h => nomatch h
  | n + 1, v6 => Owp.of (body_fat.c2.eq_2 ..) (
   Owp.bif (fun e7 =>
   Owp.req fun h8 =>
    Owp.bnd fun o16 e17 =>
    Owp.bif (fun e18 =>
    Owp.some (loop_exit (body_fat.cok k) hmix [.dec true, .cutR 10 ⟨[], [(0, 0), (1, 1), (2, 20)], (body_fat.c3p a0 v1 v6), 3, .normal, (body_fat.c3q a0 v1 v6 o16), 2⟩, .dec true] [] [] exne_ret (via (cutP (And.intro (And.intro trivial e7) h8) [(0, 0), (1, 1), (2, 20)] (body_fat.c3p a0 v1 v6) (((body_fat.c3_ok k a0 v1 v6).ap e17)) (finP (And.intro trivial e18) .ret [] (body_fat.c2q a0 v1 (.inl ())))) (by kernel_rfl)))) (fun e18 =>
    fun y hy => loop_back (body_fat.cok k) hmix 2 (body_fat.c2p a0 v1 (iadd .i64 v6 (1 : Int))) [.dec true, .cutR 10 ⟨[], [(0, 0), (1, 1), (2, 20)], (body_fat.c3p a0 v1 v6), 3, .normal, (body_fat.c3q a0 v1 v6 o16), 2⟩, .dec false] [] [(0, 0), (1, 1)] (via (cutP (And.intro (And.intro trivial e7) h8) [(0, 0), (1, 1), (2, 20)] (body_fat.c3p a0 v1 v6) (((body_fat.c3_ok k a0 v1 v6).ap e17)) (finP (And.intro trivial e18) .normal [(0, 0), (1, 1)] (body_fat.c2p a0 v1 (iadd .i64 v6 (1 : Int))))) (by kernel_rfl)) ((body_fat.c2_ok k a0 v1 n (iadd .i64 v6 (1 : Int))).ap hy))) (fun e7 =>
   Owp.some (loop_exit (body_fat.cok k) hmix [.dec false] [] [] (exne 2) (via (finP (And.intro trivial e7) (.exit 2) [] (body_fat.c2q a0 v1 (.inr ()))) (by kernel_rfl)))))
noncomputable def body_fat.c1p (a0 : (List V22)) (v1 : Int) : SL := ⟨[(0, (.val T24 a0)), (10, (.val T24 a0)), (11, (.val T2 (len a0))), (12, (.val T2 v1))], []⟩
noncomputable def body_fat.c1q (o : Unit ⊕ Unit) : SL := (fun o => two o (fun v => ⟨[(2, (.val T4 false))], []⟩) (fun v => ⟨[], []⟩)) o
noncomputable def body_fat.c1x (o : Unit ⊕ Unit) : Ex := (fun o => two o (fun _ => .ret) (fun _ => (.exit 0))) o
noncomputable def body_fat.c1n (o : Unit ⊕ Unit) : Nat := (fun o => two o (fun _ => 0) (fun _ => 0)) o
theorem body_fat.c1_ok (k : Nat) (a0 : (List V22)) : ∀ (n : Nat) (v1 : Int), Owp (body_fat.c1 k a0 n v1) fun o => LTriple PR (body_fat.cx k) (sub body_fat.code [1, 0, 1, 0, 0]) 0 (body_fat.c1p a0 v1) (body_fat.c1x o) (body_fat.c1n o) (body_fat.c1q o)
  | 0, _ => fun _ h => nomatch h
  | n + 1, v1 => Owp.of (body_fat.c1.eq_2 ..) (
   Owp.bif (fun e2 =>
   Owp.req fun h3 =>
    Owp.req fun h4 =>
    Owp.req fun h5 =>
    Owp.bnd fun o19 e20 =>
    Owp.two (fun y21 e22 =>
    Owp.some (loop_exit (body_fat.cok k) hmix [.dec true, .cut ⟨[], [(0, 4), (1, 28)], (body_fat.c2p a0 v1 (0 : Int)), 2, .ret, (body_fat.c2q a0 v1 (.inl ())), 0⟩] [] [] exne_ret (via (cutP (And.intro (And.intro (And.intro (And.intro trivial e2) h3) h4) h5) [(0, 4), (1, 28)] (body_fat.c2p a0 v1 (0 : Int)) (((body_fat.c2_ok k a0 v1 k (0 : Int)).ap (e20.trans (congrArg some e22))).triple) (finP trivial .ret [] (body_fat.c1q (.inl ())))) (by kernel_rfl)))) (fun y23 e24 =>
    fun y hy => loop_back (body_fat.cok k) hmix 0 (body_fat.c1p a0 (iadd .i64 v1 (1 : Int))) [.dec true, .cut ⟨[], [(0, 4), (1, 28)], (body_fat.c2p a0 v1 (0 : Int)), 2, (.exit 2), (body_fat.c2q a0 v1 (.inr ())), 0⟩] [] [] (via (cutP (And.intro (And.intro (And.intro (And.intro trivial e2) h3) h4) h5) [(0, 4), (1, 28)] (body_fat.c2p a0 v1 (0 : Int)) (((body_fat.c2_ok k a0 v1 k (0 : Int)).ap (e20.trans (congrArg some e24))).triple) (finP trivial .normal [] (body_fat.c1p a0 (iadd .i64 v1 (1 : Int))))) (by kernel_rfl)) ((body_fat.c1_ok k a0 n (iadd .i64 v1 (1 : Int))).ap hy))) (fun e2 =>
   Owp.some (loop_exit (body_fat.cok k) hmix [.dec false] [] [] (exne 0) (via (finP (And.intro trivial e2) (.exit 0) [] (body_fat.c1q (.inr ()))) (by kernel_rfl)))))
theorem body_fat.way (k : Nat) (a0 : (List V22)) : Owp (body_fat k a0) fun y => ∃ answers cmds, exec PR (body_fat.cx k) body_fat.code 0 (entry (.pair T24 .unit) (a0, ())).st answers (Ret (body_fat.cx k) Try.f173 cmds (.one (.dp T4)) y) := by
  unfold body_fat; exact
   Owp.bnd fun o25 e26 =>
   Owp.two (fun y27 e28 =>
   Owp.some (⟨[.cut ⟨[], [], (body_fat.c1p a0 (0 : Int)), 0, .ret, (body_fat.c1q (.inl ())), 0⟩], [], via (cutP trivial [] (body_fat.c1p a0 (0 : Int)) (((body_fat.c1_ok k a0 k (0 : Int)).ap (e26.trans (congrArg some e28))).triple) (retP trivial (.one (.dp T4)) (false : Bool))) (by kernel_rfl)⟩)) (fun y29 e30 =>
   Owp.some (⟨[.cut ⟨[], [], (body_fat.c1p a0 (0 : Int)), 0, (.exit 0), (body_fat.c1q (.inr ())), 0⟩], [], via (cutP trivial [] (body_fat.c1p a0 (0 : Int)) (((body_fat.c1_ok k a0 k (0 : Int)).ap (e26.trans (congrArg some e30))).triple) (retP trivial (.one (.dp T4)) (true : Bool))) (by kernel_rfl)⟩))
theorem body_fat.ok (k : Nat) : FnOk PR 173 (body_fat.sp k) :=
  fn_ok (body_fat.cok k) hmix Try.func173 (code := body_fat.code) (by kernel_rfl) (by kernel_rfl) (by kernel_rfl) rfl (by kernel_rfl) (by kernel_rfl) (by kernel_rfl) (fun x => Nat.le_of_ble_eq_true (by kernel_rfl)) fun x y hy => (body_fat.way k x.1).ap hy

/-! tourney/body.shape -/
noncomputable def body_shape.code : Code := Func.cd Try.f112
def body_shape.c1 (k : Nat) (a0 : (List V22)) : Option (Bool) :=
  bnd (body_fat k a0) fun y7 =>
  bif' y7
  (bnd (poly_Has k a0 (0, 0, ())) fun y10 =>
   some (!y10))
  (some true)
def body_shape (k : Nat) (a0 : (List V22)) : Option Int :=
  bnd (poly_Check k a0) fun y1 =>
  bif' (ine y1 0)
  (some y1)
  (bnd (slices_ContainsFunc k a0 (fun x : (V22 × Unit) => body_shape_1 k (x.1))) fun y4 =>
   bif' y4
   (some 1)
   (bnd (body_shape.c1 k a0) fun o12 =>
    bif' o12
    (some 3)
    (some 0)))
noncomputable def body_shape.sp (k : Nat) : Go.Sx.Spec := ⟨(.pair T24 .unit), (.one (.dp T2)), fun x => body_shape k x.1, false⟩
noncomputable def body_shape.cx (k : Nat) : Go.Sx.Ctx := ⟨tys, [(39, poly_Check.sp k), (108, slices_ContainsFunc.sp k), (172, body_shape_1.sp k), (173, body_fat.sp k), (174, poly_Has.sp k)], eqs, 20, false⟩
theorem body_shape.cok (k : Nat) : CtxOk PR (body_shape.cx k) := ctx_ok tysOk eqsOk (FnsOk.cons (poly_Check.ok k) (FnsOk.cons (slices_ContainsFunc.ok k) (FnsOk.cons (body_shape_1.ok k) (FnsOk.cons (body_fat.ok k) (FnsOk.cons (poly_Has.ok k) FnsOk.nil)))))
noncomputable def body_shape.c1p (a0 : (List V22)) : SL := ⟨[(0, (.val T24 a0))], []⟩
noncomputable def body_shape.c1q (o : Bool) : SL := (fun v => ⟨[(19, (.val T4 v))], []⟩) o
noncomputable def body_shape.c1x (o : Bool) : Ex := (fun _ => .normal) o
noncomputable def body_shape.c1n (o : Bool) : Nat := (fun _ => 0) o
theorem body_shape.c1_ok (k : Nat) (a0 : (List V22)) : Owp (body_shape.c1 k a0) fun o => Triple PR (body_shape.cx k) (sub body_shape.code [1, 1, 1, 0, 0]) 0 (body_shape.c1p a0) (body_shape.c1x o) (body_shape.c1n o) (body_shape.c1q o) := by
  unfold body_shape.c1; exact
   Owp.bnd fun y7 e8 =>
   Owp.bif (fun e9 =>
   Owp.bnd fun y10 e11 =>
    Owp.some (triple_way (body_shape.cok k) hmix [.res (.one (.dp T4)) y7, .dec false, .dec false, .dec false, .res (.one (.dp T4)) y10, .dec false, .dec false] [] [] (via (finP (And.intro (And.intro (And.intro (And.intro (And.intro (And.intro trivial e8) (congrArg not e9)) (congrArg not e9)) (And.intro (congrArg not e9) e11)) (congrArg not e9)) (congrArg not e9)) .normal [] (body_shape.c1q (!y10))) (by kernel_rfl)))) (fun e9 =>
   Owp.some (triple_way (body_shape.cok k) hmix [.res (.one (.dp T4)) y7, .dec true, .dec true, .dec true, .dec true, .dec true, .dec true] [] [] (via (finP (And.intro (And.intro (And.intro (And.intro (And.intro (And.intro trivial e8) (congrArg not e9)) (congrArg not e9)) (congrArg not e9)) (congrArg not e9)) (congrArg not e9)) .normal [] (body_shape.c1q true)) (by kernel_rfl))))
theorem body_shape.way (k : Nat) (a0 : (List V22)) : Owp (body_shape k a0) fun y => ∃ answers cmds, exec PR (body_shape.cx k) body_shape.code 0 (entry (.pair T24 .unit) (a0, ())).st answers (Ret (body_shape.cx k) Try.f112 cmds (.one (.dp T2)) y) := by
  unfold body_shape; exact
   Owp.bnd fun y1 e2 =>
   Owp.bif (fun e3 =>
   Owp.some (⟨[.res (.one (.dp T2)) y1, .dec true], [], via (retP (And.intro (And.intro trivial e2) e3) (.one (.dp T2)) (y1 : Int)) (by kernel_rfl)⟩)) (fun e3 =>
   Owp.bnd fun y4 e5 =>
    Owp.bif (fun e6 =>
    Owp.some (⟨[.res (.one (.dp T2)) y1, .dec false, .res (.one (.dp T4)) y4, .dec true], [], via (retP (And.intro (And.intro (And.intro (And.intro trivial e2) e3) e5) e6) (.one (.dp T2)) ((1 : Int) : Int)) (by kernel_rfl)⟩)) (fun e6 =>
    Owp.bnd fun o12 e13 =>
     Owp.bif (fun e14 =>
     Owp.some (⟨[.res (.one (.dp T2)) y1, .dec false, .res (.one (.dp T4)) y4, .dec false, .cutR 6 ⟨[], [], (body_shape.c1p a0), 0, .normal, (body_shape.c1q o12), 0⟩, .dec true], [], via (cutP (And.intro (And.intro (And.intro (And.intro trivial e2) e3) e5) e6) [] (body_shape.c1p a0) (((body_shape.c1_ok k a0).ap e13)) (retP (And.intro trivial e14) (.one (.dp T2)) ((3 : Int) : Int))) (by kernel_rfl)⟩)) (fun e14 =>
     Owp.some (⟨[.res (.one (.dp T2)) y1, .dec false, .res (.one (.dp T4)) y4, .dec false, .cutR 6 ⟨[], [], (body_shape.c1p a0), 0, .normal, (body_shape.c1q o12), 0⟩, .dec false], [], via (cutP (And.intro (And.intro (And.intro (And.intro trivial e2) e3) e5) e6) [] (body_shape.c1p a0) (((body_shape.c1_ok k a0).ap e13)) (retP (And.intro trivial e14) (.one (.dp T2)) ((0 : Int) : Int))) (by kernel_rfl)⟩))))
theorem body_shape.ok (k : Nat) : FnOk PR 112 (body_shape.sp k) :=
  fn_ok (body_shape.cok k) hmix Try.func112 (code := body_shape.code) (by kernel_rfl) (by kernel_rfl) (by kernel_rfl) rfl (by kernel_rfl) (by kernel_rfl) (by kernel_rfl) (fun x => Nat.le_of_ble_eq_true (by kernel_rfl)) fun x y hy => (body_shape.way k x.1).ap hy

/-! tourney/body.Check$1 -/
noncomputable def body_Check_1.code : Code := Func.cd Try.f113
def body_Check_1 (k : Nat) (a0 : Int) (a1 : Int) (a2 : Int) : Option Bool :=
  bif' (ige a0 a1)
  (some (ile a0 a2))
  (some false)
noncomputable def body_Check_1.sp (k : Nat) : Go.Sx.Spec := ⟨(.pair T2 T22), (.one (.dp T4)), fun x => body_Check_1 k x.1 x.2.1 x.2.2.1, false⟩
noncomputable def body_Check_1.cx (k : Nat) : Go.Sx.Ctx := ⟨tys, [], eqs, 15, false⟩
theorem body_Check_1.cok (k : Nat) : CtxOk PR (body_Check_1.cx k) := ctx_ok tysOk eqsOk FnsOk.nil
theorem body_Check_1.way (k : Nat) (a0 : Int) (a1 : Int) (a2 : Int) : Owp (body_Check_1 k a0 a1 a2) fun y => ∃ answers cmds, exec PR (body_Check_1.cx k) body_Check_1.code 0 (entry (.pair T2 T22) (a0, a1, a2, ())).st answers (Ret (body_Check_1.cx k) Try.f113 cmds (.one (.dp T4)) y) := by
  unfold body_Check_1; exact
   Owp.bif (fun e1 =>
   Owp.some (⟨[.dec true, .dec true, .dec true, .dec true], [], via (retP (And.intro (And.intro (And.intro (And.intro trivial e1) e1) e1) e1) (.one (.dp T4)) ((ile a0 a2) : Bool)) (by kernel_rfl)⟩)) (fun e1 =>
   Owp.some (⟨[.dec false, .dec false, .dec false, .dec false], [], via (retP (And.intro (And.intro (And.intro (And.intro trivial e1) e1) e1) e1) (.one (.dp T4)) (false : Bool)) (by kernel_rfl)⟩))
theorem body_Check_1.ok (k : Nat) : FnOk PR 113 (body_Check_1.sp k) :=
  fn_ok (body_Check_1.cok k) hmix Try.func113 (code := body_Check_1.code) (by kernel_rfl) (by kernel_rfl) (by kernel_rfl) rfl (by kernel_rfl) (by kernel_rfl) (by kernel_rfl) (fun x => Nat.le_of_ble_eq_true (by kernel_rfl)) fun x y hy => (body_Check_1.way k x.1 x.2.1 x.2.2.1).ap hy

/-! tourney/body.Check -/
noncomputable def body_Check.code : Code := Func.cd Try.f41
def body_Check.c1 (k : Nat) (a0 : V25) : Option (Bool) :=
  bnd (body_within k a0.1 58982400) fun y4 =>
  bif' y4
  (bnd (body_within k a0.2.1 268435456) fun y7 =>
   bif' y7
   (bnd (body_Check_1 k a0.2.2.2.1 (-16777216) 16777216) fun y10 =>
    bif' y10
    (bnd (body_Check_1 k a0.2.2.1 0 65535) fun y13 =>
     some (!y13))
    (some true))
   (some true))
  (some true)
def body_Check.c2 (k : Nat) (a0 : V25) : Option (Bool) :=
  bnd (body_Check_1 k a0.2.2.2.2.1 0 1099511627776) fun y18 =>
  bif' y18
  (bnd (body_Check_1 k a0.2.2.2.2.2.1 0 1099511627776) fun y21 =>
   bif' y21
   (bnd (body_Check_1 k a0.2.2.2.2.2.2.1 0 65536) fun y24 =>
    bif' y24
    (bnd (body_Check_1 k a0.2.2.2.2.2.2.2.1 0 65536) fun y27 =>
     bif' y27
     (bnd (body_Check_1 k a0.2.2.2.2.2.2.2.2.2.2.1 0 1000) fun y30 =>
      some (!y30))
     (some true))
    (some true))
   (some true))
  (some true)
def body_Check.c3 (k : Nat) (a0 : V25) : Option (Bool) :=
  bif' (Ty.eqb T22 a0.2.1 ((0 : Int), (0 : Int), ()))
  (some (ieq a0.2.2.2.1 0))
  (some false)
def body_Check.c4 (k : Nat) (a0 : V25) (o36 : Bool) : Option (Bool) :=
  bif' (Ty.eqb T4 (ieq a0.2.2.2.2.1 (0 : Int)) (ieq a0.2.2.2.2.2.1 (0 : Int)))
  (bif' (ieq a0.2.2.2.2.1 0)
   (bif' o36
    (bif' a0.2.2.2.2.2.2.2.2.2.1
     (some true)
     (bif' (ine a0.2.2.2.2.2.2.2.2.2.2.1 0)
      (some true)
      (some false)))
    (some true))
   (bif' a0.2.2.2.2.2.2.2.2.2.1
    (some (!o36))
    (some false)))
  (some true)
def body_Check (k : Nat) (a0 : V25) : Option Int :=
  bnd (body_shape k a0.2.2.2.2.2.2.2.2.1) fun y1 =>
  bif' (ine y1 0)
  (some y1)
  (bnd (body_Check.c1 k a0) fun o15 =>
   bif' o15
   (some 1)
   (bnd (body_Check.c2 k a0) fun o32 =>
    bif' o32
    (some 1)
    (bnd (body_Check.c3 k a0) fun o36 =>
     bnd (body_Check.c4 k a0 o36) fun o44 =>
     bif' o44
     (some 3)
     (some 0))))
noncomputable def body_Check.sp (k : Nat) : Go.Sx.Spec := ⟨(.pair T25 .unit), (.one (.dp T2)), fun x => body_Check k x.1, false⟩
noncomputable def body_Check.cx (k : Nat) : Go.Sx.Ctx := ⟨tys, [(112, body_shape.sp k), (114, body_within.sp k), (113, body_Check_1.sp k)], eqs, 111, false⟩
theorem body_Check.cok (k : Nat) : CtxOk PR (body_Check.cx k) := ctx_ok tysOk eqsOk (FnsOk.cons (body_shape.ok k) (FnsOk.cons (body_within.ok k) (FnsOk.cons (body_Check_1.ok k) FnsOk.nil)))
noncomputable def body_Check.c1p (a0 : V25) : SL := ⟨[(1, (.val .ptr ⟨0, 0, (0 : Int), 0, 0⟩)), (4, (.val .clo (113, [])))], [(0, .cells T25 a0)]⟩
noncomputable def body_Check.c1q (a0 : V25) (o : Bool) : SL := (fun v => ⟨[(1, (.val .ptr ⟨0, 0, (0 : Int), 0, 0⟩)), (4, (.val .clo (113, []))), (35, (.val T4 v))], [(0, .cells T25 a0)]⟩) o
noncomputable def body_Check.c1x (o : Bool) : Ex := (fun _ => .normal) o
noncomputable def body_Check.c1n (o : Bool) : Nat := (fun _ => 1) o
theorem body_Check.c1_ok (k : Nat) (a0 : V25) : Owp (body_Check.c1 k a0) fun o => Triple PR (body_Check.cx k) (sub body_Check.code [1, 1, 1, 0, 0]) 1 (body_Check.c1p a0) (body_Check.c1x o) (body_Check.c1n o) (body_Check.c1q a0 o) := by
  unfold body_Check.c1; exact
   Owp.bnd fun y4 e5 =>
   Owp.bif (fun e6 =>
   Owp.bnd fun y7 e8 =>
    Owp.bif (fun e9 =>
    Owp.bnd fun y10 e11 =>
     Owp.bif (fun e12 =>
     Owp.bnd fun y13 e14 =>
      Owp.some (triple_way (body_Check.cok k) hmix [.res (.one (.dp T4)) y4, .dec false, .dec false, .dec false, .res (.one (.dp T4)) y7, .dec false, .dec false, .dec false, .dec false, .dec false, .dec false, .res (.one (.dp T4)) y10, .dec false, .dec false, .dec false, .dec false, .dec false, .dec false, .res (.one (.dp T4)) y13, .dec false, .dec false] [] [(0, 0)] (via (finP (And.intro (And.intro (And.intro (And.intro (And.intro (And.intro (And.intro (And.intro (And.intro (And.intro (And.intro (And.intro (And.intro (And.intro (And.intro (And.intro (And.intro (And.intro trivial e5) (congrArg not e6)) (congrArg not e6)) (And.intro (congrArg not e6) e8)) (congrArg not e6)) (congrArg not e6)) (congrArg not e9)) (congrArg not e9)) (congrArg not e9)) (And.intro (congrArg not e9) e11)) (congrArg not e9)) (congrArg not e9)) (congrArg not e12)) (congrArg not e12)) (congrArg not e12)) (And.intro (congrArg not e12) e14)) (congrArg not e12)) (congrArg not e12)) .normal [(0, 0)] (body_Check.c1q a0 (!y13))) (by kernel_rfl)))) (fun e12 =>
     Owp.some (triple_way (body_Check.cok k) hmix [.res (.one (.dp T4)) y4, .dec false, .dec false, .dec false, .res (.one (.dp T4)) y7, .dec false, .dec false, .dec false, .dec false, .dec false, .dec false, .res (.one (.dp T4)) y10, .dec false, .dec false, .dec true, .dec true, .dec true, .dec true, .dec true, .dec true, .dec true] [] [(0, 0)] (via (finP (And.intro (And.intro (And.intro (And.intro (And.intro (And.intro (And.intro (And.intro (And.intro (And.intro (And.intro (And.intro (And.intro (And.intro (And.intro (And.intro (And.intro (And.intro trivial e5) (congrArg not e6)) (congrArg not e6)) (And.intro (congrArg not e6) e8)) (congrArg not e6)) (congrArg not e6)) (congrArg not e9)) (congrArg not e9)) (congrArg not e9)) (And.intro (congrArg not e9) e11)) (congrArg not e9)) (congrArg not e9)) (congrArg not e12)) (congrArg not e12)) (congrArg not e12)) (congrArg not e12)) (congrArg not e12)) (congrArg not e12)) .normal [(0, 0)] (body_Check.c1q a0 true)) (by kernel_rfl))))) (fun e9 =>
    Owp.some (triple_way (body_Check.cok k) hmix [.res (.one (.dp T4)) y4, .dec false, .dec false, .dec false, .res (.one (.dp T4)) y7, .dec false, .dec false, .dec true, .dec true, .dec true, .dec true, .dec true, .dec true, .dec true, .dec true, .dec true, .dec true, .dec true, .dec true, .dec true, .dec true] [] [(0, 0)] (via (finP (And.intro (And.intro (And.intro (And.intro (And.intro (And.intro (And.intro (And.intro (And.intro (And.intro (And.intro (And.intro (And.intro (And.intro (And.intro (And.intro (And.intro (And.intro trivial e5) (congrArg not e6)) (congrArg not e6)) (And.intro (congrArg not e6) e8)) (congrArg not e6)) (congrArg not e6)) (congrArg not e9)) (congrArg not e9)) (congrArg not e9)) (congrArg not e9)) (congrArg not e9)) (congrArg not e9)) tt) tt) tt) tt) tt) tt) .normal [(0, 0)] (body_Check.c1q a0 true)) (by kernel_rfl))))) (fun e6 =>
   Owp.some (triple_way (body_Check.cok k) hmix [.res (.one (.dp T4)) y4, .dec true, .dec true, .dec true, .dec true, .dec true, .dec true, .dec true, .dec true, .dec true, .dec true, .dec true, .dec true, .dec true, .dec true, .dec true, .dec true, .dec true, .dec true, .dec true, .dec true] [] [(0, 0)] (via (finP (And.intro (And.intro (And.intro (And.intro (And.intro (And.intro (And.intro (And.intro (And.intro (And.intro (And.intro (And.intro (And.intro (And.intro (And.intro (And.intro (And.intro (And.intro trivial e5) (congrArg not e6)) (congrArg not e6)) (congrArg not e6)) (congrArg not e6)) (congrArg not e6)) tt) tt) tt) tt) tt) tt) tt) tt) tt) tt) tt) tt) .normal [(0, 0)] (body_Check.c1q a0 true)) (by kernel_rfl))))
noncomputable def body_Check.c2p (a0 : V25) : SL := ⟨[(1, (.val .ptr ⟨0, 0, (0 : Int), 0, 0⟩)), (4, (.val .clo (113, [])))], [(0, .cells T25 a0)]⟩
noncomputable def body_Check.c2q (a0 : V25) (o : Bool) : SL := (fun v => ⟨[(1, (.val .ptr ⟨0, 0, (0 : Int), 0, 0⟩)), (68, (.val T4 v))], [(0, .cells T25 a0)]⟩) o
noncomputable def body_Check.c2x (o : Bool) : Ex := (fun _ => .normal) o
noncomputable def body_Check.c2n (o : Bool) : Nat := (fun _ => 1) o
theorem body_Check.c2_ok (k : Nat) (a0 : V25) : Owp (body_Check.c2 k a0) fun o => Triple PR (body_Check.cx k) (sub body_Check.code [1, 1, 1, 1, 0, 0]) 1 (body_Check.c2p a0) (body_Check.c2x o) (body_Check.c2n o) (body_Check.c2q a0 o) := by
  unfold body_Check.c2; exact
   Owp.bnd fun y18 e19 =>
   Owp.bif (fun e20 =>
   Owp.bnd fun y21 e22 =>
    Owp.bif (fun e23 =>
    Owp.bnd fun y24 e25 =>
     Owp.bif (fun e26 =>
     Owp.bnd fun y27 e28 =>
      Owp.bif (fun e29 =>
      Owp.bnd fun y30 e31 =>
       Owp.some (triple_way (body_Check.cok k) hmix [.res (.one (.dp T4)) y18, .dec false, .dec false, .dec false, .dec false, .res (.one (.dp T4)) y21, .dec false, .dec false, .dec false, .dec false, .dec false, .dec false, .res (.one (.dp T4)) y24, .dec false, .dec false, .dec false, .dec false, .dec false, .dec false, .res (.one (.dp T4)) y27, .dec false, .dec false, .dec false, .dec false, .dec false, .dec false, .res (.one (.dp T4)) y30, .dec false, .dec false] [] [(0, 0)] (via (finP (And.intro (And.intro (And.intro (And.intro (And.intro (And.intro (And.intro (And.intro (And.intro (And.intro (And.intro (And.intro (And.intro (And.intro (And.intro (And.intro (And.intro (And.intro (And.intro (And.intro (And.intro (And.intro (And.intro (And.intro (And.intro trivial e19) (congrArg not e20)) (congrArg not e20)) (congrArg not e20)) (And.intro (congrArg not e20) e22)) (congrArg not e20)) (congrArg not e20)) (congrArg not e23)) (congrArg not e23)) (congrArg not e23)) (And.intro (congrArg not e23) e25)) (congrArg not e23)) (congrArg not e23)) (congrArg not e26)) (congrArg not e26)) (congrArg not e26)) (And.intro (congrArg not e26) e28)) (congrArg not e26)) (congrArg not e26)) (congrArg not e29)) (congrArg not e29)) (congrArg not e29)) (And.intro (congrArg not e29) e31)) (congrArg not e29)) (congrArg not e29)) .normal [(0, 0)] (body_Check.c2q a0 (!y30))) (by kernel_rfl)))) (fun e29 =>
      Owp.some (triple_way (body_Check.cok k) hmix [.res (.one (.dp T4)) y18, .dec false, .dec false, .dec false, .dec false, .res (.one (.dp T4)) y21, .dec false, .dec false, .dec false, .dec false, .dec false, .dec false, .res (.one (.dp T4)) y24, .dec false, .dec false, .dec false, .dec false, .dec false, .dec false, .res (.one (.dp T4)) y27, .dec false, .dec false, .dec true, .dec true, .dec true, .dec true, .dec true, .dec true, .dec true] [] [(0, 0)] (via (finP (And.intro (And.intro (And.intro (And.intro (And.intro (And.intro (And.intro (And.intro (And.intro (And.intro (And.intro (And.intro (And.intro (And.intro (And.intro (And.intro (And.intro (And.intro (And.intro (And.intro (And.intro (And.intro (And.intro (And.intro (And.intro trivial e19) (congrArg not e20)) (congrArg not e20)) (congrArg not e20)) (And.intro (congrArg not e20) e22)) (congrArg not e20)) (congrArg not e20)) (congrArg not e23)) (congrArg not e23)) (congrArg not e23)) (And.intro (congrArg not e23) e25)) (congrArg not e23)) (congrArg not e23)) (congrArg not e26)) (congrArg not e26)) (congrArg not e26)) (And.intro (congrArg not e26) e28)) (congrArg not e26)) (congrArg not e26)) (congrArg not e29)) (congrArg not e29)) (congrArg not e29)) (congrArg not e29)) (congrArg not e29)) (congrArg not e29)) .normal [(0, 0)] (body_Check.c2q a0 true)) (by kernel_rfl))))) (fun e26 =>
     Owp.some (triple_way (body_Check.cok k) hmix [.res (.one (.dp T4)) y18, .dec false, .dec false, .dec false, .dec false, .res (.one (.dp T4)) y21, .dec false, .dec false, .dec false, .dec false, .dec false, .dec false, .res (.one (.dp T4)) y24, .dec false, .dec false, .dec true, .dec true, .dec true, .dec true, .dec true, .dec true, .dec true, .dec true, .dec true, .dec true, .dec true, .dec true, .dec true, .dec true] [] [(0, 0)] (via (finP (And.intro (And.intro (And.intro (And.intro (And.intro (And.intro (And.intro (And.intro (And.intro (And.intro (And.intro (And.intro (And.intro (And.intro (And.intro (And.intro (And.intro (And.intro (And.intro (And.intro (And.intro (And.intro (And.intro (And.intro (And.intro trivial e19) (congrArg not e20)) (congrArg not e20)) (congrArg not e20)) (And.intro (congrArg not e20) e22)) (congrArg not e20)) (congrArg not e20)) (congrArg not e23)) (congrArg not e23)) (congrArg not e23)) (And.intro (congrArg not e23) e25)) (congrArg not e23)) (congrArg not e23)) (congrArg not e26)) (congrArg not e26)) (congrArg not e26)) (congrArg not e26)) (congrArg not e26)) (congrArg not e26)) tt) tt) tt) tt) tt) tt) .normal [(0, 0)] (body_Check.c2q a0 true)) (by kernel_rfl))))) (fun e23 =>
    Owp.some (triple_way (body_Check.cok k) hmix [.res (.one (.dp T4)) y18, .dec false, .dec false, .dec false, .dec false, .res (.one (.dp T4)) y21, .dec false, .dec false, .dec true, .dec true, .dec true, .dec true, .dec true, .dec true, .dec true, .dec true, .dec true, .dec true, .dec true, .dec true, .dec true, .dec true, .dec true, .dec true, .dec true, .dec true, .dec true, .dec true, .dec true] [] [(0, 0)] (via (finP (And.intro (And.intro (And.intro (And.intro (And.intro (And.intro (And.intro (And.intro (And.intro (And.intro (And.intro (And.intro (And.intro (And.intro (And.intro (And.intro (And.intro (And.intro (And.intro (And.intro (And.intro (And.intro (And.intro (And.intro (And.intro trivial e19) (congrArg not e20)) (congrArg not e20)) (congrArg not e20)) (And.intro (congrArg not e20) e22)) (congrArg not e20)) (congrArg not e20)) (congrArg not e23)) (congrArg not e23)) (congrArg not e23)) (congrArg not e23)) (congrArg not e23)) (congrArg not e23)) tt) tt) tt) tt) tt) tt) tt) tt) tt) tt) tt) tt) .normal [(0, 0)] (body_Check.c2q a0 true)) (by kernel_rfl))))) (fun e20 =>
   Owp.some (triple_way (body_Check.cok k) hmix [.res (.one (.dp T4)) y18, .dec true, .dec true, .dec true, .dec true, .dec true, .dec true, .dec true, .dec true, .dec true, .dec true, .dec true, .dec true, .dec true, .dec true, .dec true, .dec true, .dec true, .dec true, .dec true, .dec true, .dec true, .dec true, .dec true, .dec true, .dec true, .dec true, .dec true, .dec true] [] [(0, 0)] (via (finP (And.intro (And.intro (And.intro (And.intro (And.intro (And.intro (And.intro (And.intro (And.intro (And.intro (And.intro (And.intro (And.intro (And.intro (And.intro (And.intro (And.intro (And.intro (And.intro (And.intro (And.intro (And.intro (And.intro (And.intro (And.intro trivial e19) (congrArg not e20)) (congrArg not e20)) (congrArg not e20)) (congrArg not e20)) (congrArg not e20)) (congrArg not e20)) tt) tt) tt) tt) tt) tt) tt) tt) tt) tt) tt) tt) tt) tt) tt) tt) tt) tt) .normal [(0, 0)] (body_Check.c2q a0 true)) (by kernel_rfl))))
noncomputable def body_Check.c3p (a0 : V25) : SL := ⟨[(1, (.val .ptr ⟨0, 0, (0 : Int), 0, 0⟩))], [(0, .cells T25 a0)]⟩
noncomputable def body_Check.c3q (a0 : V25) (o : Bool) : SL := (fun v => ⟨[(1, (.val .ptr ⟨0, 0, (0 : Int), 0, 0⟩)), (5, (.val T4 v))], [(0, .cells T25 a0)]⟩) o
noncomputable def body_Check.c3x (o : Bool) : Ex := (fun _ => .normal) o
noncomputable def body_Check.c3n (o : Bool) : Nat := (fun _ => 1) o
theorem body_Check.c3_ok (k : Nat) (a0 : V25) : Owp (body_Check.c3 k a0) fun o => Triple PR (body_Check.cx k) (sub body_Check.code [1, 1, 1, 1, 1, 0]) 1 (body_Check.c3p a0) (body_Check.c3x o) (body_Check.c3n o) (body_Check.c3q a0 o) := by
  unfold body_Check.c3; exact
   Owp.bif (fun e35 =>
   Owp.some (triple_way (body_Check.cok k) hmix [.dec true, .dec true, .dec true, .dec true] [] [(0, 0)] (via (finP (And.intro (And.intro (And.intro (And.intro trivial e35) e35) e35) e35) .normal [(0, 0)] (body_Check.c3q a0 (ieq a0.2.2.2.1 (0 : Int)))) (by kernel_rfl)))) (fun e35 =>
   Owp.some (triple_way (body_Check.cok k) hmix [.dec false, .dec false, .dec false, .dec false] [] [(0, 0)] (via (finP (And.intro (And.intro (And.intro (And.intro trivial e35) e35) e35) e35) .normal [(0, 0)] (body_Check.c3q a0 false)) (by kernel_rfl))))
noncomputable def body_Check.c4p (a0 : V25) (o36 : Bool) : SL := ⟨[(1, (.val .ptr ⟨0, 0, (0 : Int), 0, 0⟩)), (5, (.val T4 o36))], [(0, .cells T25 a0)]⟩
noncomputable def body_Check.c4q (o : Bool) : SL := (fun v => ⟨[(110, (.val T4 v))], []⟩) o
noncomputable def body_Check.c4x (o : Bool) : Ex := (fun _ => .normal) o
noncomputable def body_Check.c4n (o : Bool) : Nat := (fun _ => 0) o
theorem body_Check.c4_ok (k : Nat) (a0 : V25) (o36 : Bool) : Owp (body_Check.c4 k a0 o36) fun o => Triple PR (body_Check.cx k) (sub body_Check.code [1, 1, 1, 1, 1, 1, 0, 0]) 1 (body_Check.c4p a0 o36) (body_Check.c4x o) (body_Check.c4n o) (body_Check.c4q o) := by
  unfold body_Check.c4; exact
   Owp.bif (fun e38 =>
   Owp.bif (fun e39 =>
    Owp.bif (fun e40 =>
     Owp.bif (fun e41 =>
      Owp.some (triple_way (body_Check.cok k) hmix [.dec false, .dec false, .dec false, .dec false, .dec true, .dec true, .dec true, .dec false, .dec false, .dec true, .dec false, .dec true, .dec true, .dec true, .dec true, .dec true, .dec true, .dec false, .dec true, .dec false, .dec true, .dec true, .dec true, .dec true, .dec true, .dec true, .dec true, .dec true] [] [] (via (finP (And.intro (And.intro (And.intro (And.intro (And.intro (And.intro (And.intro (And.intro (And.intro (And.intro (And.intro (And.intro (And.intro (And.intro (And.intro (And.intro (And.intro (And.intro (And.intro (And.intro (And.intro (And.intro trivial (congrArg not e38)) (congrArg not e38)) (congrArg not e38)) (congrArg not e38)) e39) e39) e39) (congrArg not e40)) (congrArg not e40)) (And.intro e39 (congrArg not e40))) e39) e41) e41) e41) (And.intro e39 e41)) (And.intro (congrArg not e38) e39)) (congrArg not e38)) tt) tt) tt) tt) tt) .normal [] (body_Check.c4q true)) (by kernel_rfl)))) (fun e41 =>
      Owp.bif (fun e42 =>
       Owp.some (triple_way (body_Check.cok k) hmix [.dec false, .dec false, .dec false, .dec false, .dec true, .dec true, .dec true, .dec false, .dec false, .dec true, .dec false, .dec true, .dec false, .dec false, .dec false, .dec true, .dec false, .dec false, .dec true, .dec false, .dec true, .dec true, .dec true, .dec true, .dec true, .dec true, .dec true, .dec true] [] [] (via (finP (And.intro (And.intro (And.intro (And.intro (And.intro (And.intro (And.intro (And.intro (And.intro (And.intro (And.intro (And.intro (And.intro (And.intro (And.intro (And.intro (And.intro (And.intro (And.intro (And.intro (And.intro (And.intro trivial (congrArg not e38)) (congrArg not e38)) (congrArg not e38)) (congrArg not e38)) e39) e39) e39) (congrArg not e40)) (congrArg not e40)) (And.intro e39 (congrArg not e40))) e39) e41) e41) e41) (And.intro e39 e41)) (And.intro (congrArg not e38) e39)) (congrArg not e38)) e42) e42) e42) e42) e42) .normal [] (body_Check.c4q true)) (by kernel_rfl)))) (fun e42 =>
       Owp.some (triple_way (body_Check.cok k) hmix [.dec false, .dec false, .dec false, .dec false, .dec true, .dec true, .dec true, .dec false, .dec false, .dec true, .dec false, .dec true, .dec false, .dec false, .dec false, .dec true, .dec false, .dec false, .dec true, .dec false, .dec false, .dec false, .dec false, .dec false, .dec false, .dec false, .dec false, .dec false] [] [] (via (finP (And.intro (And.intro (And.intro (And.intro (And.intro (And.intro (And.intro (And.intro (And.intro (And.intro (And.intro (And.intro (And.intro (And.intro (And.intro (And.intro (And.intro (And.intro (And.intro (And.intro (And.intro (And.intro (And.intro (And.intro trivial (congrArg not e38)) (congrArg not e38)) (congrArg not e38)) (congrArg not e38)) e39) e39) e39) (congrArg not e40)) (congrArg not e40)) (And.intro e39 (congrArg not e40))) e39) e41) e41) e41) (And.intro e39 e41)) (And.intro (congrArg not e38) e39)) (congrArg not e38)) e42) e42) e42) e41) e41) (And.intro e42 e41)) e42) .normal [] (body_Check.c4q false)) (by kernel_rfl)))))) (fun e40 =>
     Owp.some (triple_way (body_Check.cok k) hmix [.dec false, .dec false, .dec false, .dec false, .dec true, .dec true, .dec true, .dec true, .dec true, .dec true, .dec true, .dec true, .dec true, .dec true, .dec true, .dec true, .dec true, .dec false, .dec true, .dec false, .dec true, .dec true, .dec true, .dec true, .dec true, .dec true, .dec true, .dec true] [] [] (via (finP (And.intro (And.intro (And.intro (And.intro (And.intro (And.intro (And.intro (And.intro (And.intro (And.intro (And.intro (And.intro (And.intro (And.intro (And.intro (And.intro (And.intro (And.intro (And.intro (And.intro (And.intro (And.intro trivial (congrArg not e38)) (congrArg not e38)) (congrArg not e38)) (congrArg not e38)) e39) e39) e39) (congrArg not e40)) (congrArg not e40)) (And.intro e39 (congrArg not e40))) e39) tt) tt) tt) (And.intro e39 tt)) (And.intro (congrArg not e38) e39)) (congrArg not e38)) tt) tt) tt) tt) tt) .normal [] (body_Check.c4q true)) (by kernel_rfl))))) (fun e39 =>
    Owp.bif (fun e43 =>
     Owp.some (triple_way (body_Check.cok k) hmix [.dec false, .dec false, .dec false, .dec false, .dec false, .dec false, .dec false, .dec true, .dec true, .dec false, .dec true, .dec false, .dec true, .dec true, .dec true, .dec false, .dec true, .dec false, .dec false, .dec false, .dec false, .dec false, .dec false, .dec true, .dec true, .dec false, .dec true, .dec false] [] [] (via (finP (And.intro (And.intro (And.intro (And.intro (And.intro (And.intro (And.intro (And.intro (And.intro (And.intro (And.intro (And.intro (And.intro (And.intro (And.intro (And.intro (And.intro (And.intro (And.intro trivial (congrArg not e38)) (congrArg not e38)) (congrArg not e38)) (congrArg not e38)) e39) e39) e39) e39) e39) e39) (And.intro (congrArg not e38) e39)) (congrArg not e38)) ff) ff) ff) e43) e43) (And.intro ff e43)) ff) .normal [] (body_Check.c4q (!o36))) (by kernel_rfl)))) (fun e43 =>
     Owp.some (triple_way (body_Check.cok k) hmix [.dec false, .dec false, .dec false, .dec false, .dec false, .dec false, .dec false, .dec true, .dec true, .dec false, .dec true, .dec false, .dec true, .dec true, .dec true, .dec false, .dec true, .dec false, .dec false, .dec false, .dec false, .dec false, .dec false, .dec false, .dec false, .dec false, .dec false, .dec false] [] [] (via (finP (And.intro (And.intro (And.intro (And.intro (And.intro (And.intro (And.intro (And.intro (And.intro (And.intro (And.intro (And.intro (And.intro (And.intro (And.intro (And.intro (And.intro (And.intro (And.intro trivial (congrArg not e38)) (congrArg not e38)) (congrArg not e38)) (congrArg not e38)) e39) e39) e39) e39) e39) e39) (And.intro (congrArg not e38) e39)) (congrArg not e38)) ff) ff) ff) e43) e43) (And.intro ff e43)) ff) .normal [] (body_Check.c4q false)) (by kernel_rfl)))))) (fun e38 =>
   Owp.some (triple_way (body_Check.cok k) hmix [.dec true, .dec true, .dec true, .dec true, .dec true, .dec true, .dec true, .dec true, .dec true, .dec true, .dec true, .dec true, .dec true, .dec true, .dec true, .dec true, .dec true, .dec true, .dec true, .dec true, .dec true, .dec true, .dec true, .dec true, .dec true, .dec true, .dec true, .dec true] [] [] (via (finP (And.intro (And.intro (And.intro (And.intro (And.intro (And.intro (And.intro (And.intro (And.intro (And.intro (And.intro trivial (congrArg not e38)) (congrArg not e38)) (congrArg not e38)) (congrArg not e38)) (congrArg not e38)) (congrArg not e38)) tt) tt) tt) tt) tt) .normal [] (body_Check.c4q true)) (by kernel_rfl))))
theorem body_Check.way (k : Nat) (a0 : V25) : Owp (body_Check k a0) fun y => ∃ answers cmds, exec PR (body_Check.cx k) body_Check.code 0 (entry (.pair T25 .unit) (a0, ())).st answers (Ret (body_Check.cx k) Try.f41 cmds (.one (.dp T2)) y) := by
  unfold body_Check; exact
   Owp.bnd fun y1 e2 =>
   Owp.bif (fun e3 =>
   Owp.some (⟨[.res (.one (.dp T2)) y1, .dec true], [], via (retP (And.intro (And.intro trivial e2) e3) (.one (.dp T2)) (y1 : Int)) (by kernel_rfl)⟩)) (fun e3 =>
   Owp.bnd fun o15 e16 =>
    Owp.bif (fun e17 =>
    Owp.some (⟨[.res (.one (.dp T2)) y1, .dec false, .cutR 5 ⟨[], [(0, 0)], (body_Check.c1p a0), 1, .normal, (body_Check.c1q a0 o15), 1⟩, .dec true], [], via (cutP (And.intro (And.intro trivial e2) e3) [(0, 0)] (body_Check.c1p a0) (((body_Check.c1_ok k a0).ap e16)) (retP (And.intro trivial e17) (.one (.dp T2)) ((1 : Int) : Int))) (by kernel_rfl)⟩)) (fun e17 =>
    Owp.bnd fun o32 e33 =>
     Owp.bif (fun e34 =>
     Owp.some (⟨[.res (.one (.dp T2)) y1, .dec false, .cutR 5 ⟨[], [(0, 0)], (body_Check.c1p a0), 1, .normal, (body_Check.c1q a0 o15), 1⟩, .dec false, .cutR 7 ⟨[], [(0, 0)], (body_Check.c2p a0), 1, .normal, (body_Check.c2q a0 o32), 1⟩, .dec true], [], via (cutP (And.intro (And.intro trivial e2) e3) [(0, 0)] (body_Check.c1p a0) (((body_Check.c1_ok k a0).ap e16)) (cutP (And.intro trivial e17) [(0, 0)] (body_Check.c2p a0) (((body_Check.c2_ok k a0).ap e33)) (retP (And.intro trivial e34) (.one (.dp T2)) ((1 : Int) : Int)))) (by kernel_rfl)⟩)) (fun e34 =>
     Owp.bnd fun o36 e37 =>
      Owp.bnd fun o44 e45 =>
      Owp.bif (fun e46 =>
      Owp.some (⟨[.res (.one (.dp T2)) y1, .dec false, .cutR 5 ⟨[], [(0, 0)], (body_Check.c1p a0), 1, .normal, (body_Check.c1q a0 o15), 1⟩, .dec false, .cutR 7 ⟨[], [(0, 0)], (body_Check.c2p a0), 1, .normal, (body_Check.c2q a0 o32), 1⟩, .dec false, .cutR 9 ⟨[], [(0, 0)], (body_Check.c3p a0), 1, .normal, (body_Check.c3q a0 o36), 1⟩, .cutR 10 ⟨[], [(0, 0)], (body_Check.c4p a0 o36), 1, .normal, (body_Check.c4q o44), 0⟩, .dec true], [], via (cutP (And.intro (And.intro trivial e2) e3) [(0, 0)] (body_Check.c1p a0) (((body_Check.c1_ok k a0).ap e16)) (cutP (And.intro trivial e17) [(0, 0)] (body_Check.c2p a0) (((body_Check.c2_ok k a0).ap e33)) (cutP (And.intro trivial e34) [(0, 0)] (body_Check.c3p a0) (((body_Check.c3_ok k a0).ap e37)) (cutP trivial [(0, 0)] (body_Check.c4p a0 o36) (((body_Check.c4_ok k a0 o36).ap e45)) (retP (And.intro trivial e46) (.one (.dp T2)) ((3 : Int) : Int)))))) (by kernel_rfl)⟩)) (fun e46 =>
      Owp.some (⟨[.res (.one (.dp T2)) y1, .dec false, .cutR 5 ⟨[], [(0, 0)], (body_Check.c1p a0), 1, .normal, (body_Check.c1q a0 o15), 1⟩, .dec false, .cutR 7 ⟨[], [(0, 0)], (body_Check.c2p a0), 1, .normal, (body_Check.c2q a0 o32), 1⟩, .dec false, .cutR 9 ⟨[], [(0, 0)], (body_Check.c3p a0), 1, .normal, (body_Check.c3q a0 o36), 1⟩, .cutR 10 ⟨[], [(0, 0)], (body_Check.c4p a0 o36), 1, .normal, (body_Check.c4q o44), 0⟩, .dec false], [], via (cutP (And.intro (And.intro trivial e2) e3) [(0, 0)] (body_Check.c1p a0) (((body_Check.c1_ok k a0).ap e16)) (cutP (And.intro trivial e17) [(0, 0)] (body_Check.c2p a0) (((body_Check.c2_ok k a0).ap e33)) (cutP (And.intro trivial e34) [(0, 0)] (body_Check.c3p a0) (((body_Check.c3_ok k a0).ap e37)) (cutP trivial [(0, 0)] (body_Check.c4p a0 o36) (((body_Check.c4_ok k a0 o36).ap e45)) (retP (And.intro trivial e46) (.one (.dp T2)) ((0 : Int) : Int)))))) (by kernel_rfl)⟩)))))
theorem body_Check.ok (k : Nat) : FnOk PR 41 (body_Check.sp k) :=
  fn_ok (body_Check.cok k) hmix Try.func41 (code := body_Check.code) (by kernel_rfl) (by kernel_rfl) (by kernel_rfl) rfl (by kernel_rfl) (by kernel_rfl) (by kernel_rfl) (fun x => Nat.le_of_ble_eq_true (by kernel_rfl)) fun x y hy => (body_Check.way k x.1).ap hy

/-! tourney/keep.Check -/
noncomputable def keep_Check.code : Code := Func.cd Try.f121
def keep_Check.c1 (k : Nat) (a0 : (List V25)) : Nat → Int → Option (Int ⊕ Unit)
  | 0, _ => none
  | n + 1, v2 =>
   bif' (ilt v2 (len a0))
   (req (inL v2 a0) <|
    bnd (body_Check k (el Z25 a0 v2)) fun y5 =>
    bif' (ine y5 0)
    (some (.inl y5))
    (keep_Check.c1 k a0 n (iadd .i64 v2 1)))
   (some (.inr ()))
def keep_Check (k : Nat) (a0 : (List V25)) : Option Int :=
  bif' (igt (len a0) 64)
  (some 2)
  (bnd (keep_Check.c1 k a0 k 0) fun o8 =>
   two o8 (fun y10 =>
   some y10) (fun y12 =>
   some 0))
noncomputable def keep_Check.sp (k : Nat) : Go.Sx.Spec := ⟨(.pair (.slice T25) .unit), (.one (.dp T2)), fun x => keep_Check k x.1, false⟩
noncomputable def keep_Check.cx (k : Nat) : Go.Sx.Ctx := ⟨tys, [(41, body_Check.sp k)], eqs, 21, false⟩
theorem keep_Check.cok (k : Nat) : CtxOk PR (keep_Check.cx k) := ctx_ok tysOk eqsOk (FnsOk.cons (body_Check.ok k) FnsOk.nil)
noncomputable def keep_Check.c1p (a0 : (List V25)) (v2 : Int) : SL := ⟨[(9, (.val (.slice T25) a0)), (10, (.val T2 (len a0))), (11, (.val T2 v2))], []⟩
noncomputable def keep_Check.c1q (o : Int ⊕ Unit) : SL := (fun o => two o (fun v => ⟨[(2, (.val T2 v))], []⟩) (fun v => ⟨[], []⟩)) o
noncomputable def keep_Check.c1x (o : Int ⊕ Unit) : Ex := (fun o => two o (fun _ => .ret) (fun _ => (.exit 0))) o
noncomputable def keep_Check.c1n (o : Int ⊕ Unit) : Nat := (fun o => two o (fun _ => 0) (fun _ => 0)) o
theorem keep_Check.c1_ok (k : Nat) (a0 : (List V25)) : ∀ (n : Nat) (v2 : Int), Owp (keep_Check.c1 k a0 n v2) fun o => LTriple PR (keep_Check.cx k) (sub keep_Check.code [1, 1, 0, 1, 0, 0]) 0 (keep_Check.c1p a0 v2) (keep_Check.c1x o) (keep_Check.c1n o) (keep_Check.c1q o)
  | 0, _ => fun _ h => nomatch h
  | n + 1, v2 => Owp.of (keep_Check.c1.eq_2 ..) (
   Owp.bif (fun e3 =>
   Owp.req fun h4 =>
    Owp.bnd fun y5 e6 =>
    Owp.bif (fun e7 =>
    Owp.some (loop_exit (keep_Check.cok k) hmix [.dec true, .res (.one (.dp T2)) y5, .dec true] [] [] exne_ret (via (finP (And.intro (And.intro (And.intro (And.intro trivial e3) h4) e6) e7) .ret [] (keep_Check.c1q (.inl y5))) (by kernel_rfl)))) (fun e7 =>
    fun y hy => loop_back (keep_Check.cok k) hmix 0 (keep_Check.c1p a0 (iadd .i64 v2 (1 : Int))) [.dec true, .res (.one (.dp T2)) y5, .dec false] [] [] (via (finP (And.intro (And.intro (And.intro (And.intro trivial e3) h4) e6) e7) .normal [] (keep_Check.c1p a0 (iadd .i64 v2 (1 : Int)))) (by kernel_rfl)) ((keep_Check.c1_ok k a0 n (iadd .i64 v2 (1 : Int))).ap hy))) (fun e3 =>
   Owp.some (loop_exit (keep_Check.cok k) hmix [.dec false] [] [] (exne 0) (via (finP (And.intro trivial e3) (.exit 0) [] (keep_Check.c1q (.inr ()))) (by kernel_rfl)))))
theorem keep_Check.way (k : Nat) (a0 : (List V25)) : Owp (keep_Check k a0) fun y => ∃ answers cmds, exec PR (keep_Check.cx k) keep_Check.code 0 (entry (.pair (.slice T25) .unit) (a0, ())).st answers (Ret (keep_Check.cx k) Try.f121 cmds (.one (.dp T2)) y) := by
  unfold keep_Check; exact
   Owp.bif (fun e1 =>
   Owp.some (⟨[.dec true], [], via (retP (And.intro trivial e1) (.one (.dp T2)) ((2 : Int) : Int)) (by kernel_rfl)⟩)) (fun e1 =>
   Owp.bnd fun o8 e9 =>
    Owp.two (fun y10 e11 =>
    Owp.some (⟨[.dec false, .cut ⟨[], [], (keep_Check.c1p a0 (0 : Int)), 0, .ret, (keep_Check.c1q (.inl y10)), 0⟩], [], via (cutP (And.intro trivial e1) [] (keep_Check.c1p a0 (0 : Int)) (((keep_Check.c1_ok k a0 k (0 : Int)).ap (e9.trans (congrArg some e11))).triple) (retP trivial (.one (.dp T2)) (y10 : Int))) (by kernel_rfl)⟩)) (fun y12 e13 =>
    Owp.some (⟨[.dec false, .cut ⟨[], [], (keep_Check.c1p a0 (0 : Int)), 0, (.exit 0), (keep_Check.c1q (.inr ())), 0⟩], [], via (cutP (And.intro trivial e1) [] (keep_Check.c1p a0 (0 : Int)) (((keep_Check.c1_ok k a0 k (0 : Int)).ap (e9.trans (congrArg some e13))).triple) (retP trivial (.one (.dp T2)) ((0 : Int) : Int))) (by kernel_rfl)⟩)))
theorem keep_Check.ok (k : Nat) : FnOk PR 121 (keep_Check.sp k) :=
  fn_ok (keep_Check.cok k) hmix Try.func121 (code := keep_Check.code) (by kernel_rfl) (by kernel_rfl) (by kernel_rfl) rfl (by kernel_rfl) (by kernel_rfl) (by kernel_rfl) (fun x => Nat.le_of_ble_eq_true (by kernel_rfl)) fun x y hy => (keep_Check.way k x.1).ap hy

/-! tourney/ray.within -/
noncomputable def ray_within.code : Code := Func.cd Try.f119
def ray_within (k : Nat) (a0 : V22) : Option Bool :=
  bif' (ige a0.1 (-65536000))
  (bif' (ile a0.1 65536000)
   (bif' (ige a0.2.1 (-65536000))
    (some (ile a0.2.1 65536000))
    (some false))
   (some false))
  (some false)
noncomputable def ray_within.sp (k : Nat) : Go.Sx.Spec := ⟨(.pair T22 .unit), (.one (.dp T4)), fun x => ray_within k x.1, false⟩
noncomputable def ray_within.cx (k : Nat) : Go.Sx.Ctx := ⟨tys, [], eqs, 21, false⟩
theorem ray_within.cok (k : Nat) : CtxOk PR (ray_within.cx k) := ctx_ok tysOk eqsOk FnsOk.nil
theorem ray_within.way (k : Nat) (a0 : V22) : Owp (ray_within k a0) fun y => ∃ answers cmds, exec PR (ray_within.cx k) ray_within.code 0 (entry (.pair T22 .unit) (a0, ())).st answers (Ret (ray_within.cx k) Try.f119 cmds (.one (.dp T4)) y) := by
  unfold ray_within; exact
   Owp.bif (fun e1 =>
   Owp.bif (fun e2 =>
    Owp.bif (fun e3 =>
     Owp.some (⟨[.dec true, .dec true, .dec true, .dec true, .dec true, .dec true, .dec true, .dec true, .dec true, .dec true, .dec true, .dec true], [], via (retP (And.intro (And.intro (And.intro (And.intro (And.intro (And.intro (And.intro (And.intro (And.intro (And.intro (And.intro (And.intro trivial e1) e1) e1) e1) e2) e2) e2) e2) e3) e3) e3) e3) (.one (.dp T4)) ((ile a0.2.1 (65536000 : Int)) : Bool)) (by kernel_rfl)⟩)) (fun e3 =>
     Owp.some (⟨[.dec true, .dec true, .dec true, .dec true, .dec true, .dec true, .dec true, .dec true, .dec false, .dec false, .dec false, .dec false], [], via (retP (And.intro (And.intro (And.intro (And.intro (And.intro (And.intro (And.intro (And.intro (And.intro (And.intro (And.intro (And.intro trivial e1) e1) e1) e1) e2) e2) e2) e2) e3) e3) e3) e3) (.one (.dp T4)) (false : Bool)) (by kernel_rfl)⟩))) (fun e2 =>
    Owp.some (⟨[.dec true, .dec true, .dec true, .dec true, .dec false, .dec false, .dec false, .dec false, .dec false, .dec false, .dec false, .dec false], [], via (retP (And.intro (And.intro (And.intro (And.intro (And.intro (And.intro (And.intro (And.intro (And.intro (And.intro (And.intro (And.intro trivial e1) e1) e1) e1) e2) e2) e2) e2) ff) ff) ff) ff) (.one (.dp T4)) (false : Bool)) (by kernel_rfl)⟩))) (fun e1 =>
   Owp.some (⟨[.dec false, .dec false, .dec false, .dec false, .dec false, .dec false, .dec false, .dec false, .dec false, .dec false, .dec false, .dec false], [], via (retP (And.intro (And.intro (And.intro (And.intro (And.intro (And.intro (And.intro (And.intro (And.intro (And.intro (And.intro (And.intro trivial e1) e1) e1) e1) ff) ff) ff) ff) ff) ff) ff) ff) (.one (.dp T4)) (false : Bool)) (by kernel_rfl)⟩))
theorem ray_within.ok (k : Nat) : FnOk PR 119 (ray_within.sp k) :=
  fn_ok (ray_within.cok k) hmix Try.func119 (code := ray_within.code) (by kernel_rfl) (by kernel_rfl) (by kernel_rfl) rfl (by kernel_rfl) (by kernel_rfl) (by kernel_rfl) (fun x => Nat.le_of_ble_eq_true (by kernel_rfl)) fun x y hy => (ray_within.way k x.1).ap hy

/-! tourney/tourref2.coord -/
noncomputable def tourref2_coord.code : Code := Func.cd Try.f87
def tourref2_coord (k : Nat) (a0 : V22) (a1 : Int) : Option Bool :=
  bif' (ige a0.1 (ineg .i64 a1))
  (bif' (ile a0.1 a1)
   (bif' (ige a0.2.1 (ineg .i64 a1))
    (some (ile a0.2.1 a1))
    (some false))
   (some false))
  (some false)
noncomputable def tourref2_coord.sp (k : Nat) : Go.Sx.Spec := ⟨(.pair T22 (.pair T2 .unit)), (.one (.dp T4)), fun x => tourref2_coord k x.1 x.2.1, false⟩
noncomputable def tourref2_coord.cx (k : Nat) : Go.Sx.Ctx := ⟨tys, [], eqs, 29, false⟩
theorem tourref2_coord.cok (k : Nat) : CtxOk PR (tourref2_coord.cx k) := ctx_ok tysOk eqsOk FnsOk.nil
theorem tourref2_coord.way (k : Nat) (a0 : V22) (a1 : Int) : Owp (tourref2_coord k a0 a1) fun y => ∃ answers cmds, exec PR (tourref2_coord.cx k) tourref2_coord.code 0 (entry (.pair T22 (.pair T2 .unit)) (a0, a1, ())).st answers (Ret (tourref2_coord.cx k) Try.f87 cmds (.one (.dp T4)) y) := by
  unfold tourref2_coord; exact
   Owp.bif (fun e1 =>
   Owp.bif (fun e2 =>
    Owp.bif (fun e3 =>
     Owp.some (⟨[.dec true, .dec true, .dec true, .dec true, .dec true, .dec true, .dec true, .dec true, .dec true, .dec true, .dec true, .dec true, .dec true, .dec true, .dec true, .dec true], [], via (retP (And.intro (And.intro (And.intro (And.intro (And.intro (And.intro (And.intro (And.intro (And.intro (And.intro (And.intro (And.intro (And.intro (And.intro (And.intro (And.intro trivial e1) e1) e1) e1) e1) e2) e2) e2) e2) e2) e2) e3) e3) e3) e3) e3) (.one (.dp T4)) ((ile a0.2.1 a1) : Bool)) (by kernel_rfl)⟩)) (fun e3 =>
     Owp.some (⟨[.dec true, .dec true, .dec true, .dec true, .dec true, .dec true, .dec true, .dec true, .dec true, .dec true, .dec true, .dec false, .dec false, .dec false, .dec false, .dec false], [], via (retP (And.intro (And.intro (And.intro (And.intro (And.intro (And.intro (And.intro (And.intro (And.intro (And.intro (And.intro (And.intro (And.intro (And.intro (And.intro (And.intro trivial e1) e1) e1) e1) e1) e2) e2) e2) e2) e2) e2) e3) e3) e3) e3) e3) (.one (.dp T4)) (false : Bool)) (by kernel_rfl)⟩))) (fun e2 =>
    Owp.some (⟨[.dec true, .dec true, .dec true, .dec true, .dec true, .dec false, .dec false, .dec false, .dec false, .dec false, .dec false, .dec false, .dec false, .dec false, .dec false, .dec false], [], via (retP (And.intro (And.intro (And.intro (And.intro (And.intro (And.intro (And.intro (And.intro (And.intro (And.intro (And.intro (And.intro (And.intro (And.intro (And.intro (And.intro trivial e1) e1) e1) e1) e1) e2) e2) e2) e2) e2) e2) ff) ff) ff) ff) ff) (.one (.dp T4)) (false : Bool)) (by kernel_rfl)⟩))) (fun e1 =>
   Owp.some (⟨[.dec false, .dec false, .dec false, .dec false, .dec false, .dec false, .dec false, .dec false, .dec false, .dec false, .dec false, .dec false, .dec false, .dec false, .dec false, .dec false], [], via (retP (And.intro (And.intro (And.intro (And.intro (And.intro (And.intro (And.intro (And.intro (And.intro (And.intro (And.intro (And.intro (And.intro (And.intro (And.intro (And.intro trivial e1) e1) e1) e1) e1) ff) ff) ff) ff) ff) ff) ff) ff) ff) ff) ff) (.one (.dp T4)) (false : Bool)) (by kernel_rfl)⟩))
theorem tourref2_coord.ok (k : Nat) : FnOk PR 87 (tourref2_coord.sp k) :=
  fn_ok (tourref2_coord.cok k) hmix Try.func87 (code := tourref2_coord.code) (by kernel_rfl) (by kernel_rfl) (by kernel_rfl) rfl (by kernel_rfl) (by kernel_rfl) (by kernel_rfl) (fun x => Nat.le_of_ble_eq_true (by kernel_rfl)) fun x y hy => (tourref2_coord.way k x.1 x.2.1).ap hy

/-! tourney/tourref2.sub -/
noncomputable def tourref2_sub.code : Code := Func.cd Try.f102
def tourref2_sub (k : Nat) (a0 : V22) (a1 : V22) : Option V22 :=
  some ((isub .i64 a0.1 a1.1), (isub .i64 a0.2.1 a1.2.1), ())
noncomputable def tourref2_sub.sp (k : Nat) : Go.Sx.Spec := ⟨(.pair T22 (.pair T22 .unit)), (.one (.dp T22)), fun x => tourref2_sub k x.1 x.2.1, false⟩
noncomputable def tourref2_sub.cx (k : Nat) : Go.Sx.Ctx := ⟨tys, [], eqs, 16, false⟩
theorem tourref2_sub.cok (k : Nat) : CtxOk PR (tourref2_sub.cx k) := ctx_ok tysOk eqsOk FnsOk.nil
theorem tourref2_sub.way (k : Nat) (a0 : V22) (a1 : V22) : Owp (tourref2_sub k a0 a1) fun y => ∃ answers cmds, exec PR (tourref2_sub.cx k) tourref2_sub.code 0 (entry (.pair T22 (.pair T22 .unit)) (a0, a1, ())).st answers (Ret (tourref2_sub.cx k) Try.f102 cmds (.one (.dp T22)) y) := by
  unfold tourref2_sub; exact
   Owp.some (⟨[], [], via (retP trivial (.one (.dp T22)) (((isub .i64 a0.1 a1.1), (isub .i64 a0.2.1 a1.2.1), ()) : V22)) (by kernel_rfl)⟩)
theorem tourref2_sub.ok (k : Nat) : FnOk PR 102 (tourref2_sub.sp k) :=
  fn_ok (tourref2_sub.cok k) hmix Try.func102 (code := tourref2_sub.code) (by kernel_rfl) (by kernel_rfl) (by kernel_rfl) rfl (by kernel_rfl) (by kernel_rfl) (by kernel_rfl) (fun x => Nat.le_of_ble_eq_true (by kernel_rfl)) fun x y hy => (tourref2_sub.way k x.1 x.2.1).ap hy

/-! tourney/tourref2.Cross -/
noncomputable def tourref2_Cross.code : Code := Func.cd Try.f158
def tourref2_Cross (k : Nat) (a0 : V22) (a1 : V22) : Option (List Int) :=
  bnd (tourref2_Of k a0.1) fun y1 =>
  bnd (tourref2_Of k a1.2.1) fun y3 =>
  bnd (tourref2_Big_Mul k y1 y3) fun y5 =>
  bnd (tourref2_Of k a0.2.1) fun y7 =>
  bnd (tourref2_Of k a1.1) fun y9 =>
  bnd (tourref2_Big_Mul k y7 y9) fun y11 =>
  bnd (tourref2_Big_Sub k y5 y11) fun y13 =>
  some y13
noncomputable def tourref2_Cross.sp (k : Nat) : Go.Sx.Spec := ⟨(.pair T22 (.pair T22 .unit)), (.one (.dp T134)), fun x => tourref2_Cross k x.1 x.2.1, false⟩
noncomputable def tourref2_Cross.cx (k : Nat) : Go.Sx.Ctx := ⟨tys, [(159, tourref2_Of.sp k), (177, tourref2_Big_Mul.sp k), (189, tourref2_Big_Sub.sp k)], eqs, 20, false⟩
theorem tourref2_Cross.cok (k : Nat) : CtxOk PR (tourref2_Cross.cx k) := ctx_ok tysOk eqsOk (FnsOk.cons (tourref2_Of.ok k) (FnsOk.cons (tourref2_Big_Mul.ok k) (FnsOk.cons (tourref2_Big_Sub.ok k) FnsOk.nil)))
theorem tourref2_Cross.way (k : Nat) (a0 : V22) (a1 : V22) : Owp (tourref2_Cross k a0 a1) fun y => ∃ answers cmds, exec PR (tourref2_Cross.cx k) tourref2_Cross.code 0 (entry (.pair T22 (.pair T22 .unit)) (a0, a1, ())).st answers (Ret (tourref2_Cross.cx k) Try.f158 cmds (.one (.dp T134)) y) := by
  unfold tourref2_Cross; exact
   Owp.bnd fun y1 e2 =>
   Owp.bnd fun y3 e4 =>
   Owp.bnd fun y5 e6 =>
   Owp.bnd fun y7 e8 =>
   Owp.bnd fun y9 e10 =>
   Owp.bnd fun y11 e12 =>
   Owp.bnd fun y13 e14 =>
   Owp.some (⟨[.res (.one (.dp T134)) y1, .res (.one (.dp T134)) y3, .res (.one (.dp T134)) y5, .res (.one (.dp T134)) y7, .res (.one (.dp T134)) y9, .res (.one (.dp T134)) y11, .res (.one (.dp T134)) y13], [], via (retP (And.intro (And.intro (And.intro (And.intro (And.intro (And.intro (And.intro trivial e2) e4) e6) e8) e10) e12) e14) (.one (.dp T134)) (y13 : (List Int))) (by kernel_rfl)⟩)
theorem tourref2_Cross.ok (k : Nat) : FnOk PR 158 (tourref2_Cross.sp k) :=
  fn_ok (tourref2_Cross.cok k) hmix Try.func158 (code := tourref2_Cross.code) (by kernel_rfl) (by kernel_rfl) (by kernel_rfl) rfl (by kernel_rfl) (by kernel_rfl) (by kernel_rfl) (fun x => Nat.le_of_ble_eq_true (by kernel_rfl)) fun x y hy => (tourref2_Cross.way k x.1 x.2.1).ap hy

/-! tourney/tourref2.left -/
noncomputable def tourref2_left.code : Code := Func.cd Try.f124
def tourref2_left (k : Nat) (a0 : V22) (a1 : V22) (a2 : V22) : Option Int :=
  bnd (tourref2_sub k a1 a0) fun y1 =>
  bnd (tourref2_sub k a2 a0) fun y3 =>
  bnd (tourref2_Cross k y1 y3) fun y5 =>
  bnd (tourref2_Big_Cmp k y5 (List.replicate 8 0)) fun y7 =>
  some y7
noncomputable def tourref2_left.sp (k : Nat) : Go.Sx.Spec := ⟨(.pair T22 (.pair T22 (.pair T22 .unit))), (.one (.dp T2)), fun x => tourref2_left k x.1 x.2.1 x.2.2.1, false⟩
noncomputable def tourref2_left.cx (k : Nat) : Go.Sx.Ctx := ⟨tys, [(102, tourref2_sub.sp k), (158, tourref2_Cross.sp k), (126, tourref2_Big_Cmp.sp k)], eqs, 16, false⟩
theorem tourref2_left.cok (k : Nat) : CtxOk PR (tourref2_left.cx k) := ctx_ok tysOk eqsOk (FnsOk.cons (tourref2_sub.ok k) (FnsOk.cons (tourref2_Cross.ok k) (FnsOk.cons (tourref2_Big_Cmp.ok k) FnsOk.nil)))
theorem tourref2_left.way (k : Nat) (a0 : V22) (a1 : V22) (a2 : V22) : Owp (tourref2_left k a0 a1 a2) fun y => ∃ answers cmds, exec PR (tourref2_left.cx k) tourref2_left.code 0 (entry (.pair T22 (.pair T22 (.pair T22 .unit))) (a0, a1, a2, ())).st answers (Ret (tourref2_left.cx k) Try.f124 cmds (.one (.dp T2)) y) := by
  unfold tourref2_left; exact
   Owp.bnd fun y1 e2 =>
   Owp.bnd fun y3 e4 =>
   Owp.bnd fun y5 e6 =>
   Owp.bnd fun y7 e8 =>
   Owp.some (⟨[.res (.one (.dp T22)) y1, .res (.one (.dp T22)) y3, .res (.one (.dp T134)) y5, .res (.one (.dp T2)) y7], [], via (retP (And.intro (And.intro (And.intro (And.intro trivial e2) e4) e6) e8) (.one (.dp T2)) (y7 : Int)) (by kernel_rfl)⟩)
theorem tourref2_left.ok (k : Nat) : FnOk PR 124 (tourref2_left.sp k) :=
  fn_ok (tourref2_left.cok k) hmix Try.func124 (code := tourref2_left.code) (by kernel_rfl) (by kernel_rfl) (by kernel_rfl) rfl (by kernel_rfl) (by kernel_rfl) (by kernel_rfl) (fun x => Nat.le_of_ble_eq_true (by kernel_rfl)) fun x y hy => (tourref2_left.way k x.1 x.2.1 x.2.2.1).ap hy

/-! tourney/tourref2.Poly -/
noncomputable def tourref2_Poly.code : Code := Func.cd Try.f50
def tourref2_Poly.c1 (k : Nat) (a0 : (List V22)) : Nat → Int → Option (Unit ⊕ Unit)
  | 0, _ => none
  | n + 1, v3 =>
   bif' (ilt v3 (len a0))
   (req (inL v3 a0) <|
    bnd (tourref2_coord k (el Z22 a0 v3) 65536000) fun y6 =>
    bif' y6
    (tourref2_Poly.c1 k a0 n (iadd .i64 v3 1))
    (some (.inl ())))
   (some (.inr ()))
def tourref2_Poly.c4 (k : Nat) (a0 : (List V22)) (v15 : Int) (v17 : Int) : Nat → Int → Option (Unit ⊕ Unit)
  | 0, _ => none
  | n + 1, v19 =>
   bif' (ilt v19 (len a0))
   (req (inL v15 a0) <|
    req (inL v17 a0) <|
    req (inL v19 a0) <|
    bnd (tourref2_left k (el Z22 a0 v15) (el Z22 a0 v17) (el Z22 a0 v19)) fun y24 =>
    bif' (ile y24 0)
    (some (.inl ()))
    (tourref2_Poly.c4 k a0 v15 v17 n (iadd .i64 v19 1)))
   (some (.inr ()))
def tourref2_Poly.c3 (k : Nat) (a0 : (List V22)) (v15 : Int) : Nat → Int → Option (Unit ⊕ Unit)
  | 0, _ => none
  | n + 1, v17 =>
   bif' (ilt v17 (len a0))
   (bnd (tourref2_Poly.c4 k a0 v15 v17 k (iadd .i64 v17 1)) fun o27 =>
    two o27 (fun y29 =>
    some (.inl ())) (fun y31 =>
    tourref2_Poly.c3 k a0 v15 n (iadd .i64 v17 1)))
   (some (.inr ()))
def tourref2_Poly.c2 (k : Nat) (a0 : (List V22)) : Nat → Int → Option (Unit ⊕ Unit)
  | 0, _ => none
  | n + 1, v15 =>
   bif' (ilt v15 (len a0))
   (bnd (tourref2_Poly.c3 k a0 v15 k (iadd .i64 v15 1)) fun o33 =>
    two o33 (fun y35 =>
    some (.inl ())) (fun y37 =>
    tourref2_Poly.c2 k a0 n (iadd .i64 v15 1)))
   (some (.inr ()))
def tourref2_Poly (k : Nat) (a0 : (List V22)) : Option Int :=
  bif' (igt (len a0) 8)
  (some 2)
  (bif' (ilt (len a0) 3)
   (some 3)
   (bnd (tourref2_Poly.c1 k a0 k 0) fun o9 =>
    two o9 (fun y11 =>
    some 1) (fun y13 =>
    bnd (tourref2_Poly.c2 k a0 k 0) fun o39 =>
     two o39 (fun y41 =>
     some 3) (fun y43 =>
     some 0))))
noncomputable def tourref2_Poly.sp (k : Nat) : Go.Sx.Spec := ⟨(.pair T24 .unit), (.one (.dp T2)), fun x => tourref2_Poly k x.1, false⟩
noncomputable def tourref2_Poly.cx (k : Nat) : Go.Sx.Ctx := ⟨tys, [(87, tourref2_coord.sp k), (124, tourref2_left.sp k)], eqs, 60, false⟩
theorem tourref2_Poly.cok (k : Nat) : CtxOk PR (tourref2_Poly.cx k) := ctx_ok tysOk eqsOk (FnsOk.cons (tourref2_coord.ok k) (FnsOk.cons (tourref2_left.ok k) FnsOk.nil))
noncomputable def tourref2_Poly.c1p (a0 : (List V22)) (v3 : Int) : SL := ⟨[(0, (.val T24 a0)), (3, (.val T2 (len a0))), (17, (.val T24 a0)), (18, (.val T2 (len a0))), (19, (.val T2 v3))], []⟩
noncomputable def tourref2_Poly.c1q (a0 : (List V22)) (o : Unit ⊕ Unit) : SL := (fun o => two o (fun v => ⟨[(2, (.val T2 (1 : Int)))], []⟩) (fun v => ⟨[(0, (.val T24 a0)), (3, (.val T2 (len a0)))], []⟩)) o
noncomputable def tourref2_Poly.c1x (o : Unit ⊕ Unit) : Ex := (fun o => two o (fun _ => .ret) (fun _ => (.exit 1))) o
noncomputable def tourref2_Poly.c1n (o : Unit ⊕ Unit) : Nat := (fun o => two o (fun _ => 0) (fun _ => 0)) o
theorem tourref2_Poly.c1_ok (k : Nat) (a0 : (List V22)) : ∀ (n : Nat) (v3 : Int), Owp (tourref2_Poly.c1 k a0 n v3) fun o => LTriple PR (tourref2_Poly.cx k) (sub tourref2_Poly.code [1, 1, 1, 0, 1, 0, 0]) 0 (tourref2_Poly.c1p a0 v3) (tourref2_Poly.c1x o) (tourref2_Poly.c1n o) (tourref2_Poly.c1q a0 o)
  | 0, _ => fun _ h => nomatch h
  | n + 1, v3 => Owp.of (tourref2_Poly.c1.eq_2 ..) (
   Owp.bif (fun e4 =>
   Owp.req fun h5 =>
    Owp.bnd fun y6 e7 =>
    Owp.bif (fun e8 =>
    fun y hy => loop_back (tourref2_Poly.cok k) hmix 0 (tourref2_Poly.c1p a0 (iadd .i64 v3 (1 : Int))) [.dec true, .res (.one (.dp T4)) y6, .dec false] [] [] (via (finP (And.intro (And.intro (And.intro (And.intro trivial e4) h5) e7) (congrArg not e8)) .normal [] (tourref2_Poly.c1p a0 (iadd .i64 v3 (1 : Int)))) (by kernel_rfl)) ((tourref2_Poly.c1_ok k a0 n (iadd .i64 v3 (1 : Int))).ap hy)) (fun e8 =>
    Owp.some (loop_exit (tourref2_Poly.cok k) hmix [.dec true, .res (.one (.dp T4)) y6, .dec true] [] [] exne_ret (via (finP (And.intro (And.intro (And.intro (And.intro trivial e4) h5) e7) (congrArg not e8)) .ret [] (tourref2_Poly.c1q a0 (.inl ()))) (by kernel_rfl))))) (fun e4 =>
   Owp.some (loop_exit (tourref2_Poly.cok k) hmix [.dec false] [] [] (exne 1) (via (finP (And.intro trivial e4) (.exit 1) [] (tourref2_Poly.c1q a0 (.inr ()))) (by kernel_rfl)))))
noncomputable def tourref2_Poly.c4p (a0 : (List V22)) (v15 : Int) (v17 : Int) (v19 : Int) : SL := ⟨[(0, (.val T24 a0)), (3, (.val T2 (len a0))), (6, (.val T2 v15)), (7, (.val T2 v17)), (8, (.val T2 v19)), (27, (.val T2 (len a0))), (28, (.val T2 v15))], []⟩
noncomputable def tourref2_Poly.c4q (a0 : (List V22)) (v15 : Int) (v17 : Int) (o : Unit ⊕ Unit) : SL := (fun o => two o (fun v => ⟨[(2, (.val T2 (3 : Int)))], []⟩) (fun v => ⟨[(0, (.val T24 a0)), (3, (.val T2 (len a0))), (6, (.val T2 v15)), (7, (.val T2 v17)), (27, (.val T2 (len a0))), (28, (.val T2 v15))], []⟩)) o
noncomputable def tourref2_Poly.c4x (o : Unit ⊕ Unit) : Ex := (fun o => two o (fun _ => .ret) (fun _ => (.exit 7))) o
noncomputable def tourref2_Poly.c4n (o : Unit ⊕ Unit) : Nat := (fun o => two o (fun _ => 0) (fun _ => 0)) o
theorem tourref2_Poly.c4_ok (k : Nat) (a0 : (List V22)) (v15 : Int) (v17 : Int) : ∀ (n : Nat) (v19 : Int), Owp (tourref2_Poly.c4 k a0 v15 v17 n v19) fun o => LTriple PR (tourref2_Poly.cx k) (sub tourref2_Poly.code [1, 1, 1, 1, 0, 1, 0, 0, 1, 1, 0, 0, 1, 1, 0, 0, 1, 0, 0, 1, 0, 0]) 0 (tourref2_Poly.c4p a0 v15 v17 v19) (tourref2_Poly.c4x o) (tourref2_Poly.c4n o) (tourref2_Poly.c4q a0 v15 v17 o)
  | 0, _ => fun _ h => nomatch h
  | n + 1, v19 => Owp.of (tourref2_Poly.c4.eq_2 ..) (
   Owp.bif (fun e20 =>
   Owp.req fun h21 =>
    Owp.req fun h22 =>
    Owp.req fun h23 =>
    Owp.bnd fun y24 e25 =>
    Owp.bif (fun e26 =>
    Owp.some (loop_exit (tourref2_Poly.cok k) hmix [.dec true, .res (.one (.dp T2)) y24, .dec true] [] [] exne_ret (via (finP (And.intro (And.intro (And.intro (And.intro (And.intro (And.intro trivial e20) h21) h22) h23) e25) e26) .ret [] (tourref2_Poly.c4q a0 v15 v17 (.inl ()))) (by kernel_rfl)))) (fun e26 =>
    fun y hy => loop_back (tourref2_Poly.cok k) hmix 0 (tourref2_Poly.c4p a0 v15 v17 (iadd .i64 v19 (1 : Int))) [.dec true, .res (.one (.dp T2)) y24, .dec false] [] [] (via (finP (And.intro (And.intro (And.intro (And.intro (And.intro (And.intro trivial e20) h21) h22) h23) e25) e26) .normal [] (tourref2_Poly.c4p a0 v15 v17 (iadd .i64 v19 (1 : Int)))) (by kernel_rfl)) ((tourref2_Poly.c4_ok k a0 v15 v17 n (iadd .i64 v19 (1 : Int))).ap hy))) (fun e20 =>
   Owp.some (loop_exit (tourref2_Poly.cok k) hmix [.dec false] [] [] (exne 7) (via (finP (And.intro trivial e20) (.exit 7) [] (tourref2_Poly.c4q a0 v15 v17 (.inr ()))) (by kernel_rfl)))))
noncomputable def tourref2_Poly.c3p (a0 : (List V22)) (v15 : Int) (v17 : Int) : SL := ⟨[(0, (.val T24 a0)), (3, (.val T2 (len a0))), (6, (.val T2 v15)), (7, (.val T2 v17)), (27, (.val T2 (len a0))), (28, (.val T2 v15))], []⟩
noncomputable def tourref2_Poly.c3q (a0 : (List V22)) (v15 : Int) (o : Unit ⊕ Unit) : SL := (fun o => two o (fun v => ⟨[(2, (.val T2 (3 : Int)))], []⟩) (fun v => ⟨[(0, (.val T24 a0)), (3, (.val T2 (len a0))), (27, (.val T2 (len a0))), (28, (.val T2 v15))], []⟩)) o
noncomputable def tourref2_Poly.c3x (o : Unit ⊕ Unit) : Ex := (fun o => two o (fun _ => .ret) (fun _ => (.exit 5))) o
noncomputable def tourref2_Poly.c3n (o : Unit ⊕ Unit) : Nat := (fun o => two o (fun _ => 0) (fun _ => 0)) o
theorem tourref2_Poly.c3_ok (k : Nat) (a0 : (List V22)) (v15 : Int) : ∀ (n : Nat) (v17 : Int), Owp (tourref2_Poly.c3 k a0 v15 n v17) fun o => LTriple PR (tourref2_Poly.cx k) (sub tourref2_Poly.code [1, 1, 1, 1, 0, 1, 0, 0, 1, 1, 0, 0, 1, 1, 0, 0]) 0 (tourref2_Poly.c3p a0 v15 v17) (tourref2_Poly.c3x o) (tourref2_Poly.c3n o) (tourref2_Poly.c3q a0 v15 o)
  | 0, _ => fun _ h => nomatch h
  | n + 1, v17 => Owp.of (tourref2_Poly.c3.eq_2 ..) (
   Owp.bif (fun e18 =>
   Owp.bnd fun o27 e28 =>
    Owp.two (fun y29 e30 =>
    Owp.some (loop_exit (tourref2_Poly.cok k) hmix [.dec true, .cut ⟨[], [], (tourref2_Poly.c4p a0 v15 v17 (iadd .i64 v17 (1 : Int))), 0, .ret, (tourref2_Poly.c4q a0 v15 v17 (.inl ())), 0⟩] [] [] exne_ret (via (cutP (And.intro trivial e18) [] (tourref2_Poly.c4p a0 v15 v17 (iadd .i64 v17 (1 : Int))) (((tourref2_Poly.c4_ok k a0 v15 v17 k (iadd .i64 v17 (1 : Int))).ap (e28.trans (congrArg some e30))).triple) (finP trivial .ret [] (tourref2_Poly.c3q a0 v15 (.inl ())))) (by kernel_rfl)))) (fun y31 e32 =>
    fun y hy => loop_back (tourref2_Poly.cok k) hmix 0 (tourref2_Poly.c3p a0 v15 (iadd .i64 v17 (1 : Int))) [.dec true, .cut ⟨[], [], (tourref2_Poly.c4p a0 v15 v17 (iadd .i64 v17 (1 : Int))), 0, (.exit 7), (tourref2_Poly.c4q a0 v15 v17 (.inr ())), 0⟩] [] [] (via (cutP (And.intro trivial e18) [] (tourref2_Poly.c4p a0 v15 v17 (iadd .i64 v17 (1 : Int))) (((tourref2_Poly.c4_ok k a0 v15 v17 k (iadd .i64 v17 (1 : Int))).ap (e28.trans (congrArg some e32))).triple) (finP trivial .normal [] (tourref2_Poly.c3p a0 v15 (iadd .i64 v17 (1 : Int))))) (by kernel_rfl)) ((tourref2_Poly.c3_ok k a0 v15 n (iadd .i64 v17 (1 : Int))).ap hy))) (fun e18 =>
   Owp.some (loop_exit (tourref2_Poly.cok k) hmix [.dec false] [] [] (exne 5) (via (finP (And.intro trivial e18) (.exit 5) [] (tourref2_Poly.c3q a0 v15 (.inr ()))) (by kernel_rfl)))))
noncomputable def tourref2_Poly.c2p (a0 : (List V22)) (v15 : Int) : SL := ⟨[(0, (.val T24 a0)), (3, (.val T2 (len a0))), (27, (.val T2 (len a0))), (28, (.val T2 v15))], []⟩
noncomputable def tourref2_Poly.c2q (o : Unit ⊕ Unit) : SL := (fun o => two o (fun v => ⟨[(2, (.val T2 (3 : Int)))], []⟩) (fun v => ⟨[], []⟩)) o
noncomputable def tourref2_Poly.c2x (o : Unit ⊕ Unit) : Ex := (fun o => two o (fun _ => .ret) (fun _ => (.exit 3))) o
noncomputable def tourref2_Poly.c2n (o : Unit ⊕ Unit) : Nat := (fun o => two o (fun _ => 0) (fun _ => 0)) o
theorem tourref2_Poly.c2_ok (k : Nat) (a0 : (List V22)) : ∀ (n : Nat) (v15 : Int), Owp (tourref2_Poly.c2 k a0 n v15) fun o => LTriple PR (tourref2_Poly.cx k) (sub tourref2_Poly.code [1, 1, 1, 1, 0, 1, 0, 0]) 0 (tourref2_Poly.c2p a0 v15) (tourref2_Poly.c2x o) (tourref2_Poly.c2n o) (tourref2_Poly.c2q o)
  | 0, _ => fun _ h => nomatch h
  | n + 1, v15 => Owp.of (tourref2_Poly.c2.eq_2 ..) (
   Owp.bif (fun e16 =>
   Owp.bnd fun o33 e34 =>
    Owp.two (fun y35 e36 =>
    Owp.some (loop_exit (tourref2_Poly.cok k) hmix [.dec true, .cut ⟨[], [], (tourref2_Poly.c3p a0 v15 (iadd .i64 v15 (1 : Int))), 0, .ret, (tourref2_Poly.c3q a0 v15 (.inl ())), 0⟩] [] [] exne_ret (via (cutP (And.intro trivial e16) [] (tourref2_Poly.c3p a0 v15 (iadd .i64 v15 (1 : Int))) (((tourref2_Poly.c3_ok k a0 v15 k (iadd .i64 v15 (1 : Int))).ap (e34.trans (congrArg some e36))).triple) (finP trivial .ret [] (tourref2_Poly.c2q (.inl ())))) (by kernel_rfl)))) (fun y37 e38 =>
    fun y hy => loop_back (tourref2_Poly.cok k) hmix 0 (tourref2_Poly.c2p a0 (iadd .i64 v15 (1 : Int))) [.dec true, .cut ⟨[], [], (tourref2_Poly.c3p a0 v15 (iadd .i64 v15 (1 : Int))), 0, (.exit 5), (tourref2_Poly.c3q a0 v15 (.inr ())), 0⟩] [] [] (via (cutP (And.intro trivial e16) [] (tourref2_Poly.c3p a0 v15 (iadd .i64 v15 (1 : Int))) (((tourref2_Poly.c3_ok k a0 v15 k (iadd .i64 v15 (1 : Int))).ap (e34.trans (congrArg some e38))).triple) (finP trivial .normal [] (tourref2_Poly.c2p a0 (iadd .i64 v15 (1 : Int))))) (by kernel_rfl)) ((tourref2_Poly.c2_ok k a0 n (iadd .i64 v15 (1 : Int))).ap hy))) (fun e16 =>
   Owp.some (loop_exit (tourref2_Poly.cok k) hmix [.dec false] [] [] (exne 3) (via (finP (And.intro trivial e16) (.exit 3) [] (tourref2_Poly.c2q (.inr ()))) (by kernel_rfl)))))
theorem tourref2_Poly.way (k : Nat) (a0 : (List V22)) : Owp (tourref2_Poly k a0) fun y => ∃ answers cmds, exec PR (tourref2_Poly.cx k) tourref2_Poly.code 0 (entry (.pair T24 .unit) (a0, ())).st answers (Ret (tourref2_Poly.cx k) Try.f50 cmds (.one (.dp T2)) y) := by
  unfold tourref2_Poly; exact
   Owp.bif (fun e1 =>
   Owp.some (⟨[.dec true], [], via (retP (And.intro trivial e1) (.one (.dp T2)) ((2 : Int) : Int)) (by kernel_rfl)⟩)) (fun e1 =>
   Owp.bif (fun e2 =>
    Owp.some (⟨[.dec false, .dec true], [], via (retP (And.intro (And.intro trivial e1) e2) (.one (.dp T2)) ((3 : Int) : Int)) (by kernel_rfl)⟩)) (fun e2 =>
    Owp.bnd fun o9 e10 =>
     Owp.two (fun y11 e12 =>
     Owp.some (⟨[.dec false, .dec false, .cut ⟨[], [], (tourref2_Poly.c1p a0 (0 : Int)), 0, .ret, (tourref2_Poly.c1q a0 (.inl ())), 0⟩], [], via (cutP (And.intro (And.intro trivial e1) e2) [] (tourref2_Poly.c1p a0 (0 : Int)) (((tourref2_Poly.c1_ok k a0 k (0 : Int)).ap (e10.trans (congrArg some e12))).triple) (retP trivial (.one (.dp T2)) ((1 : Int) : Int))) (by kernel_rfl)⟩)) (fun y13 e14 =>
     Owp.bnd fun o39 e40 =>
      Owp.two (fun y41 e42 =>
      Owp.some (⟨[.dec false, .dec false, .cut ⟨[], [], (tourref2_Poly.c1p a0 (0 : Int)), 0, (.exit 1), (tourref2_Poly.c1q a0 (.inr ())), 0⟩, .cut ⟨[], [], (tourref2_Poly.c2p a0 (0 : Int)), 0, .ret, (tourref2_Poly.c2q (.inl ())), 0⟩], [], via (cutP (And.intro (And.intro trivial e1) e2) [] (tourref2_Poly.c1p a0 (0 : Int)) (((tourref2_Poly.c1_ok k a0 k (0 : Int)).ap (e10.trans (congrArg some e14))).triple) (cutP trivial [] (tourref2_Poly.c2p a0 (0 : Int)) (((tourref2_Poly.c2_ok k a0 k (0 : Int)).ap (e40.trans (congrArg some e42))).triple) (retP trivial (.one (.dp T2)) ((3 : Int) : Int)))) (by kernel_rfl)⟩)) (fun y43 e44 =>
      Owp.some (⟨[.dec false, .dec false, .cut ⟨[], [], (tourref2_Poly.c1p a0 (0 : Int)), 0, (.exit 1), (tourref2_Poly.c1q a0 (.inr ())), 0⟩, .cut ⟨[], [], (tourref2_Poly.c2p a0 (0 : Int)), 0, (.exit 3), (tourref2_Poly.c2q (.inr ())), 0⟩], [], via (cutP (And.intro (And.intro trivial e1) e2) [] (tourref2_Poly.c1p a0 (0 : Int)) (((tourref2_Poly.c1_ok k a0 k (0 : Int)).ap (e10.trans (congrArg some e14))).triple) (cutP trivial [] (tourref2_Poly.c2p a0 (0 : Int)) (((tourref2_Poly.c2_ok k a0 k (0 : Int)).ap (e40.trans (congrArg some e44))).triple) (retP trivial (.one (.dp T2)) ((0 : Int) : Int)))) (by kernel_rfl)⟩)))))
theorem tourref2_Poly.ok (k : Nat) : FnOk PR 50 (tourref2_Poly.sp k) :=
  fn_ok (tourref2_Poly.cok k) hmix Try.func50 (code := tourref2_Poly.code) (by kernel_rfl) (by kernel_rfl) (by kernel_rfl) rfl (by kernel_rfl) (by kernel_rfl) (by kernel_rfl) (fun x => Nat.le_of_ble_eq_true (by kernel_rfl)) fun x y hy => (tourref2_Poly.way k x.1).ap hy

/-! tourney/tourkeep2.square -/
noncomputable def tourkeep2_square.code : Code := Func.cd Try.f107
def tourkeep2_square (k : Nat) (a0 : Int) (a1 : Int) (a2 : Int) : Option (List V22) :=
  some [((isub .i64 (imul .i64 a0 65536) (imul .i64 a2 65536)), (isub .i64 (imul .i64 a1 65536) (imul .i64 a2 65536)), ()), ((iadd .i64 (imul .i64 a0 65536) (imul .i64 a2 65536)), (isub .i64 (imul .i64 a1 65536) (imul .i64 a2 65536)), ()), ((iadd .i64 (imul .i64 a0 65536) (imul .i64 a2 65536)), (iadd .i64 (imul .i64 a1 65536) (imul .i64 a2 65536)), ()), ((isub .i64 (imul .i64 a0 65536) (imul .i64 a2 65536)), (iadd .i64 (imul .i64 a1 65536) (imul .i64 a2 65536)), ())]
noncomputable def tourkeep2_square.sp (k : Nat) : Go.Sx.Spec := ⟨(.pair T2 T22), (.one (.ow T22 23)), fun x => tourkeep2_square k x.1 x.2.1 x.2.2.1, false⟩
noncomputable def tourkeep2_square.cx (k : Nat) : Go.Sx.Ctx := ⟨tys, [], eqs, 42, false⟩
theorem tourkeep2_square.cok (k : Nat) : CtxOk PR (tourkeep2_square.cx k) := ctx_ok tysOk eqsOk FnsOk.nil
theorem tourkeep2_square.way (k : Nat) (a0 : Int) (a1 : Int) (a2 : Int) : Owp (tourkeep2_square k a0 a1 a2) fun y => ∃ answers cmds, exec PR (tourkeep2_square.cx k) tourkeep2_square.code 0 (entry (.pair T2 T22) (a0, a1, a2, ())).st answers (Ret (tourkeep2_square.cx k) Try.f107 cmds (.one (.ow T22 23)) y) := by
  unfold tourkeep2_square; exact
   Owp.some (⟨[.dec true], [], via (retP trivial (.one (.ow T22 23)) ([((isub .i64 (imul .i64 a0 (65536 : Int)) (imul .i64 a2 (65536 : Int))), (isub .i64 (imul .i64 a1 (65536 : Int)) (imul .i64 a2 (65536 : Int))), ()), ((iadd .i64 (imul .i64 a0 (65536 : Int)) (imul .i64 a2 (65536 : Int))), (isub .i64 (imul .i64 a1 (65536 : Int)) (imul .i64 a2 (65536 : Int))), ()), ((iadd .i64 (imul .i64 a0 (65536 : Int)) (imul .i64 a2 (65536 : Int))), (iadd .i64 (imul .i64 a1 (65536 : Int)) (imul .i64 a2 (65536 : Int))), ()), ((isub .i64 (imul .i64 a0 (65536 : Int)) (imul .i64 a2 (65536 : Int))), (iadd .i64 (imul .i64 a1 (65536 : Int)) (imul .i64 a2 (65536 : Int))), ())] : (List V22))) (by kernel_rfl)⟩)
theorem tourkeep2_square.ok (k : Nat) : FnOk PR 107 (tourkeep2_square.sp k) :=
  fn_ok (tourkeep2_square.cok k) hmix Try.func107 (code := tourkeep2_square.code) (by kernel_rfl) (by kernel_rfl) (by kernel_rfl) rfl (by kernel_rfl) (by kernel_rfl) (by kernel_rfl) (fun x => Nat.le_of_ble_eq_true (by kernel_rfl)) fun x y hy => (tourkeep2_square.way k x.1 x.2.1 x.2.2.1).ap hy

/-! tourney/tourkeep2.block -/
noncomputable def tourkeep2_block.code : Code := Func.cd Try.f56
def tourkeep2_block (k : Nat) (a0 : Int) (a1 : Int) (a2 : Int) (a3 : Bool) : Option V25 :=
  bnd (tourkeep2_square k 0 0 a2) fun y1 =>
  bif' a3
  (some (((imul .i64 a0 65536), (imul .i64 a1 65536), ()), (0, 0, ()), 0, 0, 65536, 65536, 0, 0, y1, false, 0, ()))
  (some (((imul .i64 a0 65536), (imul .i64 a1 65536), ()), (0, 0, ()), 0, 0, 0, 0, 0, 0, y1, false, 0, ()))
noncomputable def tourkeep2_block.sp (k : Nat) : Go.Sx.Spec := ⟨(.pair T2 (.pair T2 (.pair T2 (.pair T4 .unit)))), (.one (.dp T25)), fun x => tourkeep2_block k x.1 x.2.1 x.2.2.1 x.2.2.2.1, false⟩
noncomputable def tourkeep2_block.cx (k : Nat) : Go.Sx.Ctx := ⟨tys, [(107, (tourkeep2_square.sp k).frz)], eqs, 22, false⟩
theorem tourkeep2_block.cok (k : Nat) : CtxOk PR (tourkeep2_block.cx k) := ctx_ok tysOk eqsOk (FnsOk.cons (FnOk.frz rfl (tourkeep2_square.ok k)) FnsOk.nil)
theorem tourkeep2_block.way (k : Nat) (a0 : Int) (a1 : Int) (a2 : Int) (a3 : Bool) : Owp (tourkeep2_block k a0 a1 a2 a3) fun y => ∃ answers cmds, exec PR (tourkeep2_block.cx k) tourkeep2_block.code 0 (entry (.pair T2 (.pair T2 (.pair T2 (.pair T4 .unit)))) (a0, a1, a2, a3, ())).st answers (Ret (tourkeep2_block.cx k) Try.f56 cmds (.one (.dp T25)) y) := by
  unfold tourkeep2_block; exact
   Owp.bnd fun y1 e2 =>
   Owp.bif (fun e3 =>
   Owp.some (⟨[.res (.one (.dp T24)) y1, .dec true], [], via (retP (And.intro (And.intro trivial e2) e3) (.one (.dp T25)) ((((imul .i64 a0 (65536 : Int)), (imul .i64 a1 (65536 : Int)), ()), ((0 : Int), (0 : Int), ()), (0 : Int), (0 : Int), (65536 : Int), (65536 : Int), (0 : Int), (0 : Int), y1, false, (0 : Int), ()) : V25)) (by kernel_rfl)⟩)) (fun e3 =>
   Owp.some (⟨[.res (.one (.dp T24)) y1, .dec false], [], via (retP (And.intro (And.intro trivial e2) e3) (.one (.dp T25)) ((((imul .i64 a0 (65536 : Int)), (imul .i64 a1 (65536 : Int)), ()), ((0 : Int), (0 : Int), ()), (0 : Int), (0 : Int), (0 : Int), (0 : Int), (0 : Int), (0 : Int), y1, false, (0 : Int), ()) : V25)) (by kernel_rfl)⟩))
theorem tourkeep2_block.ok (k : Nat) : FnOk PR 56 (tourkeep2_block.sp k) :=
  fn_ok (tourkeep2_block.cok k) hmix Try.func56 (code := tourkeep2_block.code) (by kernel_rfl) (by kernel_rfl) (by kernel_rfl) rfl (by kernel_rfl) (by kernel_rfl) (by kernel_rfl) (fun x => Nat.le_of_ble_eq_true (by kernel_rfl)) fun x y hy => (tourkeep2_block.way k x.1 x.2.1 x.2.2.1 x.2.2.2.1).ap hy

/-! tourney/solve.Check$1 -/
noncomputable def solve_Check_1.code : Code := Func.cd Try.f152
def solve_Check_1 (k : Nat) (a0 : Int) (a1 : Int) (a2 : Int) : Option Bool :=
  bif' (ige a0 a1)
  (some (ile a0 a2))
  (some false)
noncomputable def solve_Check_1.sp (k : Nat) : Go.Sx.Spec := ⟨(.pair T2 T22), (.one (.dp T4)), fun x => solve_Check_1 k x.1 x.2.1 x.2.2.1, false⟩
noncomputable def solve_Check_1.cx (k : Nat) : Go.Sx.Ctx := ⟨tys, [], eqs, 15, false⟩
theorem solve_Check_1.cok (k : Nat) : CtxOk PR (solve_Check_1.cx k) := ctx_ok tysOk eqsOk FnsOk.nil
theorem solve_Check_1.way (k : Nat) (a0 : Int) (a1 : Int) (a2 : Int) : Owp (solve_Check_1 k a0 a1 a2) fun y => ∃ answers cmds, exec PR (solve_Check_1.cx k) solve_Check_1.code 0 (entry (.pair T2 T22) (a0, a1, a2, ())).st answers (Ret (solve_Check_1.cx k) Try.f152 cmds (.one (.dp T4)) y) := by
  unfold solve_Check_1; exact
   Owp.bif (fun e1 =>
   Owp.some (⟨[.dec true, .dec true, .dec true, .dec true], [], via (retP (And.intro (And.intro (And.intro (And.intro trivial e1) e1) e1) e1) (.one (.dp T4)) ((ile a0 a2) : Bool)) (by kernel_rfl)⟩)) (fun e1 =>
   Owp.some (⟨[.dec false, .dec false, .dec false, .dec false], [], via (retP (And.intro (And.intro (And.intro (And.intro trivial e1) e1) e1) e1) (.one (.dp T4)) (false : Bool)) (by kernel_rfl)⟩))
theorem solve_Check_1.ok (k : Nat) : FnOk PR 152 (solve_Check_1.sp k) :=
  fn_ok (solve_Check_1.cok k) hmix Try.func152 (code := solve_Check_1.code) (by kernel_rfl) (by kernel_rfl) (by kernel_rfl) rfl (by kernel_rfl) (by kernel_rfl) (by kernel_rfl) (fun x => Nat.le_of_ble_eq_true (by kernel_rfl)) fun x y hy => (solve_Check_1.way k x.1 x.2.1 x.2.2.1).ap hy

end Go.Proofs.T1
