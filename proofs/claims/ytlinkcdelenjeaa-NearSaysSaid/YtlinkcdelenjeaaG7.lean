import Derived.Test.YtlinkcdelenjeaaG0
import Derived.Test.YtlinkcdelenjeaaG2
import Derived.Test.YtlinkcdelenjeaaG3
import Derived.Test.YtlinkcdelenjeaaG4
namespace Go.Proofs.T1
open Go Go.Sx Go.Proofs
set_option maxRecDepth 100000
set_option linter.unusedVariables false
/-! tourney/tourlaw2.square -/
noncomputable def tourlaw2_square.code : Code := Func.cd Try.f11
def tourlaw2_square (k : Nat) (a0 : Int) (a1 : Int) (a2 : Int) : Option (List V33) :=
  some [((imul .i64 a0 65536), (imul .i64 a1 65536), ()), ((iadd .i64 (imul .i64 a0 65536) (imul .i64 a2 65536)), (imul .i64 a1 65536), ()), ((iadd .i64 (imul .i64 a0 65536) (imul .i64 a2 65536)), (iadd .i64 (imul .i64 a1 65536) (imul .i64 a2 65536)), ()), ((imul .i64 a0 65536), (iadd .i64 (imul .i64 a1 65536) (imul .i64 a2 65536)), ())]
noncomputable def tourlaw2_square.sp (k : Nat) : Go.Sx.Spec := ⟨(.pair T2 T33), (.one (.ow T33 34)), fun x => tourlaw2_square k x.1 x.2.1 x.2.2.1, false⟩
noncomputable def tourlaw2_square.cx (k : Nat) : Go.Sx.Ctx := ⟨tys, [], eqs, 34, false⟩
theorem tourlaw2_square.cok (k : Nat) : CtxOk PR (tourlaw2_square.cx k) := ctx_ok tysOk eqsOk FnsOk.nil
theorem tourlaw2_square.way (k : Nat) (a0 : Int) (a1 : Int) (a2 : Int) : Owp (tourlaw2_square k a0 a1 a2) fun y => ∃ answers cmds, exec PR (tourlaw2_square.cx k) tourlaw2_square.code 0 (entry (.pair T2 T33) (a0, a1, a2, ())).st answers (Ret (tourlaw2_square.cx k) Try.f11 cmds (.one (.ow T33 34)) y) := by
  unfold tourlaw2_square; exact
   Owp.some (⟨[.dec true], [], via (retP trivial (.one (.ow T33 34)) ([((imul .i64 a0 (65536 : Int)), (imul .i64 a1 (65536 : Int)), ()), ((iadd .i64 (imul .i64 a0 (65536 : Int)) (imul .i64 a2 (65536 : Int))), (imul .i64 a1 (65536 : Int)), ()), ((iadd .i64 (imul .i64 a0 (65536 : Int)) (imul .i64 a2 (65536 : Int))), (iadd .i64 (imul .i64 a1 (65536 : Int)) (imul .i64 a2 (65536 : Int))), ()), ((imul .i64 a0 (65536 : Int)), (iadd .i64 (imul .i64 a1 (65536 : Int)) (imul .i64 a2 (65536 : Int))), ())] : (List V33))) (by kernel_rfl)⟩)
theorem tourlaw2_square.ok (k : Nat) : FnOk PR 11 (tourlaw2_square.sp k) :=
  fn_ok (tourlaw2_square.cok k) hmix Try.func11 (code := tourlaw2_square.code) (by kernel_rfl) (by kernel_rfl) (by kernel_rfl) rfl (by kernel_rfl) (by kernel_rfl) (by kernel_rfl) (fun x => Nat.le_of_ble_eq_true (by kernel_rfl)) fun x y hy => (tourlaw2_square.way k x.1 x.2.1 x.2.2.1).ap hy

/-! tourney/tourref2.Two -/
noncomputable def tourref2_Two.code : Code := Func.cd Try.f14
def tourref2_Two (k : Nat) (a0 : (List V33)) (a1 : (List V33)) : Option Int :=
  bnd (tourref2_Poly k a0) fun y1 =>
  bif' (ine y1 0)
  (some y1)
  (bnd (tourref2_Poly k a1) fun y4 =>
   some y4)
noncomputable def tourref2_Two.sp (k : Nat) : Go.Sx.Spec := ⟨(.pair T22 (.pair T22 .unit)), (.one (.dp T2)), fun x => tourref2_Two k x.1 x.2.1, false⟩
noncomputable def tourref2_Two.cx (k : Nat) : Go.Sx.Ctx := ⟨tys, [(57, tourref2_Poly.sp k)], eqs, 13, false⟩
theorem tourref2_Two.cok (k : Nat) : CtxOk PR (tourref2_Two.cx k) := ctx_ok tysOk eqsOk (FnsOk.cons (tourref2_Poly.ok k) FnsOk.nil)
theorem tourref2_Two.way (k : Nat) (a0 : (List V33)) (a1 : (List V33)) : Owp (tourref2_Two k a0 a1) fun y => ∃ answers cmds, exec PR (tourref2_Two.cx k) tourref2_Two.code 0 (entry (.pair T22 (.pair T22 .unit)) (a0, a1, ())).st answers (Ret (tourref2_Two.cx k) Try.f14 cmds (.one (.dp T2)) y) := by
  unfold tourref2_Two; exact
   Owp.bnd fun y1 e2 =>
   Owp.bif (fun e3 =>
   Owp.some (⟨[.res (.one (.dp T2)) y1, .dec true], [], via (retP (And.intro (And.intro trivial e2) e3) (.one (.dp T2)) (y1 : Int)) (by kernel_rfl)⟩)) (fun e3 =>
   Owp.bnd fun y4 e5 =>
    Owp.some (⟨[.res (.one (.dp T2)) y1, .dec false, .res (.one (.dp T2)) y4], [], via (retP (And.intro (And.intro (And.intro trivial e2) e3) e5) (.one (.dp T2)) (y4 : Int)) (by kernel_rfl)⟩))
theorem tourref2_Two.ok (k : Nat) : FnOk PR 14 (tourref2_Two.sp k) :=
  fn_ok (tourref2_Two.cok k) hmix Try.func14 (code := tourref2_Two.code) (by kernel_rfl) (by kernel_rfl) (by kernel_rfl) rfl (by kernel_rfl) (by kernel_rfl) (by kernel_rfl) (fun x => Nat.le_of_ble_eq_true (by kernel_rfl)) fun x y hy => (tourref2_Two.way k x.1 x.2.1).ap hy

/-! tourney/tourref2.Wrap -/
noncomputable def tourref2_Wrap.code : Code := Func.cd Try.f59
def tourref2_Wrap.c2 (k : Nat) (a0 : (List V33)) (v3 : Int) (v4 : V33) : Option (Bool) :=
  bif' (ilt (el Z33 a0 v3).2.1 v4.2.1)
  (some true)
  (bif' (ieq (el Z33 a0 v3).2.1 v4.2.1)
   (some (ilt (el Z33 a0 v3).1 v4.1))
   (some false))
def tourref2_Wrap.c1 (k : Nat) (a0 : (List V33)) : Nat → Int → V33 → Option (V33)
  | 0, _, _ => none
  | n + 1, v3, v4 =>
   bif' (ilt v3 (len a0))
   (req (inL v3 a0) <|
    bnd (tourref2_Wrap.c2 k a0 v3 v4) fun o9 =>
    bif' o9
    (tourref2_Wrap.c1 k a0 n (iadd .i64 v3 1) (el Z33 a0 v3))
    (tourref2_Wrap.c1 k a0 n (iadd .i64 v3 1) v4))
   (some v4)
def tourref2_Wrap.c5 (k : Nat) (a0 : (List V33)) (v14 : (List V33)) (v17 : Int) (v18 : V33) : Option (Int) :=
  bif' (Ty.eqb T33 v18 (el Z33 v14 (isub .i64 (len v14) (1 : Int))))
  (some 0)
  (bnd (tourref2_left k (el Z33 v14 (isub .i64 (len v14) 1)) v18 (el Z33 a0 v17)) fun y23 =>
   some y23)
def tourref2_Wrap.c6 (k : Nat) (a0 : (List V33)) (o25 : Int) (v14 : (List V33)) (v17 : Int) (v18 : V33) : Option (Bool) :=
  bif' (Ty.eqb T33 v18 (el Z33 v14 (isub .i64 (len v14) (1 : Int))))
  (some true)
  (bif' (ilt o25 0)
   (some true)
   (bif' (ieq o25 0)
    (bnd (tourref2_sub k (el Z33 a0 v17) (el Z33 v14 (isub .i64 (len v14) 1))) fun y30 =>
     bnd (tourref2_sub k (el Z33 a0 v17) (el Z33 v14 (isub .i64 (len v14) 1))) fun y32 =>
     bnd (tourref2_Dot k y30 y32) fun y34 =>
     bnd (tourref2_sub k v18 (el Z33 v14 (isub .i64 (len v14) 1))) fun y36 =>
     bnd (tourref2_sub k v18 (el Z33 v14 (isub .i64 (len v14) 1))) fun y38 =>
     bnd (tourref2_Dot k y36 y38) fun y40 =>
     bnd (tourref2_Big_Cmp k y34 y40) fun y42 =>
     some (igt y42 0))
    (some false)))
def tourref2_Wrap.c4 (k : Nat) (a0 : (List V33)) (v14 : (List V33)) : Nat → Int → V33 → Option (V33)
  | 0, _, _ => none
  | n + 1, v17, v18 =>
   bif' (ilt v17 (len a0))
   (req (inL v17 a0) <|
    bif' (Ty.eqb T33 (el Z33 a0 v17) (el Z33 v14 (isub .i64 (len v14) (1 : Int))))
    (tourref2_Wrap.c4 k a0 v14 n (iadd .i64 v17 1) v18)
    (bnd (tourref2_Wrap.c5 k a0 v14 v17 v18) fun o25 =>
     bnd (tourref2_Wrap.c6 k a0 o25 v14 v17 v18) fun o44 =>
     bif' o44
     (tourref2_Wrap.c4 k a0 v14 n (iadd .i64 v17 1) (el Z33 a0 v17))
     (tourref2_Wrap.c4 k a0 v14 n (iadd .i64 v17 1) v18)))
   (some v18)
def tourref2_Wrap.c7 (k : Nat) (o12 : V33) (o47 : V33) (v14 : (List V33)) : Option (Bool) :=
  bif' (Ty.eqb T33 o47 o12)
  (some true)
  (some (Ty.eqb T33 o47 (el Z33 v14 (isub .i64 (len v14) (1 : Int)))))
def tourref2_Wrap.c3 (k : Nat) (a0 : (List V33)) (o12 : V33) : Nat → (List V33) → Option ((List V33))
  | 0, _ => none
  | n + 1, v14 =>
   bif' (ile (len v14) (len a0))
   (req (inL (isub .i64 (len v14) 1) v14) <|
    bnd (tourref2_Wrap.c4 k a0 v14 k 0 (el Z33 v14 (isub .i64 (len v14) 1))) fun o47 =>
    bnd (tourref2_Wrap.c7 k o12 o47 v14) fun o50 =>
    bif' o50
    (some v14)
    (req (room 16 v14 [o47]) <|
     tourref2_Wrap.c3 k a0 o12 n (v14 ++ [o47])))
   (some v14)
def tourref2_Wrap (k : Nat) (a0 : (List V33)) : Option (List V33) :=
  bif' (ieq (len a0) 0)
  (some [])
  (req (inL 0 a0) <|
   bnd (tourref2_Wrap.c1 k a0 k 0 (el Z33 a0 0)) fun o12 =>
   bnd (tourref2_Wrap.c3 k a0 o12 k [o12]) fun o54 =>
   some o54)
noncomputable def tourref2_Wrap.sp (k : Nat) : Go.Sx.Spec := ⟨(.pair T22 .unit), (.one (.ow T33 34)), fun x => tourref2_Wrap k x.1, false⟩
noncomputable def tourref2_Wrap.cx (k : Nat) : Go.Sx.Ctx := ⟨tys, [(101, tourref2_left.sp k), (58, tourref2_sub.sp k), (102, tourref2_Dot.sp k), (103, tourref2_Big_Cmp.sp k)], eqs, 119, false⟩
theorem tourref2_Wrap.cok (k : Nat) : CtxOk PR (tourref2_Wrap.cx k) := ctx_ok tysOk eqsOk (FnsOk.cons (tourref2_left.ok k) (FnsOk.cons (tourref2_sub.ok k) (FnsOk.cons (tourref2_Dot.ok k) (FnsOk.cons (tourref2_Big_Cmp.ok k) FnsOk.nil))))
noncomputable def tourref2_Wrap.c2p (a0 : (List V33)) (v3 : Int) (v4 : V33) : SL := ⟨[(0, (.val T22 a0)), (3, (.val .ptr ⟨0, 0, (0 : Int), 0, 0⟩)), (5, (.val .ptr ⟨1, 0, (0 : Int), 0, 0⟩)), (18, (.val T22 a0)), (19, (.val T2 (len a0))), (20, (.val T2 v3))], [(0, .cells T33 v4), (1, .cells T33 (el Z33 a0 v3))]⟩
noncomputable def tourref2_Wrap.c2q (a0 : (List V33)) (v3 : Int) (v4 : V33) (o : Bool) : SL := (fun v => ⟨[(0, (.val T22 a0)), (3, (.val .ptr ⟨0, 0, (0 : Int), 0, 0⟩)), (5, (.val .ptr ⟨1, 0, (0 : Int), 0, 0⟩)), (18, (.val T22 a0)), (19, (.val T2 (len a0))), (20, (.val T2 v3)), (42, (.val T4 v))], [(0, .cells T33 v4), (1, .cells T33 (el Z33 a0 v3))]⟩) o
noncomputable def tourref2_Wrap.c2x (o : Bool) : Ex := (fun _ => .normal) o
noncomputable def tourref2_Wrap.c2n (o : Bool) : Nat := (fun _ => 2) o
theorem tourref2_Wrap.c2_ok (k : Nat) (a0 : (List V33)) (v3 : Int) (v4 : V33) : Owp (tourref2_Wrap.c2 k a0 v3 v4) fun o => Triple PR (tourref2_Wrap.cx k) (sub tourref2_Wrap.code [1, 1, 1, 0, 1, 0, 0, 1, 1, 0, 0, 1, 0]) 2 (tourref2_Wrap.c2p a0 v3 v4) (tourref2_Wrap.c2x o) (tourref2_Wrap.c2n o) (tourref2_Wrap.c2q a0 v3 v4 o) := by
  unfold tourref2_Wrap.c2; exact
   Owp.bif (fun e7 =>
   Owp.some (triple_way (tourref2_Wrap.cok k) hmix [.dec true, .dec true, .dec true, .dec true, .dec true, .dec true, .dec true, .dec true, .dec true, .dec true, .dec true, .dec true, .dec true, .dec true] [] [(0, 0), (1, 1)] (via (finP (And.intro (And.intro (And.intro (And.intro (And.intro (And.intro (And.intro (And.intro trivial e7) e7) e7) e7) e7) e7) e7) e7) .normal [(0, 0), (1, 1)] (tourref2_Wrap.c2q a0 v3 v4 true)) (by kernel_rfl)))) (fun e7 =>
   Owp.bif (fun e8 =>
    Owp.some (triple_way (tourref2_Wrap.cok k) hmix [.dec false, .dec false, .dec false, .dec false, .dec false, .dec false, .dec true, .dec true, .dec true, .dec true, .dec true, .dec false, .dec true, .dec false] [] [(0, 0), (1, 1)] (via (finP (And.intro (And.intro (And.intro (And.intro (And.intro (And.intro (And.intro (And.intro (And.intro (And.intro (And.intro (And.intro (And.intro trivial e7) e7) e7) e7) e7) e7) e8) e8) e8) e8) e8) (And.intro e7 e8)) e7) .normal [(0, 0), (1, 1)] (tourref2_Wrap.c2q a0 v3 v4 (ilt (el Z33 a0 v3).1 v4.1))) (by kernel_rfl)))) (fun e8 =>
    Owp.some (triple_way (tourref2_Wrap.cok k) hmix [.dec false, .dec false, .dec false, .dec false, .dec false, .dec false, .dec false, .dec false, .dec false, .dec false, .dec false, .dec false, .dec false, .dec false] [] [(0, 0), (1, 1)] (via (finP (And.intro (And.intro (And.intro (And.intro (And.intro (And.intro (And.intro (And.intro (And.intro (And.intro (And.intro (And.intro (And.intro trivial e7) e7) e7) e7) e7) e7) e8) e8) e8) e8) e8) (And.intro e7 e8)) e7) .normal [(0, 0), (1, 1)] (tourref2_Wrap.c2q a0 v3 v4 false)) (by kernel_rfl)))))
noncomputable def tourref2_Wrap.c1p (a0 : (List V33)) (v3 : Int) (v4 : V33) : SL := ⟨[(0, (.val T22 a0)), (3, (.val .ptr ⟨0, 0, (0 : Int), 0, 0⟩)), (18, (.val T22 a0)), (19, (.val T2 (len a0))), (20, (.val T2 v3))], [(0, .cells T33 v4)]⟩
noncomputable def tourref2_Wrap.c1q (a0 : (List V33)) (o : V33) : SL := (fun v => ⟨[(0, (.val T22 a0)), (3, (.val .ptr ⟨0, 0, (0 : Int), 0, 0⟩))], [(0, .cells T33 v)]⟩) o
noncomputable def tourref2_Wrap.c1x (o : V33) : Ex := (fun _ => (.exit 0)) o
noncomputable def tourref2_Wrap.c1n (o : V33) : Nat := (fun _ => 1) o
theorem tourref2_Wrap.c1_ok (k : Nat) (a0 : (List V33)) : ∀ (n : Nat) (v3 : Int) (v4 : V33), Owp (tourref2_Wrap.c1 k a0 n v3 v4) fun o => LTriple PR (tourref2_Wrap.cx k) (sub tourref2_Wrap.code [1, 1, 1, 0, 1, 0, 0]) 1 (tourref2_Wrap.c1p a0 v3 v4) (tourref2_Wrap.c1x o) (tourref2_Wrap.c1n o) (tourref2_Wrap.c1q a0 o)
  | 0, _, _ => fun _ h => nomatch h
  | n + 1, v3, v4 => Owp.of (tourref2_Wrap.c1.eq_2 ..) (
   Owp.bif (fun e5 =>
   Owp.req fun h6 =>
    Owp.bnd fun o9 e10 =>
    Owp.bif (fun e11 =>
    fun y hy => loop_back (tourref2_Wrap.cok k) hmix 1 (tourref2_Wrap.c1p a0 (iadd .i64 v3 (1 : Int)) (el Z33 a0 v3)) [.dec true, .cutR 7 ⟨[], [(0, 0), (1, 4)], (tourref2_Wrap.c2p a0 v3 v4), 2, .normal, (tourref2_Wrap.c2q a0 v3 v4 o9), 2⟩, .dec true] [] [(0, 0)] (via (cutP (And.intro (And.intro trivial e5) h6) [(0, 0), (1, 4)] (tourref2_Wrap.c2p a0 v3 v4) (((tourref2_Wrap.c2_ok k a0 v3 v4).ap e10)) (finP (And.intro trivial e11) .normal [(0, 0)] (tourref2_Wrap.c1p a0 (iadd .i64 v3 (1 : Int)) (el Z33 a0 v3)))) (by kernel_rfl)) ((tourref2_Wrap.c1_ok k a0 n (iadd .i64 v3 (1 : Int)) (el Z33 a0 v3)).ap hy)) (fun e11 =>
    fun y hy => loop_back (tourref2_Wrap.cok k) hmix 1 (tourref2_Wrap.c1p a0 (iadd .i64 v3 (1 : Int)) v4) [.dec true, .cutR 7 ⟨[], [(0, 0), (1, 4)], (tourref2_Wrap.c2p a0 v3 v4), 2, .normal, (tourref2_Wrap.c2q a0 v3 v4 o9), 2⟩, .dec false] [] [(0, 0)] (via (cutP (And.intro (And.intro trivial e5) h6) [(0, 0), (1, 4)] (tourref2_Wrap.c2p a0 v3 v4) (((tourref2_Wrap.c2_ok k a0 v3 v4).ap e10)) (finP (And.intro trivial e11) .normal [(0, 0)] (tourref2_Wrap.c1p a0 (iadd .i64 v3 (1 : Int)) v4))) (by kernel_rfl)) ((tourref2_Wrap.c1_ok k a0 n (iadd .i64 v3 (1 : Int)) v4).ap hy))) (fun e5 =>
   Owp.some (loop_exit (tourref2_Wrap.cok k) hmix [.dec false] [] [(0, 0)] (exne 0) (via (finP (And.intro trivial e5) (.exit 0) [(0, 0)] (tourref2_Wrap.c1q a0 v4)) (by kernel_rfl)))))
noncomputable def tourref2_Wrap.c5p (a0 : (List V33)) (o12 : V33) (v14 : (List V33)) (v17 : Int) (v18 : V33) : SL := ⟨[(0, (.val T22 a0)), (3, (.val .ptr ⟨0, 0, (0 : Int), 0, 0⟩)), (6, (.val .own (1 : Nat))), (7, (.val .ptr ⟨2, 0, (0 : Int), 0, 0⟩)), (8, (.val .ptr ⟨3, 0, (0 : Int), 0, 0⟩)), (10, (.val .ptr ⟨4, 0, (0 : Int), 0, 0⟩)), (11, (.val T2 (0 : Int))), (59, (.val T22 a0)), (60, (.val T2 (len a0))), (61, (.val T2 v17)), (70, (.val T4 (!(Ty.eqb T33 v18 (el Z33 v14 (isub .i64 (len v14) (1 : Int)))))))], [(0, .cells T33 o12), (1, .row T33 v14 34), (2, .cells T33 (el Z33 v14 (isub .i64 (len v14) (1 : Int)))), (3, .cells T33 v18), (4, .cells T33 (el Z33 a0 v17))]⟩
noncomputable def tourref2_Wrap.c5q (a0 : (List V33)) (o12 : V33) (v14 : (List V33)) (v17 : Int) (v18 : V33) (o : Int) : SL := (fun v => ⟨[(0, (.val T22 a0)), (3, (.val .ptr ⟨0, 0, (0 : Int), 0, 0⟩)), (6, (.val .own (1 : Nat))), (7, (.val .ptr ⟨2, 0, (0 : Int), 0, 0⟩)), (8, (.val .ptr ⟨3, 0, (0 : Int), 0, 0⟩)), (10, (.val .ptr ⟨4, 0, (0 : Int), 0, 0⟩)), (11, (.val T2 v)), (59, (.val T22 a0)), (60, (.val T2 (len a0))), (61, (.val T2 v17))], [(0, .cells T33 o12), (1, .row T33 v14 34), (2, .cells T33 (el Z33 v14 (isub .i64 (len v14) (1 : Int)))), (3, .cells T33 v18), (4, .cells T33 (el Z33 a0 v17))]⟩) o
noncomputable def tourref2_Wrap.c5x (o : Int) : Ex := (fun _ => .normal) o
noncomputable def tourref2_Wrap.c5n (o : Int) : Nat := (fun _ => 5) o
theorem tourref2_Wrap.c5_ok (k : Nat) (a0 : (List V33)) (o12 : V33) (v14 : (List V33)) (v17 : Int) (v18 : V33) : Owp (tourref2_Wrap.c5 k a0 v14 v17 v18) fun o => Triple PR (tourref2_Wrap.cx k) (sub tourref2_Wrap.code [1, 1, 1, 1, 1, 0, 0, 0, 1, 0, 1, 1, 0, 1, 0, 0, 1, 1, 0, 0, 1, 1, 1, 0, 1]) 5 (tourref2_Wrap.c5p a0 o12 v14 v17 v18) (tourref2_Wrap.c5x o) (tourref2_Wrap.c5n o) (tourref2_Wrap.c5q a0 o12 v14 v17 v18 o) := by
  unfold tourref2_Wrap.c5; exact
   Owp.bif (fun e22 =>
   Owp.some (triple_way (tourref2_Wrap.cok k) hmix [.dec false] [] [(0, 0), (1, 1), (2, 2), (3, 3), (4, 4)] (via (finP (And.intro trivial (congrArg not e22)) .normal [(0, 0), (1, 1), (2, 2), (3, 3), (4, 4)] (tourref2_Wrap.c5q a0 o12 v14 v17 v18 (0 : Int))) (by kernel_rfl)))) (fun e22 =>
   Owp.bnd fun y23 e24 =>
    Owp.some (triple_way (tourref2_Wrap.cok k) hmix [.dec true, .res (.one (.dp T2)) y23] [] [(0, 0), (1, 1), (2, 2), (3, 3), (4, 4)] (via (finP (And.intro (And.intro trivial (congrArg not e22)) e24) .normal [(0, 0), (1, 1), (2, 2), (3, 3), (4, 4)] (tourref2_Wrap.c5q a0 o12 v14 v17 v18 y23)) (by kernel_rfl))))
noncomputable def tourref2_Wrap.c6p (a0 : (List V33)) (o12 : V33) (o25 : Int) (v14 : (List V33)) (v17 : Int) (v18 : V33) : SL := ⟨[(0, (.val T22 a0)), (3, (.val .ptr ⟨0, 0, (0 : Int), 0, 0⟩)), (6, (.val .own (1 : Nat))), (7, (.val .ptr ⟨2, 0, (0 : Int), 0, 0⟩)), (8, (.val .ptr ⟨3, 0, (0 : Int), 0, 0⟩)), (10, (.val .ptr ⟨4, 0, (0 : Int), 0, 0⟩)), (11, (.val T2 o25)), (59, (.val T22 a0)), (60, (.val T2 (len a0))), (61, (.val T2 v17))], [(0, .cells T33 o12), (1, .row T33 v14 34), (2, .cells T33 (el Z33 v14 (isub .i64 (len v14) (1 : Int)))), (3, .cells T33 v18), (4, .cells T33 (el Z33 a0 v17))]⟩
noncomputable def tourref2_Wrap.c6q (a0 : (List V33)) (o12 : V33) (v14 : (List V33)) (v17 : Int) (v18 : V33) (o : Bool) : SL := (fun v => ⟨[(0, (.val T22 a0)), (3, (.val .ptr ⟨0, 0, (0 : Int), 0, 0⟩)), (6, (.val .own (1 : Nat))), (7, (.val .ptr ⟨2, 0, (0 : Int), 0, 0⟩)), (8, (.val .ptr ⟨3, 0, (0 : Int), 0, 0⟩)), (10, (.val .ptr ⟨4, 0, (0 : Int), 0, 0⟩)), (59, (.val T22 a0)), (60, (.val T2 (len a0))), (61, (.val T2 v17)), (103, (.val T4 v))], [(0, .cells T33 o12), (1, .row T33 v14 34), (2, .cells T33 (el Z33 v14 (isub .i64 (len v14) (1 : Int)))), (3, .cells T33 v18), (4, .cells T33 (el Z33 a0 v17))]⟩) o
noncomputable def tourref2_Wrap.c6x (o : Bool) : Ex := (fun _ => .normal) o
noncomputable def tourref2_Wrap.c6n (o : Bool) : Nat := (fun _ => 5) o
theorem tourref2_Wrap.c6_ok (k : Nat) (a0 : (List V33)) (o12 : V33) (o25 : Int) (v14 : (List V33)) (v17 : Int) (v18 : V33) : Owp (tourref2_Wrap.c6 k a0 o25 v14 v17 v18) fun o => Triple PR (tourref2_Wrap.cx k) (sub tourref2_Wrap.code [1, 1, 1, 1, 1, 0, 0, 0, 1, 0, 1, 1, 0, 1, 0, 0, 1, 1, 0, 0, 1, 1, 1, 1, 0]) 5 (tourref2_Wrap.c6p a0 o12 o25 v14 v17 v18) (tourref2_Wrap.c6x o) (tourref2_Wrap.c6n o) (tourref2_Wrap.c6q a0 o12 v14 v17 v18 o) := by
  unfold tourref2_Wrap.c6; exact
   Owp.bif (fun e27 =>
   Owp.some (triple_way (tourref2_Wrap.cok k) hmix [.dec true, .dec true, .dec true, .dec true, .dec true, .dec true, .dec true, .dec true, .dec true, .dec true, .dec true, .dec true, .dec true, .dec true, .dec true, .dec true, .dec true, .dec true, .dec true, .dec true, .dec true, .dec true, .dec true, .dec true, .dec true, .dec true, .dec true, .dec true, .dec true, .dec true, .dec true, .dec true] [] [(0, 0), (1, 1), (2, 2), (3, 3), (4, 4)] (via (finP (And.intro (And.intro (And.intro (And.intro (And.intro (And.intro (And.intro (And.intro trivial e27) e27) e27) tt) tt) tt) tt) tt) .normal [(0, 0), (1, 1), (2, 2), (3, 3), (4, 4)] (tourref2_Wrap.c6q a0 o12 v14 v17 v18 true)) (by kernel_rfl)))) (fun e27 =>
   Owp.bif (fun e28 =>
    Owp.some (triple_way (tourref2_Wrap.cok k) hmix [.dec false, .dec false, .dec false, .dec true, .dec true, .dec true, .dec true, .dec true, .dec true, .dec true, .dec true, .dec true, .dec true, .dec true, .dec true, .dec true, .dec true, .dec true, .dec true, .dec true, .dec true, .dec true, .dec true, .dec true, .dec true, .dec true, .dec true, .dec true, .dec true, .dec true, .dec true, .dec true] [] [(0, 0), (1, 1), (2, 2), (3, 3), (4, 4)] (via (finP (And.intro (And.intro (And.intro (And.intro (And.intro (And.intro (And.intro (And.intro trivial e27) e27) e27) e28) e28) e28) e28) e28) .normal [(0, 0), (1, 1), (2, 2), (3, 3), (4, 4)] (tourref2_Wrap.c6q a0 o12 v14 v17 v18 true)) (by kernel_rfl)))) (fun e28 =>
    Owp.bif (fun e29 =>
     Owp.bnd fun y30 e31 =>
      Owp.bnd fun y32 e33 =>
      Owp.bnd fun y34 e35 =>
      Owp.bnd fun y36 e37 =>
      Owp.bnd fun y38 e39 =>
      Owp.bnd fun y40 e41 =>
      Owp.bnd fun y42 e43 =>
      Owp.some (triple_way (tourref2_Wrap.cok k) hmix [.dec false, .dec false, .dec false, .dec false, .dec false, .dec false, .dec true, .dec true, .dec true, .res (.one (.dp T33)) y30, .dec true, .dec true, .dec true, .res (.one (.dp T33)) y32, .dec true, .res (.one (.dp T113)) y34, .dec true, .dec true, .dec true, .res (.one (.dp T33)) y36, .dec true, .dec true, .dec true, .res (.one (.dp T33)) y38, .dec true, .res (.one (.dp T113)) y40, .dec true, .res (.one (.dp T2)) y42, .dec true, .dec false, .dec true, .dec false] [] [(0, 0), (1, 1), (2, 2), (3, 3), (4, 4)] (via (finP (And.intro (And.intro (And.intro (And.intro (And.intro (And.intro (And.intro (And.intro (And.intro (And.intro (And.intro (And.intro (And.intro (And.intro (And.intro (And.intro (And.intro (And.intro (And.intro (And.intro (And.intro (And.intro (And.intro (And.intro trivial e27) e27) e27) e28) e28) e28) e29) e29) (And.intro e29 e31)) e29) e29) (And.intro e29 e33)) (And.intro e29 e35)) e29) e29) (And.intro e29 e37)) e29) e29) (And.intro e29 e39)) (And.intro e29 e41)) (And.intro e29 e43)) e29) (And.intro e28 e29)) e28) .normal [(0, 0), (1, 1), (2, 2), (3, 3), (4, 4)] (tourref2_Wrap.c6q a0 o12 v14 v17 v18 (igt y42 (0 : Int)))) (by kernel_rfl)))) (fun e29 =>
     Owp.some (triple_way (tourref2_Wrap.cok k) hmix [.dec false, .dec false, .dec false, .dec false, .dec false, .dec false, .dec false, .dec false, .dec false, .dec true, .dec false, .dec false, .dec false, .dec true, .dec false, .dec true, .dec false, .dec false, .dec false, .dec true, .dec false, .dec false, .dec false, .dec true, .dec false, .dec true, .dec false, .dec true, .dec false, .dec false, .dec false, .dec false] [] [(0, 0), (1, 1), (2, 2), (3, 3), (4, 4)] (via (finP (And.intro (And.intro (And.intro (And.intro (And.intro (And.intro (And.intro (And.intro (And.intro (And.intro (And.intro (And.intro (And.intro (And.intro (And.intro (And.intro (And.intro (And.intro (And.intro (And.intro (And.intro (And.intro (And.intro (And.intro trivial e27) e27) e27) e28) e28) e28) e29) e29) e29) e29) e29) e29) e29) e29) e29) e29) e29) e29) e29) e29) e29) e29) (And.intro e28 e29)) e28) .normal [(0, 0), (1, 1), (2, 2), (3, 3), (4, 4)] (tourref2_Wrap.c6q a0 o12 v14 v17 v18 false)) (by kernel_rfl))))))
noncomputable def tourref2_Wrap.c4p (a0 : (List V33)) (o12 : V33) (v14 : (List V33)) (v17 : Int) (v18 : V33) : SL := ⟨[(0, (.val T22 a0)), (3, (.val .ptr ⟨0, 0, (0 : Int), 0, 0⟩)), (6, (.val .own (1 : Nat))), (7, (.val .ptr ⟨2, 0, (0 : Int), 0, 0⟩)), (8, (.val .ptr ⟨3, 0, (0 : Int), 0, 0⟩)), (59, (.val T22 a0)), (60, (.val T2 (len a0))), (61, (.val T2 v17))], [(0, .cells T33 o12), (1, .row T33 v14 34), (2, .cells T33 (el Z33 v14 (isub .i64 (len v14) (1 : Int)))), (3, .cells T33 v18)]⟩
noncomputable def tourref2_Wrap.c4q (a0 : (List V33)) (o12 : V33) (v14 : (List V33)) (o : V33) : SL := (fun v => ⟨[(0, (.val T22 a0)), (3, (.val .ptr ⟨0, 0, (0 : Int), 0, 0⟩)), (6, (.val .own (1 : Nat))), (7, (.val .ptr ⟨2, 0, (0 : Int), 0, 0⟩)), (8, (.val .ptr ⟨3, 0, (0 : Int), 0, 0⟩))], [(0, .cells T33 o12), (1, .row T33 v14 34), (2, .cells T33 (el Z33 v14 (isub .i64 (len v14) (1 : Int)))), (3, .cells T33 v)]⟩) o
noncomputable def tourref2_Wrap.c4x (o : V33) : Ex := (fun _ => (.exit 4)) o
noncomputable def tourref2_Wrap.c4n (o : V33) : Nat := (fun _ => 4) o
theorem tourref2_Wrap.c4_ok (k : Nat) (a0 : (List V33)) (o12 : V33) (v14 : (List V33)) : ∀ (n : Nat) (v17 : Int) (v18 : V33), Owp (tourref2_Wrap.c4 k a0 v14 n v17 v18) fun o => LTriple PR (tourref2_Wrap.cx k) (sub tourref2_Wrap.code [1, 1, 1, 1, 1, 0, 0, 0, 1, 0, 1, 1, 0, 1, 0, 0]) 4 (tourref2_Wrap.c4p a0 o12 v14 v17 v18) (tourref2_Wrap.c4x o) (tourref2_Wrap.c4n o) (tourref2_Wrap.c4q a0 o12 v14 o)
  | 0, _, _ => fun _ h => nomatch h
  | n + 1, v17, v18 => Owp.of (tourref2_Wrap.c4.eq_2 ..) (
   Owp.bif (fun e19 =>
   Owp.req fun h20 =>
    Owp.bif (fun e21 =>
    fun y hy => loop_back (tourref2_Wrap.cok k) hmix 4 (tourref2_Wrap.c4p a0 o12 v14 (iadd .i64 v17 (1 : Int)) v18) [.dec true, .dec true] [] [(0, 0), (1, 1), (2, 2), (3, 3)] (via (finP (And.intro (And.intro (And.intro trivial e19) h20) e21) .normal [(0, 0), (1, 1), (2, 2), (3, 3)] (tourref2_Wrap.c4p a0 o12 v14 (iadd .i64 v17 (1 : Int)) v18)) (by kernel_rfl)) ((tourref2_Wrap.c4_ok k a0 o12 v14 n (iadd .i64 v17 (1 : Int)) v18).ap hy)) (fun e21 =>
    Owp.bnd fun o25 e26 =>
     Owp.bnd fun o44 e45 =>
     Owp.bif (fun e46 =>
     fun y hy => loop_back (tourref2_Wrap.cok k) hmix 4 (tourref2_Wrap.c4p a0 o12 v14 (iadd .i64 v17 (1 : Int)) (el Z33 a0 v17)) [.dec true, .dec false, .cut ⟨[], [(0, 0), (1, 1), (2, 2), (3, 3), (4, 7)], (tourref2_Wrap.c5p a0 o12 v14 v17 v18), 5, .normal, (tourref2_Wrap.c5q a0 o12 v14 v17 v18 o25), 5⟩, .cutR 21 ⟨[], [(0, 0), (1, 1), (2, 2), (3, 3), (4, 4)], (tourref2_Wrap.c6p a0 o12 o25 v14 v17 v18), 5, .normal, (tourref2_Wrap.c6q a0 o12 v14 v17 v18 o44), 5⟩, .dec true] [] [(0, 0), (1, 1), (2, 2), (3, 3)] (via (cutP (And.intro (And.intro (And.intro trivial e19) h20) e21) [(0, 0), (1, 1), (2, 2), (3, 3), (4, 7)] (tourref2_Wrap.c5p a0 o12 v14 v17 v18) (((tourref2_Wrap.c5_ok k a0 o12 v14 v17 v18).ap e26)) (cutP trivial [(0, 0), (1, 1), (2, 2), (3, 3), (4, 4)] (tourref2_Wrap.c6p a0 o12 o25 v14 v17 v18) (((tourref2_Wrap.c6_ok k a0 o12 o25 v14 v17 v18).ap e45)) (finP (And.intro trivial e46) .normal [(0, 0), (1, 1), (2, 2), (3, 3)] (tourref2_Wrap.c4p a0 o12 v14 (iadd .i64 v17 (1 : Int)) (el Z33 a0 v17))))) (by kernel_rfl)) ((tourref2_Wrap.c4_ok k a0 o12 v14 n (iadd .i64 v17 (1 : Int)) (el Z33 a0 v17)).ap hy)) (fun e46 =>
     fun y hy => loop_back (tourref2_Wrap.cok k) hmix 4 (tourref2_Wrap.c4p a0 o12 v14 (iadd .i64 v17 (1 : Int)) v18) [.dec true, .dec false, .cut ⟨[], [(0, 0), (1, 1), (2, 2), (3, 3), (4, 7)], (tourref2_Wrap.c5p a0 o12 v14 v17 v18), 5, .normal, (tourref2_Wrap.c5q a0 o12 v14 v17 v18 o25), 5⟩, .cutR 21 ⟨[], [(0, 0), (1, 1), (2, 2), (3, 3), (4, 4)], (tourref2_Wrap.c6p a0 o12 o25 v14 v17 v18), 5, .normal, (tourref2_Wrap.c6q a0 o12 v14 v17 v18 o44), 5⟩, .dec false] [] [(0, 0), (1, 1), (2, 2), (3, 3)] (via (cutP (And.intro (And.intro (And.intro trivial e19) h20) e21) [(0, 0), (1, 1), (2, 2), (3, 3), (4, 7)] (tourref2_Wrap.c5p a0 o12 v14 v17 v18) (((tourref2_Wrap.c5_ok k a0 o12 v14 v17 v18).ap e26)) (cutP trivial [(0, 0), (1, 1), (2, 2), (3, 3), (4, 4)] (tourref2_Wrap.c6p a0 o12 o25 v14 v17 v18) (((tourref2_Wrap.c6_ok k a0 o12 o25 v14 v17 v18).ap e45)) (finP (And.intro trivial e46) .normal [(0, 0), (1, 1), (2, 2), (3, 3)] (tourref2_Wrap.c4p a0 o12 v14 (iadd .i64 v17 (1 : Int)) v18)))) (by kernel_rfl)) ((tourref2_Wrap.c4_ok k a0 o12 v14 n (iadd .i64 v17 (1 : Int)) v18).ap hy)))) (fun e19 =>
   Owp.some (loop_exit (tourref2_Wrap.cok k) hmix [.dec false] [] [(0, 0), (1, 1), (2, 2), (3, 3)] (exne 4) (via (finP (And.intro trivial e19) (.exit 4) [(0, 0), (1, 1), (2, 2), (3, 3)] (tourref2_Wrap.c4q a0 o12 v14 v18)) (by kernel_rfl)))))
noncomputable def tourref2_Wrap.c7p (a0 : (List V33)) (o12 : V33) (o47 : V33) (v14 : (List V33)) : SL := ⟨[(0, (.val T22 a0)), (3, (.val .ptr ⟨0, 0, (0 : Int), 0, 0⟩)), (6, (.val .own (1 : Nat))), (7, (.val .ptr ⟨2, 0, (0 : Int), 0, 0⟩)), (8, (.val .ptr ⟨3, 0, (0 : Int), 0, 0⟩))], [(0, .cells T33 o12), (1, .row T33 v14 34), (2, .cells T33 (el Z33 v14 (isub .i64 (len v14) (1 : Int)))), (3, .cells T33 o47)]⟩
noncomputable def tourref2_Wrap.c7q (a0 : (List V33)) (o12 : V33) (o47 : V33) (v14 : (List V33)) (o : Bool) : SL := (fun v => ⟨[(0, (.val T22 a0)), (3, (.val .ptr ⟨0, 0, (0 : Int), 0, 0⟩)), (6, (.val .own (1 : Nat))), (8, (.val .ptr ⟨2, 0, (0 : Int), 0, 0⟩)), (113, (.val T4 v))], [(0, .cells T33 o12), (1, .row T33 v14 34), (2, .cells T33 o47)]⟩) o
noncomputable def tourref2_Wrap.c7x (o : Bool) : Ex := (fun _ => .normal) o
noncomputable def tourref2_Wrap.c7n (o : Bool) : Nat := (fun _ => 3) o
theorem tourref2_Wrap.c7_ok (k : Nat) (a0 : (List V33)) (o12 : V33) (o47 : V33) (v14 : (List V33)) : Owp (tourref2_Wrap.c7 k o12 o47 v14) fun o => Triple PR (tourref2_Wrap.cx k) (sub tourref2_Wrap.code [1, 1, 1, 1, 1, 0, 0, 0, 1, 0, 1, 1, 1, 0, 0]) 4 (tourref2_Wrap.c7p a0 o12 o47 v14) (tourref2_Wrap.c7x o) (tourref2_Wrap.c7n o) (tourref2_Wrap.c7q a0 o12 o47 v14 o) := by
  unfold tourref2_Wrap.c7; exact
   Owp.bif (fun e49 =>
   Owp.some (triple_way (tourref2_Wrap.cok k) hmix [.dec true, .dec true, .dec true, .dec true] [] [(0, 0), (1, 1), (2, 3)] (via (finP (And.intro (And.intro (And.intro (And.intro trivial e49) e49) e49) e49) .normal [(0, 0), (1, 1), (2, 3)] (tourref2_Wrap.c7q a0 o12 o47 v14 true)) (by kernel_rfl)))) (fun e49 =>
   Owp.some (triple_way (tourref2_Wrap.cok k) hmix [.dec false, .dec false, .dec false, .dec false] [] [(0, 0), (1, 1), (2, 3)] (via (finP (And.intro (And.intro (And.intro (And.intro trivial e49) e49) e49) e49) .normal [(0, 0), (1, 1), (2, 3)] (tourref2_Wrap.c7q a0 o12 o47 v14 (Ty.eqb T33 o47 (el Z33 v14 (isub .i64 (len v14) (1 : Int)))))) (by kernel_rfl))))
noncomputable def tourref2_Wrap.c3p (a0 : (List V33)) (o12 : V33) (v14 : (List V33)) : SL := ⟨[(0, (.val T22 a0)), (3, (.val .ptr ⟨0, 0, (0 : Int), 0, 0⟩)), (6, (.val .own (1 : Nat)))], [(0, .cells T33 o12), (1, .row T33 v14 34)]⟩
noncomputable def tourref2_Wrap.c3q (o : (List V33)) : SL := (fun v => ⟨[(6, (.val .own (0 : Nat)))], [(0, .row T33 v 34)]⟩) o
noncomputable def tourref2_Wrap.c3x (o : (List V33)) : Ex := (fun _ => (.exit 2)) o
noncomputable def tourref2_Wrap.c3n (o : (List V33)) : Nat := (fun _ => 1) o
theorem tourref2_Wrap.c3_ok (k : Nat) (a0 : (List V33)) (o12 : V33) : ∀ (n : Nat) (v14 : (List V33)), Owp (tourref2_Wrap.c3 k a0 o12 n v14) fun o => LTriple PR (tourref2_Wrap.cx k) (sub tourref2_Wrap.code [1, 1, 1, 1, 1, 0, 0, 0]) 2 (tourref2_Wrap.c3p a0 o12 v14) (tourref2_Wrap.c3x o) (tourref2_Wrap.c3n o) (tourref2_Wrap.c3q o)
  | 0, _ => fun _ h => nomatch h
  | n + 1, v14 => Owp.of (tourref2_Wrap.c3.eq_2 ..) (
   Owp.bif (fun e15 =>
   Owp.req fun h16 =>
    Owp.bnd fun o47 e48 =>
    Owp.bnd fun o50 e51 =>
    Owp.bif (fun e52 =>
    Owp.some (loop_exit (tourref2_Wrap.cok k) hmix [.dec true, .cut ⟨[], [(0, 0), (1, 1), (2, 13), (3, 16)], (tourref2_Wrap.c4p a0 o12 v14 (0 : Int) (el Z33 v14 (isub .i64 (len v14) (1 : Int)))), 4, (.exit 4), (tourref2_Wrap.c4q a0 o12 v14 o47), 4⟩, .cutR 24 ⟨[], [(0, 0), (1, 1), (2, 2), (3, 3)], (tourref2_Wrap.c7p a0 o12 o47 v14), 4, .normal, (tourref2_Wrap.c7q a0 o12 o47 v14 o50), 3⟩, .dec true] [] [(0, 1)] (exne 2) (via (cutP (And.intro (And.intro (And.intro trivial e15) h16) h16) [(0, 0), (1, 1), (2, 13), (3, 16)] (tourref2_Wrap.c4p a0 o12 v14 (0 : Int) (el Z33 v14 (isub .i64 (len v14) (1 : Int)))) (((tourref2_Wrap.c4_ok k a0 o12 v14 k (0 : Int) (el Z33 v14 (isub .i64 (len v14) (1 : Int)))).ap e48).triple) (cutP trivial [(0, 0), (1, 1), (2, 2), (3, 3)] (tourref2_Wrap.c7p a0 o12 o47 v14) (((tourref2_Wrap.c7_ok k a0 o12 o47 v14).ap e51)) (finP (And.intro trivial e52) (.exit 2) [(0, 1)] (tourref2_Wrap.c3q v14)))) (by kernel_rfl)))) (fun e52 =>
    Owp.req fun h53 =>
     fun y hy => loop_back (tourref2_Wrap.cok k) hmix 2 (tourref2_Wrap.c3p a0 o12 (v14 ++ [o47])) [.dec true, .cut ⟨[], [(0, 0), (1, 1), (2, 13), (3, 16)], (tourref2_Wrap.c4p a0 o12 v14 (0 : Int) (el Z33 v14 (isub .i64 (len v14) (1 : Int)))), 4, (.exit 4), (tourref2_Wrap.c4q a0 o12 v14 o47), 4⟩, .cutR 24 ⟨[], [(0, 0), (1, 1), (2, 2), (3, 3)], (tourref2_Wrap.c7p a0 o12 o47 v14), 4, .normal, (tourref2_Wrap.c7q a0 o12 o47 v14 o50), 3⟩, .dec false, .dec true] [] [(0, 0), (1, 6)] (via (cutP (And.intro (And.intro (And.intro trivial e15) h16) h16) [(0, 0), (1, 1), (2, 13), (3, 16)] (tourref2_Wrap.c4p a0 o12 v14 (0 : Int) (el Z33 v14 (isub .i64 (len v14) (1 : Int)))) (((tourref2_Wrap.c4_ok k a0 o12 v14 k (0 : Int) (el Z33 v14 (isub .i64 (len v14) (1 : Int)))).ap e48).triple) (cutP trivial [(0, 0), (1, 1), (2, 2), (3, 3)] (tourref2_Wrap.c7p a0 o12 o47 v14) (((tourref2_Wrap.c7_ok k a0 o12 o47 v14).ap e51)) (finP (And.intro (And.intro trivial e52) h53) .normal [(0, 0), (1, 6)] (tourref2_Wrap.c3p a0 o12 (v14 ++ [o47]))))) (by kernel_rfl)) ((tourref2_Wrap.c3_ok k a0 o12 n (v14 ++ [o47])).ap hy))) (fun e15 =>
   Owp.some (loop_exit (tourref2_Wrap.cok k) hmix [.dec false] [] [(0, 1)] (exne 2) (via (finP (And.intro trivial e15) (.exit 2) [(0, 1)] (tourref2_Wrap.c3q v14)) (by kernel_rfl)))))
theorem tourref2_Wrap.way (k : Nat) (a0 : (List V33)) : Owp (tourref2_Wrap k a0) fun y => ∃ answers cmds, exec PR (tourref2_Wrap.cx k) tourref2_Wrap.code 0 (entry (.pair T22 .unit) (a0, ())).st answers (Ret (tourref2_Wrap.cx k) Try.f59 cmds (.one (.ow T33 34)) y) := by
  unfold tourref2_Wrap; exact
   Owp.bif (fun e1 =>
   Owp.some (⟨[.dec true], [.own 2 T33 34], via (retP (And.intro trivial e1) (.one (.ow T33 34)) ([] : (List V33))) (by kernel_rfl)⟩)) (fun e1 =>
   Owp.req fun h2 =>
    Owp.bnd fun o12 e13 =>
    Owp.bnd fun o54 e55 =>
    Owp.some (⟨[.dec false, .cut ⟨[], [(0, 7)], (tourref2_Wrap.c1p a0 (0 : Int) (el Z33 a0 (0 : Int))), 1, (.exit 0), (tourref2_Wrap.c1q a0 o12), 1⟩, .dec true, .cut ⟨[], [(0, 0), (1, 2)], (tourref2_Wrap.c3p a0 o12 [o12]), 2, (.exit 2), (tourref2_Wrap.c3q o54), 1⟩], [], via (cutP (And.intro (And.intro trivial e1) h2) [(0, 7)] (tourref2_Wrap.c1p a0 (0 : Int) (el Z33 a0 (0 : Int))) (((tourref2_Wrap.c1_ok k a0 k (0 : Int) (el Z33 a0 (0 : Int))).ap e13).triple) (cutP trivial [(0, 0), (1, 2)] (tourref2_Wrap.c3p a0 o12 [o12]) (((tourref2_Wrap.c3_ok k a0 o12 k [o12]).ap e55).triple) (retP trivial (.one (.ow T33 34)) (o54 : (List V33))))) (by kernel_rfl)⟩))
theorem tourref2_Wrap.ok (k : Nat) : FnOk PR 59 (tourref2_Wrap.sp k) :=
  fn_ok (tourref2_Wrap.cok k) hmix Try.func59 (code := tourref2_Wrap.code) (by kernel_rfl) (by kernel_rfl) (by kernel_rfl) rfl (by kernel_rfl) (by kernel_rfl) (by kernel_rfl) (fun x => Nat.le_of_ble_eq_true (by kernel_rfl)) fun x y hy => (tourref2_Wrap.way k x.1).ap hy

/-! tourney/tourref2.Minus -/
noncomputable def tourref2_Minus.code : Code := Func.cd Try.f16
def tourref2_Minus.c2 (k : Nat) (a0 : (List V33)) (a1 : (List V33)) (v1 : Int) : Nat → Int → (List V33) → Option ((List V33))
  | 0, _, _ => none
  | n + 1, v5, v6 =>
   bif' (ilt v5 (len a1))
   (req (inL v5 a1) <|
    bnd (tourref2_sub k (el Z33 a0 v1) (el Z33 a1 v5)) fun y9 =>
    req (room 16 v6 [y9]) <|
    tourref2_Minus.c2 k a0 a1 v1 n (iadd .i64 v5 1) (v6 ++ [y9]))
   (some v6)
def tourref2_Minus.c1 (k : Nat) (a0 : (List V33)) (a1 : (List V33)) : Nat → Int → (List V33) → Option ((List V33))
  | 0, _, _ => none
  | n + 1, v1, v2 =>
   bif' (ilt v1 (len a0))
   (req (inL v1 a0) <|
    bnd (tourref2_Minus.c2 k a0 a1 v1 k 0 v2) fun o12 =>
    tourref2_Minus.c1 k a0 a1 n (iadd .i64 v1 1) o12)
   (some v2)
def tourref2_Minus (k : Nat) (a0 : (List V33)) (a1 : (List V33)) : Option (List V33) :=
  bnd (tourref2_Minus.c1 k a0 a1 k 0 []) fun o14 =>
  bnd (tourref2_Wrap k o14) fun y16 =>
  some y16
noncomputable def tourref2_Minus.sp (k : Nat) : Go.Sx.Spec := ⟨(.pair T22 (.pair T22 .unit)), (.one (.ow T33 34)), fun x => tourref2_Minus k x.1 x.2.1, false⟩
noncomputable def tourref2_Minus.cx (k : Nat) : Go.Sx.Ctx := ⟨tys, [(58, tourref2_sub.sp k), (59, tourref2_Wrap.sp k)], eqs, 32, false⟩
theorem tourref2_Minus.cok (k : Nat) : CtxOk PR (tourref2_Minus.cx k) := ctx_ok tysOk eqsOk (FnsOk.cons (tourref2_sub.ok k) (FnsOk.cons (tourref2_Wrap.ok k) FnsOk.nil))
noncomputable def tourref2_Minus.c2p (a0 : (List V33)) (a1 : (List V33)) (v1 : Int) (v5 : Int) (v6 : (List V33)) : SL := ⟨[(1, (.val T22 a1)), (5, (.val .own (0 : Nat))), (7, (.val .ptr ⟨1, 0, (0 : Int), 0, 0⟩)), (10, (.val T22 a0)), (11, (.val T2 (len a0))), (12, (.val T2 v1)), (16, (.val T22 a1)), (17, (.val T2 (len a1))), (18, (.val T2 v5))], [(0, .row T33 v6 34), (1, .cells T33 (el Z33 a0 v1))]⟩
noncomputable def tourref2_Minus.c2q (a0 : (List V33)) (a1 : (List V33)) (v1 : Int) (o : (List V33)) : SL := (fun v => ⟨[(1, (.val T22 a1)), (5, (.val .own (0 : Nat))), (10, (.val T22 a0)), (11, (.val T2 (len a0))), (12, (.val T2 v1))], [(0, .row T33 v 34)]⟩) o
noncomputable def tourref2_Minus.c2x (o : (List V33)) : Ex := (fun _ => (.exit 2)) o
noncomputable def tourref2_Minus.c2n (o : (List V33)) : Nat := (fun _ => 1) o
theorem tourref2_Minus.c2_ok (k : Nat) (a0 : (List V33)) (a1 : (List V33)) (v1 : Int) : ∀ (n : Nat) (v5 : Int) (v6 : (List V33)), Owp (tourref2_Minus.c2 k a0 a1 v1 n v5 v6) fun o => LTriple PR (tourref2_Minus.cx k) (sub tourref2_Minus.code [1, 1, 0, 1, 0, 0, 1, 1, 0, 0, 1, 1, 0, 0]) 2 (tourref2_Minus.c2p a0 a1 v1 v5 v6) (tourref2_Minus.c2x o) (tourref2_Minus.c2n o) (tourref2_Minus.c2q a0 a1 v1 o)
  | 0, _, _ => fun _ h => nomatch h
  | n + 1, v5, v6 => Owp.of (tourref2_Minus.c2.eq_2 ..) (
   Owp.bif (fun e7 =>
   Owp.req fun h8 =>
    Owp.bnd fun y9 e10 =>
    Owp.req fun h11 =>
    fun y hy => loop_back (tourref2_Minus.cok k) hmix 2 (tourref2_Minus.c2p a0 a1 v1 (iadd .i64 v5 (1 : Int)) (v6 ++ [y9])) [.dec true, .res (.one (.dp T33)) y9, .dec true] [] [(0, 12), (1, 1)] (via (finP (And.intro (And.intro (And.intro (And.intro trivial e7) h8) e10) h11) .normal [(0, 12), (1, 1)] (tourref2_Minus.c2p a0 a1 v1 (iadd .i64 v5 (1 : Int)) (v6 ++ [y9]))) (by kernel_rfl)) ((tourref2_Minus.c2_ok k a0 a1 v1 n (iadd .i64 v5 (1 : Int)) (v6 ++ [y9])).ap hy)) (fun e7 =>
   Owp.some (loop_exit (tourref2_Minus.cok k) hmix [.dec false] [] [(0, 0)] (exne 2) (via (finP (And.intro trivial e7) (.exit 2) [(0, 0)] (tourref2_Minus.c2q a0 a1 v1 v6)) (by kernel_rfl)))))
noncomputable def tourref2_Minus.c1p (a0 : (List V33)) (a1 : (List V33)) (v1 : Int) (v2 : (List V33)) : SL := ⟨[(1, (.val T22 a1)), (5, (.val .own (0 : Nat))), (10, (.val T22 a0)), (11, (.val T2 (len a0))), (12, (.val T2 v1))], [(0, .row T33 v2 34)]⟩
noncomputable def tourref2_Minus.c1q (o : (List V33)) : SL := (fun v => ⟨[(5, (.val .own (0 : Nat)))], [(0, .row T33 v 34)]⟩) o
noncomputable def tourref2_Minus.c1x (o : (List V33)) : Ex := (fun _ => (.exit 0)) o
noncomputable def tourref2_Minus.c1n (o : (List V33)) : Nat := (fun _ => 1) o
theorem tourref2_Minus.c1_ok (k : Nat) (a0 : (List V33)) (a1 : (List V33)) : ∀ (n : Nat) (v1 : Int) (v2 : (List V33)), Owp (tourref2_Minus.c1 k a0 a1 n v1 v2) fun o => LTriple PR (tourref2_Minus.cx k) (sub tourref2_Minus.code [1, 1, 0, 1, 0, 0]) 1 (tourref2_Minus.c1p a0 a1 v1 v2) (tourref2_Minus.c1x o) (tourref2_Minus.c1n o) (tourref2_Minus.c1q o)
  | 0, _, _ => fun _ h => nomatch h
  | n + 1, v1, v2 => Owp.of (tourref2_Minus.c1.eq_2 ..) (
   Owp.bif (fun e3 =>
   Owp.req fun h4 =>
    Owp.bnd fun o12 e13 =>
    fun y hy => loop_back (tourref2_Minus.cok k) hmix 1 (tourref2_Minus.c1p a0 a1 (iadd .i64 v1 (1 : Int)) o12) [.dec true, .cut ⟨[], [(0, 0), (1, 4)], (tourref2_Minus.c2p a0 a1 v1 (0 : Int) v2), 2, (.exit 2), (tourref2_Minus.c2q a0 a1 v1 o12), 1⟩] [] [(0, 0)] (via (cutP (And.intro (And.intro trivial e3) h4) [(0, 0), (1, 4)] (tourref2_Minus.c2p a0 a1 v1 (0 : Int) v2) (((tourref2_Minus.c2_ok k a0 a1 v1 k (0 : Int) v2).ap e13).triple) (finP trivial .normal [(0, 0)] (tourref2_Minus.c1p a0 a1 (iadd .i64 v1 (1 : Int)) o12))) (by kernel_rfl)) ((tourref2_Minus.c1_ok k a0 a1 n (iadd .i64 v1 (1 : Int)) o12).ap hy)) (fun e3 =>
   Owp.some (loop_exit (tourref2_Minus.cok k) hmix [.dec false] [] [(0, 0)] (exne 0) (via (finP (And.intro trivial e3) (.exit 0) [(0, 0)] (tourref2_Minus.c1q v2)) (by kernel_rfl)))))
theorem tourref2_Minus.way (k : Nat) (a0 : (List V33)) (a1 : (List V33)) : Owp (tourref2_Minus k a0 a1) fun y => ∃ answers cmds, exec PR (tourref2_Minus.cx k) tourref2_Minus.code 0 (entry (.pair T22 (.pair T22 .unit)) (a0, a1, ())).st answers (Ret (tourref2_Minus.cx k) Try.f16 cmds (.one (.ow T33 34)) y) := by
  unfold tourref2_Minus; exact
   Owp.bnd fun o14 e15 =>
   Owp.bnd fun y16 e17 =>
   Owp.some (⟨[.cut ⟨[.own 5 T33 34], [(0, 5)], (tourref2_Minus.c1p a0 a1 (0 : Int) []), 1, (.exit 0), (tourref2_Minus.c1q o14), 1⟩, .res (.one (.ow T33 34)) y16], [], via (cutP trivial [(0, 5)] (tourref2_Minus.c1p a0 a1 (0 : Int) []) (((tourref2_Minus.c1_ok k a0 a1 k (0 : Int) []).ap e15).triple) (retP (And.intro trivial e17) (.one (.ow T33 34)) (y16 : (List V33)))) (by kernel_rfl)⟩)
theorem tourref2_Minus.ok (k : Nat) : FnOk PR 16 (tourref2_Minus.sp k) :=
  fn_ok (tourref2_Minus.cok k) hmix Try.func16 (code := tourref2_Minus.code) (by kernel_rfl) (by kernel_rfl) (by kernel_rfl) rfl (by kernel_rfl) (by kernel_rfl) (by kernel_rfl) (fun x => Nat.le_of_ble_eq_true (by kernel_rfl)) fun x y hy => (tourref2_Minus.way k x.1 x.2.1).ap hy

/-! tourney/tourref2.cross$1 -/
noncomputable def tourref2_cross_1.code : Code := Func.cd Try.f104
def tourref2_cross_1 (k : Nat) (a0 : V33) (a1 : V33) (a2 : V33) (a3 : Int) : Option Bool :=
  bif' (ieq a3 0)
  (bif' (ile (imin a0.1 a1.1) a2.1)
   (bif' (ile a2.1 (imax a0.1 a1.1))
    (bif' (ile (imin a0.2.1 a1.2.1) a2.2.1)
     (some (ile a2.2.1 (imax a0.2.1 a1.2.1)))
     (some false))
    (some false))
   (some false))
  (some false)
noncomputable def tourref2_cross_1.sp (k : Nat) : Go.Sx.Spec := ⟨(.pair T33 (.pair T33 (.pair T33 (.pair T2 .unit)))), (.one (.dp T4)), fun x => tourref2_cross_1 k x.1 x.2.1 x.2.2.1 x.2.2.2.1, false⟩
noncomputable def tourref2_cross_1.cx (k : Nat) : Go.Sx.Ctx := ⟨tys, [], eqs, 51, false⟩
theorem tourref2_cross_1.cok (k : Nat) : CtxOk PR (tourref2_cross_1.cx k) := ctx_ok tysOk eqsOk FnsOk.nil
theorem tourref2_cross_1.way (k : Nat) (a0 : V33) (a1 : V33) (a2 : V33) (a3 : Int) : Owp (tourref2_cross_1 k a0 a1 a2 a3) fun y => ∃ answers cmds, exec PR (tourref2_cross_1.cx k) tourref2_cross_1.code 0 (entry (.pair T33 (.pair T33 (.pair T33 (.pair T2 .unit)))) (a0, a1, a2, a3, ())).st answers (Ret (tourref2_cross_1.cx k) Try.f104 cmds (.one (.dp T4)) y) := by
  unfold tourref2_cross_1; exact
   Owp.bif (fun e1 =>
   Owp.bif (fun e2 =>
    Owp.bif (fun e3 =>
     Owp.bif (fun e4 =>
      Owp.some (⟨[.dec true, .dec true, .dec true, .dec true, .dec true, .dec true, .dec true, .dec true, .dec true, .dec true, .dec true, .dec true, .dec true, .dec true, .dec true, .dec true, .dec true, .dec true, .dec true, .dec true, .dec true, .dec true, .dec true, .dec true, .dec true, .dec true, .dec true, .dec true, .dec true, .dec true, .dec true, .dec true, .dec true, .dec true, .dec true, .dec true], [], via (retP (And.intro (And.intro (And.intro (And.intro (And.intro (And.intro (And.intro (And.intro (And.intro (And.intro (And.intro (And.intro (And.intro (And.intro (And.intro (And.intro (And.intro (And.intro (And.intro (And.intro (And.intro (And.intro (And.intro (And.intro (And.intro (And.intro (And.intro (And.intro (And.intro (And.intro (And.intro (And.intro (And.intro (And.intro (And.intro (And.intro trivial e1) e1) e1) e1) e1) e1) e1) e1) e1) e2) e2) e2) e2) e2) e2) e2) e2) e2) e3) e3) e3) e3) e3) e3) e3) e3) e3) e4) e4) e4) e4) e4) e4) e4) e4) e4) (.one (.dp T4)) ((ile a2.2.1 (imax a0.2.1 a1.2.1)) : Bool)) (by kernel_rfl)⟩)) (fun e4 =>
      Owp.some (⟨[.dec true, .dec true, .dec true, .dec true, .dec true, .dec true, .dec true, .dec true, .dec true, .dec true, .dec true, .dec true, .dec true, .dec true, .dec true, .dec true, .dec true, .dec true, .dec true, .dec true, .dec true, .dec true, .dec true, .dec true, .dec true, .dec true, .dec true, .dec false, .dec false, .dec false, .dec false, .dec false, .dec false, .dec false, .dec false, .dec false], [], via (retP (And.intro (And.intro (And.intro (And.intro (And.intro (And.intro (And.intro (And.intro (And.intro (And.intro (And.intro (And.intro (And.intro (And.intro (And.intro (And.intro (And.intro (And.intro (And.intro (And.intro (And.intro (And.intro (And.intro (And.intro (And.intro (And.intro (And.intro (And.intro (And.intro (And.intro (And.intro (And.intro (And.intro (And.intro (And.intro (And.intro trivial e1) e1) e1) e1) e1) e1) e1) e1) e1) e2) e2) e2) e2) e2) e2) e2) e2) e2) e3) e3) e3) e3) e3) e3) e3) e3) e3) e4) e4) e4) e4) e4) e4) e4) e4) e4) (.one (.dp T4)) (false : Bool)) (by kernel_rfl)⟩))) (fun e3 =>
     Owp.some (⟨[.dec true, .dec true, .dec true, .dec true, .dec true, .dec true, .dec true, .dec true, .dec true, .dec true, .dec true, .dec true, .dec true, .dec true, .dec true, .dec true, .dec true, .dec true, .dec false, .dec false, .dec false, .dec false, .dec false, .dec false, .dec false, .dec false, .dec false, .dec false, .dec false, .dec false, .dec false, .dec false, .dec false, .dec false, .dec false, .dec false], [], via (retP (And.intro (And.intro (And.intro (And.intro (And.intro (And.intro (And.intro (And.intro (And.intro (And.intro (And.intro (And.intro (And.intro (And.intro (And.intro (And.intro (And.intro (And.intro (And.intro (And.intro (And.intro (And.intro (And.intro (And.intro (And.intro (And.intro (And.intro (And.intro (And.intro (And.intro (And.intro (And.intro (And.intro (And.intro (And.intro (And.intro trivial e1) e1) e1) e1) e1) e1) e1) e1) e1) e2) e2) e2) e2) e2) e2) e2) e2) e2) e3) e3) e3) e3) e3) e3) e3) e3) e3) ff) ff) ff) ff) ff) ff) ff) ff) ff) (.one (.dp T4)) (false : Bool)) (by kernel_rfl)⟩))) (fun e2 =>
    Owp.some (⟨[.dec true, .dec true, .dec true, .dec true, .dec true, .dec true, .dec true, .dec true, .dec true, .dec false, .dec false, .dec false, .dec false, .dec false, .dec false, .dec false, .dec false, .dec false, .dec false, .dec false, .dec false, .dec false, .dec false, .dec false, .dec false, .dec false, .dec false, .dec false, .dec false, .dec false, .dec false, .dec false, .dec false, .dec false, .dec false, .dec false], [], via (retP (And.intro (And.intro (And.intro (And.intro (And.intro (And.intro (And.intro (And.intro (And.intro (And.intro (And.intro (And.intro (And.intro (And.intro (And.intro (And.intro (And.intro (And.intro (And.intro (And.intro (And.intro (And.intro (And.intro (And.intro (And.intro (And.intro (And.intro (And.intro (And.intro (And.intro (And.intro (And.intro (And.intro (And.intro (And.intro (And.intro trivial e1) e1) e1) e1) e1) e1) e1) e1) e1) e2) e2) e2) e2) e2) e2) e2) e2) e2) ff) ff) ff) ff) ff) ff) ff) ff) ff) ff) ff) ff) ff) ff) ff) ff) ff) ff) (.one (.dp T4)) (false : Bool)) (by kernel_rfl)⟩))) (fun e1 =>
   Owp.some (⟨[.dec false, .dec false, .dec false, .dec false, .dec false, .dec false, .dec false, .dec false, .dec false, .dec false, .dec false, .dec false, .dec false, .dec false, .dec false, .dec false, .dec false, .dec false, .dec false, .dec false, .dec false, .dec false, .dec false, .dec false, .dec false, .dec false, .dec false, .dec false, .dec false, .dec false, .dec false, .dec false, .dec false, .dec false, .dec false, .dec false], [], via (retP (And.intro (And.intro (And.intro (And.intro (And.intro (And.intro (And.intro (And.intro (And.intro (And.intro (And.intro (And.intro (And.intro (And.intro (And.intro (And.intro (And.intro (And.intro (And.intro (And.intro (And.intro (And.intro (And.intro (And.intro (And.intro (And.intro (And.intro (And.intro (And.intro (And.intro (And.intro (And.intro (And.intro (And.intro (And.intro (And.intro trivial e1) e1) e1) e1) e1) e1) e1) e1) e1) ff) ff) ff) ff) ff) ff) ff) ff) ff) ff) ff) ff) ff) ff) ff) ff) ff) ff) ff) ff) ff) ff) ff) ff) ff) ff) ff) (.one (.dp T4)) (false : Bool)) (by kernel_rfl)⟩))
theorem tourref2_cross_1.ok (k : Nat) : FnOk PR 104 (tourref2_cross_1.sp k) :=
  fn_ok (tourref2_cross_1.cok k) hmix Try.func104 (code := tourref2_cross_1.code) (by kernel_rfl) (by kernel_rfl) (by kernel_rfl) rfl (by kernel_rfl) (by kernel_rfl) (by kernel_rfl) (fun x => Nat.le_of_ble_eq_true (by kernel_rfl)) fun x y hy => (tourref2_cross_1.way k x.1 x.2.1 x.2.2.1 x.2.2.2.1).ap hy

/-! tourney/tourref2.cross -/
noncomputable def tourref2_cross.code : Code := Func.cd Try.f61
def tourref2_cross.c1 (k : Nat) (y1 : Int) (y3 : Int) (y5 : Int) (y7 : Int) : Option (Bool) :=
  bif' (ilt (imul .i64 y1 y3) 0)
  (some (ilt (imul .i64 y5 y7) 0))
  (some false)
def tourref2_cross (k : Nat) (a0 : V33) (a1 : V33) (a2 : V33) (a3 : V33) : Option Bool :=
  bnd (tourref2_left k a0 a1 a2) fun y1 =>
  bnd (tourref2_left k a0 a1 a3) fun y3 =>
  bnd (tourref2_left k a2 a3 a0) fun y5 =>
  bnd (tourref2_left k a2 a3 a1) fun y7 =>
  bnd (tourref2_cross.c1 k y1 y3 y5 y7) fun o10 =>
  bif' o10
  (some true)
  (bnd (tourref2_cross_1 k a0 a1 a2 y1) fun y13 =>
   bif' y13
   (some true)
   (bnd (tourref2_cross_1 k a0 a1 a3 y3) fun y16 =>
    bif' y16
    (some true)
    (bnd (tourref2_cross_1 k a2 a3 a0 y5) fun y19 =>
     bif' y19
     (some true)
     (bnd (tourref2_cross_1 k a2 a3 a1 y7) fun y22 =>
      some y22))))
noncomputable def tourref2_cross.sp (k : Nat) : Go.Sx.Spec := ⟨(.pair T33 (.pair T33 (.pair T33 (.pair T33 .unit)))), (.one (.dp T4)), fun x => tourref2_cross k x.1 x.2.1 x.2.2.1 x.2.2.2.1, false⟩
noncomputable def tourref2_cross.cx (k : Nat) : Go.Sx.Ctx := ⟨tys, [(101, tourref2_left.sp k), (104, tourref2_cross_1.sp k)], eqs, 70, false⟩
theorem tourref2_cross.cok (k : Nat) : CtxOk PR (tourref2_cross.cx k) := ctx_ok tysOk eqsOk (FnsOk.cons (tourref2_left.ok k) (FnsOk.cons (tourref2_cross_1.ok k) FnsOk.nil))
noncomputable def tourref2_cross.c1p (a0 : V33) (a1 : V33) (a2 : V33) (a3 : V33) (y1 : Int) (y3 : Int) (y5 : Int) (y7 : Int) : SL := ⟨[(4, (.val .ptr ⟨0, 0, (0 : Int), 0, 0⟩)), (5, (.val .ptr ⟨1, 0, (0 : Int), 0, 0⟩)), (6, (.val .ptr ⟨2, 0, (0 : Int), 0, 0⟩)), (7, (.val .ptr ⟨3, 0, (0 : Int), 0, 0⟩)), (9, (.val T2 y1)), (10, (.val T2 y3)), (11, (.val T2 y5)), (12, (.val T2 y7))], [(0, .cells T33 a0), (1, .cells T33 a1), (2, .cells T33 a2), (3, .cells T33 a3)]⟩
noncomputable def tourref2_cross.c1q (a0 : V33) (a1 : V33) (a2 : V33) (a3 : V33) (y1 : Int) (y3 : Int) (y5 : Int) (y7 : Int) (o : Bool) : SL := (fun v => ⟨[(4, (.val .ptr ⟨0, 0, (0 : Int), 0, 0⟩)), (5, (.val .ptr ⟨1, 0, (0 : Int), 0, 0⟩)), (6, (.val .ptr ⟨2, 0, (0 : Int), 0, 0⟩)), (7, (.val .ptr ⟨3, 0, (0 : Int), 0, 0⟩)), (9, (.val T2 y1)), (10, (.val T2 y3)), (11, (.val T2 y5)), (12, (.val T2 y7)), (39, (.val T4 v))], [(0, .cells T33 a0), (1, .cells T33 a1), (2, .cells T33 a2), (3, .cells T33 a3)]⟩) o
noncomputable def tourref2_cross.c1x (o : Bool) : Ex := (fun _ => .normal) o
noncomputable def tourref2_cross.c1n (o : Bool) : Nat := (fun _ => 4) o
theorem tourref2_cross.c1_ok (k : Nat) (a0 : V33) (a1 : V33) (a2 : V33) (a3 : V33) (y1 : Int) (y3 : Int) (y5 : Int) (y7 : Int) : Owp (tourref2_cross.c1 k y1 y3 y5 y7) fun o => Triple PR (tourref2_cross.cx k) (sub tourref2_cross.code [1, 1, 0, 0]) 4 (tourref2_cross.c1p a0 a1 a2 a3 y1 y3 y5 y7) (tourref2_cross.c1x o) (tourref2_cross.c1n o) (tourref2_cross.c1q a0 a1 a2 a3 y1 y3 y5 y7 o) := by
  unfold tourref2_cross.c1; exact
   Owp.bif (fun e9 =>
   Owp.some (triple_way (tourref2_cross.cok k) hmix [.dec true, .dec true, .dec true, .dec true, .dec true] [] [(0, 0), (1, 1), (2, 2), (3, 3)] (via (finP (And.intro (And.intro (And.intro (And.intro (And.intro trivial e9) e9) e9) e9) e9) .normal [(0, 0), (1, 1), (2, 2), (3, 3)] (tourref2_cross.c1q a0 a1 a2 a3 y1 y3 y5 y7 (ilt (imul .i64 y5 y7) (0 : Int)))) (by kernel_rfl)))) (fun e9 =>
   Owp.some (triple_way (tourref2_cross.cok k) hmix [.dec false, .dec false, .dec false, .dec false, .dec false] [] [(0, 0), (1, 1), (2, 2), (3, 3)] (via (finP (And.intro (And.intro (And.intro (And.intro (And.intro trivial e9) e9) e9) e9) e9) .normal [(0, 0), (1, 1), (2, 2), (3, 3)] (tourref2_cross.c1q a0 a1 a2 a3 y1 y3 y5 y7 false)) (by kernel_rfl))))
theorem tourref2_cross.way (k : Nat) (a0 : V33) (a1 : V33) (a2 : V33) (a3 : V33) : Owp (tourref2_cross k a0 a1 a2 a3) fun y => ∃ answers cmds, exec PR (tourref2_cross.cx k) tourref2_cross.code 0 (entry (.pair T33 (.pair T33 (.pair T33 (.pair T33 .unit)))) (a0, a1, a2, a3, ())).st answers (Ret (tourref2_cross.cx k) Try.f61 cmds (.one (.dp T4)) y) := by
  unfold tourref2_cross; exact
   Owp.bnd fun y1 e2 =>
   Owp.bnd fun y3 e4 =>
   Owp.bnd fun y5 e6 =>
   Owp.bnd fun y7 e8 =>
   Owp.bnd fun o10 e11 =>
   Owp.bif (fun e12 =>
   Owp.some (⟨[.res (.one (.dp T2)) y1, .res (.one (.dp T2)) y3, .res (.one (.dp T2)) y5, .res (.one (.dp T2)) y7, .cutR 2 ⟨[], [(0, 0), (1, 1), (2, 2), (3, 3)], (tourref2_cross.c1p a0 a1 a2 a3 y1 y3 y5 y7), 4, .normal, (tourref2_cross.c1q a0 a1 a2 a3 y1 y3 y5 y7 o10), 4⟩, .dec true], [], via (cutP (And.intro (And.intro (And.intro (And.intro trivial e2) e4) e6) e8) [(0, 0), (1, 1), (2, 2), (3, 3)] (tourref2_cross.c1p a0 a1 a2 a3 y1 y3 y5 y7) (((tourref2_cross.c1_ok k a0 a1 a2 a3 y1 y3 y5 y7).ap e11)) (retP (And.intro trivial e12) (.one (.dp T4)) (true : Bool))) (by kernel_rfl)⟩)) (fun e12 =>
   Owp.bnd fun y13 e14 =>
    Owp.bif (fun e15 =>
    Owp.some (⟨[.res (.one (.dp T2)) y1, .res (.one (.dp T2)) y3, .res (.one (.dp T2)) y5, .res (.one (.dp T2)) y7, .cutR 2 ⟨[], [(0, 0), (1, 1), (2, 2), (3, 3)], (tourref2_cross.c1p a0 a1 a2 a3 y1 y3 y5 y7), 4, .normal, (tourref2_cross.c1q a0 a1 a2 a3 y1 y3 y5 y7 o10), 4⟩, .dec false, .res (.one (.dp T4)) y13, .dec true, .dec true, .dec true, .dec true, .dec true, .dec true, .dec true, .dec true, .dec true, .dec true, .dec true, .dec true, .dec true, .dec true, .dec true, .dec true, .dec true, .dec true, .dec true, .dec true, .dec true, .dec true, .dec true, .dec true], [], via (cutP (And.intro (And.intro (And.intro (And.intro trivial e2) e4) e6) e8) [(0, 0), (1, 1), (2, 2), (3, 3)] (tourref2_cross.c1p a0 a1 a2 a3 y1 y3 y5 y7) (((tourref2_cross.c1_ok k a0 a1 a2 a3 y1 y3 y5 y7).ap e11)) (retP (And.intro (And.intro (And.intro (And.intro (And.intro (And.intro (And.intro (And.intro (And.intro (And.intro (And.intro (And.intro (And.intro (And.intro (And.intro (And.intro (And.intro (And.intro (And.intro (And.intro (And.intro (And.intro (And.intro trivial e12) e14) e15) e15) e15) e15) e15) e15) e15) tt) tt) tt) tt) tt) tt) tt) tt) tt) tt) tt) tt) tt) tt) (.one (.dp T4)) (true : Bool))) (by kernel_rfl)⟩)) (fun e15 =>
    Owp.bnd fun y16 e17 =>
     Owp.bif (fun e18 =>
     Owp.some (⟨[.res (.one (.dp T2)) y1, .res (.one (.dp T2)) y3, .res (.one (.dp T2)) y5, .res (.one (.dp T2)) y7, .cutR 2 ⟨[], [(0, 0), (1, 1), (2, 2), (3, 3)], (tourref2_cross.c1p a0 a1 a2 a3 y1 y3 y5 y7), 4, .normal, (tourref2_cross.c1q a0 a1 a2 a3 y1 y3 y5 y7 o10), 4⟩, .dec false, .res (.one (.dp T4)) y13, .dec false, .dec false, .dec false, .dec false, .dec false, .dec false, .res (.one (.dp T4)) y16, .dec false, .dec true, .dec true, .dec true, .dec true, .dec true, .dec true, .dec true, .dec true, .dec true, .dec true, .dec true, .dec true, .dec true, .dec true, .dec true, .dec true], [], via (cutP (And.intro (And.intro (And.intro (And.intro trivial e2) e4) e6) e8) [(0, 0), (1, 1), (2, 2), (3, 3)] (tourref2_cross.c1p a0 a1 a2 a3 y1 y3 y5 y7) (((tourref2_cross.c1_ok k a0 a1 a2 a3 y1 y3 y5 y7).ap e11)) (retP (And.intro (And.intro (And.intro (And.intro (And.intro (And.intro (And.intro (And.intro (And.intro (And.intro (And.intro (And.intro (And.intro (And.intro (And.intro (And.intro (And.intro (And.intro (And.intro (And.intro (And.intro (And.intro (And.intro trivial e12) e14) e15) e15) e15) e15) e15) (And.intro e15 e17)) e15) e18) e18) e18) e18) e18) e18) e18) tt) tt) tt) tt) tt) tt) tt) (.one (.dp T4)) (true : Bool))) (by kernel_rfl)⟩)) (fun e18 =>
     Owp.bnd fun y19 e20 =>
      Owp.bif (fun e21 =>
      Owp.some (⟨[.res (.one (.dp T2)) y1, .res (.one (.dp T2)) y3, .res (.one (.dp T2)) y5, .res (.one (.dp T2)) y7, .cutR 2 ⟨[], [(0, 0), (1, 1), (2, 2), (3, 3)], (tourref2_cross.c1p a0 a1 a2 a3 y1 y3 y5 y7), 4, .normal, (tourref2_cross.c1q a0 a1 a2 a3 y1 y3 y5 y7 o10), 4⟩, .dec false, .res (.one (.dp T4)) y13, .dec false, .dec false, .dec false, .dec false, .dec false, .dec false, .res (.one (.dp T4)) y16, .dec false, .dec false, .dec false, .dec false, .dec false, .dec false, .dec false, .res (.one (.dp T4)) y19, .dec false, .dec true, .dec true, .dec true, .dec true, .dec true, .dec true, .dec true, .dec true], [], via (cutP (And.intro (And.intro (And.intro (And.intro trivial e2) e4) e6) e8) [(0, 0), (1, 1), (2, 2), (3, 3)] (tourref2_cross.c1p a0 a1 a2 a3 y1 y3 y5 y7) (((tourref2_cross.c1_ok k a0 a1 a2 a3 y1 y3 y5 y7).ap e11)) (retP (And.intro (And.intro (And.intro (And.intro (And.intro (And.intro (And.intro (And.intro (And.intro (And.intro (And.intro (And.intro (And.intro (And.intro (And.intro (And.intro (And.intro (And.intro (And.intro (And.intro (And.intro (And.intro (And.intro trivial e12) e14) e15) e15) e15) e15) e15) (And.intro e15 e17)) e15) e18) e18) e18) e18) e18) (And.intro e18 e20)) e18) e21) e21) e21) e21) e21) e21) e21) (.one (.dp T4)) (true : Bool))) (by kernel_rfl)⟩)) (fun e21 =>
      Owp.bnd fun y22 e23 =>
       Owp.some (⟨[.res (.one (.dp T2)) y1, .res (.one (.dp T2)) y3, .res (.one (.dp T2)) y5, .res (.one (.dp T2)) y7, .cutR 2 ⟨[], [(0, 0), (1, 1), (2, 2), (3, 3)], (tourref2_cross.c1p a0 a1 a2 a3 y1 y3 y5 y7), 4, .normal, (tourref2_cross.c1q a0 a1 a2 a3 y1 y3 y5 y7 o10), 4⟩, .dec false, .res (.one (.dp T4)) y13, .dec false, .dec false, .dec false, .dec false, .dec false, .dec false, .res (.one (.dp T4)) y16, .dec false, .dec false, .dec false, .dec false, .dec false, .dec false, .dec false, .res (.one (.dp T4)) y19, .dec false, .dec false, .dec false, .dec false, .dec false, .dec false, .dec false, .res (.one (.dp T4)) y22, .dec false], [], via (cutP (And.intro (And.intro (And.intro (And.intro trivial e2) e4) e6) e8) [(0, 0), (1, 1), (2, 2), (3, 3)] (tourref2_cross.c1p a0 a1 a2 a3 y1 y3 y5 y7) (((tourref2_cross.c1_ok k a0 a1 a2 a3 y1 y3 y5 y7).ap e11)) (retP (And.intro (And.intro (And.intro (And.intro (And.intro (And.intro (And.intro (And.intro (And.intro (And.intro (And.intro (And.intro (And.intro (And.intro (And.intro (And.intro (And.intro (And.intro (And.intro (And.intro (And.intro (And.intro (And.intro trivial e12) e14) e15) e15) e15) e15) e15) (And.intro e15 e17)) e15) e18) e18) e18) e18) e18) (And.intro e18 e20)) e18) e21) e21) e21) e21) e21) (And.intro e21 e23)) e21) (.one (.dp T4)) (y22 : Bool))) (by kernel_rfl)⟩)))))
theorem tourref2_cross.ok (k : Nat) : FnOk PR 61 (tourref2_cross.sp k) :=
  fn_ok (tourref2_cross.cok k) hmix Try.func61 (code := tourref2_cross.code) (by kernel_rfl) (by kernel_rfl) (by kernel_rfl) rfl (by kernel_rfl) (by kernel_rfl) (by kernel_rfl) (fun x => Nat.le_of_ble_eq_true (by kernel_rfl)) fun x y hy => (tourref2_cross.way k x.1 x.2.1 x.2.2.1 x.2.2.2.1).ap hy

/-! tourney/tourref2.Meet -/
noncomputable def tourref2_Meet.code : Code := Func.cd Try.f17
def tourref2_Meet.c1 (k : Nat) (a0 : (List V33)) (a1 : (List V33)) : Option (Bool) :=
  req (inL 0 a1) <|
  bnd (tourref2_Inside k a0 (el Z33 a1 0)) fun y2 =>
  bif' y2
  (some true)
  (req (inL 0 a0) <|
   bnd (tourref2_Inside k a1 (el Z33 a0 0)) fun y6 =>
   some y6)
def tourref2_Meet.c3 (k : Nat) (a0 : (List V33)) (a1 : (List V33)) (v11 : Int) : Nat → Int → Option (Unit ⊕ Unit)
  | 0, _ => none
  | n + 1, v14 =>
   bif' (ilt v14 (len a1))
   (req (inL v14 a1) <|
    req (nz (len a0)) <|
    req (inL (irem (iadd .i64 v11 1) (len a0)) a0) <|
    req (nz (len a1)) <|
    req (inL (irem (iadd .i64 v14 1) (len a1)) a1) <|
    bnd (tourref2_cross k (el Z33 a0 v11) (el Z33 a0 (irem (iadd .i64 v11 1) (len a0))) (el Z33 a1 v14) (el Z33 a1 (irem (iadd .i64 v14 1) (len a1)))) fun y21 =>
    bif' y21
    (some (.inl ()))
    (tourref2_Meet.c3 k a0 a1 v11 n (iadd .i64 v14 1)))
   (some (.inr ()))
def tourref2_Meet.c2 (k : Nat) (a0 : (List V33)) (a1 : (List V33)) : Nat → Int → Option (Unit ⊕ Unit)
  | 0, _ => none
  | n + 1, v11 =>
   bif' (ilt v11 (len a0))
   (req (inL v11 a0) <|
    bnd (tourref2_Meet.c3 k a0 a1 v11 k 0) fun o24 =>
    two o24 (fun y26 =>
    some (.inl ())) (fun y28 =>
    tourref2_Meet.c2 k a0 a1 n (iadd .i64 v11 1)))
   (some (.inr ()))
def tourref2_Meet (k : Nat) (a0 : (List V33)) (a1 : (List V33)) : Option Bool :=
  bnd (tourref2_Meet.c1 k a0 a1) fun o8 =>
  bif' o8
  (some true)
  (bnd (tourref2_Meet.c2 k a0 a1 k 0) fun o30 =>
   two o30 (fun y32 =>
   some true) (fun y34 =>
   some false))
noncomputable def tourref2_Meet.sp (k : Nat) : Go.Sx.Spec := ⟨(.pair T22 (.pair T22 .unit)), (.one (.dp T4)), fun x => tourref2_Meet k x.1 x.2.1, false⟩
noncomputable def tourref2_Meet.cx (k : Nat) : Go.Sx.Ctx := ⟨tys, [(60, tourref2_Inside.sp k), (61, tourref2_cross.sp k)], eqs, 56, false⟩
theorem tourref2_Meet.cok (k : Nat) : CtxOk PR (tourref2_Meet.cx k) := ctx_ok tysOk eqsOk (FnsOk.cons (tourref2_Inside.ok k) (FnsOk.cons (tourref2_cross.ok k) FnsOk.nil))
noncomputable def tourref2_Meet.c1p (a0 : (List V33)) (a1 : (List V33)) : SL := ⟨[(0, (.val T22 a0)), (1, (.val T22 a1))], []⟩
noncomputable def tourref2_Meet.c1q (a0 : (List V33)) (a1 : (List V33)) (o : Bool) : SL := (fun v => ⟨[(0, (.val T22 a0)), (1, (.val T22 a1)), (20, (.val T4 v))], []⟩) o
noncomputable def tourref2_Meet.c1x (o : Bool) : Ex := (fun _ => .normal) o
noncomputable def tourref2_Meet.c1n (o : Bool) : Nat := (fun _ => 0) o
theorem tourref2_Meet.c1_ok (k : Nat) (a0 : (List V33)) (a1 : (List V33)) : Owp (tourref2_Meet.c1 k a0 a1) fun o => Triple PR (tourref2_Meet.cx k) (sub tourref2_Meet.code [1, 0, 0]) 0 (tourref2_Meet.c1p a0 a1) (tourref2_Meet.c1x o) (tourref2_Meet.c1n o) (tourref2_Meet.c1q a0 a1 o) := by
  unfold tourref2_Meet.c1; exact
   Owp.req fun h1 =>
   Owp.bnd fun y2 e3 =>
   Owp.bif (fun e4 =>
   Owp.some (triple_way (tourref2_Meet.cok k) hmix [.res (.one (.dp T4)) y2, .dec true, .dec true, .dec true, .dec true, .dec true, .dec true, .dec true] [] [] (via (finP (And.intro (And.intro (And.intro (And.intro (And.intro (And.intro (And.intro (And.intro trivial h1) e3) e4) e4) e4) e4) e4) e4) .normal [] (tourref2_Meet.c1q a0 a1 true)) (by kernel_rfl)))) (fun e4 =>
   Owp.req fun h5 =>
    Owp.bnd fun y6 e7 =>
    Owp.some (triple_way (tourref2_Meet.cok k) hmix [.res (.one (.dp T4)) y2, .dec false, .dec false, .dec false, .dec false, .dec false, .res (.one (.dp T4)) y6, .dec false] [] [] (via (finP (And.intro (And.intro (And.intro (And.intro (And.intro (And.intro (And.intro (And.intro trivial h1) e3) e4) e4) (And.intro e4 h5)) e4) (And.intro e4 e7)) e4) .normal [] (tourref2_Meet.c1q a0 a1 y6)) (by kernel_rfl))))
noncomputable def tourref2_Meet.c3p (a0 : (List V33)) (a1 : (List V33)) (v11 : Int) (v14 : Int) : SL := ⟨[(0, (.val T22 a0)), (1, (.val T22 a1)), (5, (.val T2 v11)), (6, (.val .ptr ⟨0, 0, (0 : Int), 0, 0⟩)), (21, (.val T22 a0)), (22, (.val T2 (len a0))), (23, (.val T2 v11)), (28, (.val T22 a1)), (29, (.val T2 (len a1))), (30, (.val T2 v14))], [(0, .cells T33 (el Z33 a0 v11))]⟩
noncomputable def tourref2_Meet.c3q (a0 : (List V33)) (a1 : (List V33)) (v11 : Int) (o : Unit ⊕ Unit) : SL := (fun o => two o (fun v => ⟨[(4, (.val T4 true))], []⟩) (fun v => ⟨[(0, (.val T22 a0)), (1, (.val T22 a1)), (21, (.val T22 a0)), (22, (.val T2 (len a0))), (23, (.val T2 v11))], []⟩)) o
noncomputable def tourref2_Meet.c3x (o : Unit ⊕ Unit) : Ex := (fun o => two o (fun _ => .ret) (fun _ => (.exit 2))) o
noncomputable def tourref2_Meet.c3n (o : Unit ⊕ Unit) : Nat := (fun o => two o (fun _ => 0) (fun _ => 0)) o
theorem tourref2_Meet.c3_ok (k : Nat) (a0 : (List V33)) (a1 : (List V33)) (v11 : Int) : ∀ (n : Nat) (v14 : Int), Owp (tourref2_Meet.c3 k a0 a1 v11 n v14) fun o => LTriple PR (tourref2_Meet.cx k) (sub tourref2_Meet.code [1, 1, 0, 1, 0, 0, 1, 1, 0, 0, 1, 1, 0, 0]) 1 (tourref2_Meet.c3p a0 a1 v11 v14) (tourref2_Meet.c3x o) (tourref2_Meet.c3n o) (tourref2_Meet.c3q a0 a1 v11 o)
  | 0, _ => fun _ h => nomatch h
  | n + 1, v14 => Owp.of (tourref2_Meet.c3.eq_2 ..) (
   Owp.bif (fun e15 =>
   Owp.req fun h16 =>
    Owp.req fun h17 =>
    Owp.req fun h18 =>
    Owp.req fun h19 =>
    Owp.req fun h20 =>
    Owp.bnd fun y21 e22 =>
    Owp.bif (fun e23 =>
    Owp.some (loop_exit (tourref2_Meet.cok k) hmix [.dec true, .res (.one (.dp T4)) y21, .dec true] [] [] exne_ret (via (finP (And.intro (And.intro (And.intro (And.intro (And.intro (And.intro (And.intro (And.intro trivial e15) h16) h17) h18) h19) h20) e22) e23) .ret [] (tourref2_Meet.c3q a0 a1 v11 (.inl ()))) (by kernel_rfl)))) (fun e23 =>
    fun y hy => loop_back (tourref2_Meet.cok k) hmix 1 (tourref2_Meet.c3p a0 a1 v11 (iadd .i64 v14 (1 : Int))) [.dec true, .res (.one (.dp T4)) y21, .dec false] [] [(0, 0)] (via (finP (And.intro (And.intro (And.intro (And.intro (And.intro (And.intro (And.intro (And.intro trivial e15) h16) h17) h18) h19) h20) e22) e23) .normal [(0, 0)] (tourref2_Meet.c3p a0 a1 v11 (iadd .i64 v14 (1 : Int)))) (by kernel_rfl)) ((tourref2_Meet.c3_ok k a0 a1 v11 n (iadd .i64 v14 (1 : Int))).ap hy))) (fun e15 =>
   Owp.some (loop_exit (tourref2_Meet.cok k) hmix [.dec false] [] [] (exne 2) (via (finP (And.intro trivial e15) (.exit 2) [] (tourref2_Meet.c3q a0 a1 v11 (.inr ()))) (by kernel_rfl)))))
noncomputable def tourref2_Meet.c2p (a0 : (List V33)) (a1 : (List V33)) (v11 : Int) : SL := ⟨[(0, (.val T22 a0)), (1, (.val T22 a1)), (21, (.val T22 a0)), (22, (.val T2 (len a0))), (23, (.val T2 v11))], []⟩
noncomputable def tourref2_Meet.c2q (o : Unit ⊕ Unit) : SL := (fun o => two o (fun v => ⟨[(4, (.val T4 true))], []⟩) (fun v => ⟨[], []⟩)) o
noncomputable def tourref2_Meet.c2x (o : Unit ⊕ Unit) : Ex := (fun o => two o (fun _ => .ret) (fun _ => (.exit 0))) o
noncomputable def tourref2_Meet.c2n (o : Unit ⊕ Unit) : Nat := (fun o => two o (fun _ => 0) (fun _ => 0)) o
theorem tourref2_Meet.c2_ok (k : Nat) (a0 : (List V33)) (a1 : (List V33)) : ∀ (n : Nat) (v11 : Int), Owp (tourref2_Meet.c2 k a0 a1 n v11) fun o => LTriple PR (tourref2_Meet.cx k) (sub tourref2_Meet.code [1, 1, 0, 1, 0, 0]) 0 (tourref2_Meet.c2p a0 a1 v11) (tourref2_Meet.c2x o) (tourref2_Meet.c2n o) (tourref2_Meet.c2q o)
  | 0, _ => fun _ h => nomatch h
  | n + 1, v11 => Owp.of (tourref2_Meet.c2.eq_2 ..) (
   Owp.bif (fun e12 =>
   Owp.req fun h13 =>
    Owp.bnd fun o24 e25 =>
    Owp.two (fun y26 e27 =>
    Owp.some (loop_exit (tourref2_Meet.cok k) hmix [.dec true, .cut ⟨[], [(0, 4)], (tourref2_Meet.c3p a0 a1 v11 (0 : Int)), 1, .ret, (tourref2_Meet.c3q a0 a1 v11 (.inl ())), 0⟩] [] [] exne_ret (via (cutP (And.intro (And.intro trivial e12) h13) [(0, 4)] (tourref2_Meet.c3p a0 a1 v11 (0 : Int)) (((tourref2_Meet.c3_ok k a0 a1 v11 k (0 : Int)).ap (e25.trans (congrArg some e27))).triple) (finP trivial .ret [] (tourref2_Meet.c2q (.inl ())))) (by kernel_rfl)))) (fun y28 e29 =>
    fun y hy => loop_back (tourref2_Meet.cok k) hmix 0 (tourref2_Meet.c2p a0 a1 (iadd .i64 v11 (1 : Int))) [.dec true, .cut ⟨[], [(0, 4)], (tourref2_Meet.c3p a0 a1 v11 (0 : Int)), 1, (.exit 2), (tourref2_Meet.c3q a0 a1 v11 (.inr ())), 0⟩] [] [] (via (cutP (And.intro (And.intro trivial e12) h13) [(0, 4)] (tourref2_Meet.c3p a0 a1 v11 (0 : Int)) (((tourref2_Meet.c3_ok k a0 a1 v11 k (0 : Int)).ap (e25.trans (congrArg some e29))).triple) (finP trivial .normal [] (tourref2_Meet.c2p a0 a1 (iadd .i64 v11 (1 : Int))))) (by kernel_rfl)) ((tourref2_Meet.c2_ok k a0 a1 n (iadd .i64 v11 (1 : Int))).ap hy))) (fun e12 =>
   Owp.some (loop_exit (tourref2_Meet.cok k) hmix [.dec false] [] [] (exne 0) (via (finP (And.intro trivial e12) (.exit 0) [] (tourref2_Meet.c2q (.inr ()))) (by kernel_rfl)))))
theorem tourref2_Meet.way (k : Nat) (a0 : (List V33)) (a1 : (List V33)) : Owp (tourref2_Meet k a0 a1) fun y => ∃ answers cmds, exec PR (tourref2_Meet.cx k) tourref2_Meet.code 0 (entry (.pair T22 (.pair T22 .unit)) (a0, a1, ())).st answers (Ret (tourref2_Meet.cx k) Try.f17 cmds (.one (.dp T4)) y) := by
  unfold tourref2_Meet; exact
   Owp.bnd fun o8 e9 =>
   Owp.bif (fun e10 =>
   Owp.some (⟨[.cutR 1 ⟨[], [], (tourref2_Meet.c1p a0 a1), 0, .normal, (tourref2_Meet.c1q a0 a1 o8), 0⟩, .dec true], [], via (cutP trivial [] (tourref2_Meet.c1p a0 a1) (((tourref2_Meet.c1_ok k a0 a1).ap e9)) (retP (And.intro trivial e10) (.one (.dp T4)) (true : Bool))) (by kernel_rfl)⟩)) (fun e10 =>
   Owp.bnd fun o30 e31 =>
    Owp.two (fun y32 e33 =>
    Owp.some (⟨[.cutR 1 ⟨[], [], (tourref2_Meet.c1p a0 a1), 0, .normal, (tourref2_Meet.c1q a0 a1 o8), 0⟩, .dec false, .cut ⟨[], [], (tourref2_Meet.c2p a0 a1 (0 : Int)), 0, .ret, (tourref2_Meet.c2q (.inl ())), 0⟩], [], via (cutP trivial [] (tourref2_Meet.c1p a0 a1) (((tourref2_Meet.c1_ok k a0 a1).ap e9)) (cutP (And.intro trivial e10) [] (tourref2_Meet.c2p a0 a1 (0 : Int)) (((tourref2_Meet.c2_ok k a0 a1 k (0 : Int)).ap (e31.trans (congrArg some e33))).triple) (retP trivial (.one (.dp T4)) (true : Bool)))) (by kernel_rfl)⟩)) (fun y34 e35 =>
    Owp.some (⟨[.cutR 1 ⟨[], [], (tourref2_Meet.c1p a0 a1), 0, .normal, (tourref2_Meet.c1q a0 a1 o8), 0⟩, .dec false, .cut ⟨[], [], (tourref2_Meet.c2p a0 a1 (0 : Int)), 0, (.exit 0), (tourref2_Meet.c2q (.inr ())), 0⟩], [], via (cutP trivial [] (tourref2_Meet.c1p a0 a1) (((tourref2_Meet.c1_ok k a0 a1).ap e9)) (cutP (And.intro trivial e10) [] (tourref2_Meet.c2p a0 a1 (0 : Int)) (((tourref2_Meet.c2_ok k a0 a1 k (0 : Int)).ap (e31.trans (congrArg some e35))).triple) (retP trivial (.one (.dp T4)) (false : Bool)))) (by kernel_rfl)⟩)))
theorem tourref2_Meet.ok (k : Nat) : FnOk PR 17 (tourref2_Meet.sp k) :=
  fn_ok (tourref2_Meet.cok k) hmix Try.func17 (code := tourref2_Meet.code) (by kernel_rfl) (by kernel_rfl) (by kernel_rfl) rfl (by kernel_rfl) (by kernel_rfl) (by kernel_rfl) (fun x => Nat.le_of_ble_eq_true (by kernel_rfl)) fun x y hy => (tourref2_Meet.way k x.1 x.2.1).ap hy

/-! tourney/tourref2.Root -/
noncomputable def tourref2_Root.code : Code := Func.cd Try.f105
def tourref2_Root.c2 (k : Nat) (a0 : Int) (v1 : Int) (v2 : Int) : Option (Int) :=
  bif' (ile (imul .i64 (iadd .i64 v1 v2) (iadd .i64 v1 v2)) a0)
  (some (iadd .i64 v1 v2))
  (some v1)
def tourref2_Root.c1 (k : Nat) (a0 : Int) : Nat → Int → Int → Option (Int)
  | 0, _, _ => none
  | n + 1, v1, v2 =>
   bif' (igt v2 0)
   (bnd (tourref2_Root.c2 k a0 v1 v2) fun o5 =>
    tourref2_Root.c1 k a0 n o5 (iquo .i64 v2 2))
   (some v1)
def tourref2_Root (k : Nat) (a0 : Int) : Option Int :=
  bnd (tourref2_Root.c1 k a0 k 0 1073741824) fun o7 =>
  some o7
noncomputable def tourref2_Root.sp (k : Nat) : Go.Sx.Spec := ⟨(.pair T2 .unit), (.one (.dp T2)), fun x => tourref2_Root k x.1, false⟩
noncomputable def tourref2_Root.cx (k : Nat) : Go.Sx.Ctx := ⟨tys, [], eqs, 22, false⟩
theorem tourref2_Root.cok (k : Nat) : CtxOk PR (tourref2_Root.cx k) := ctx_ok tysOk eqsOk FnsOk.nil
noncomputable def tourref2_Root.c2p (a0 : Int) (v1 : Int) (v2 : Int) : SL := ⟨[(0, (.val T2 a0)), (3, (.val T2 v1)), (4, (.val T2 v2)), (17, (.val T4 (ile (imul .i64 (iadd .i64 v1 v2) (iadd .i64 v1 v2)) a0)))], []⟩
noncomputable def tourref2_Root.c2q (a0 : Int) (v2 : Int) (o : Int) : SL := (fun v => ⟨[(0, (.val T2 a0)), (3, (.val T2 v)), (4, (.val T2 v2))], []⟩) o
noncomputable def tourref2_Root.c2x (o : Int) : Ex := (fun _ => .normal) o
noncomputable def tourref2_Root.c2n (o : Int) : Nat := (fun _ => 0) o
theorem tourref2_Root.c2_ok (k : Nat) (a0 : Int) (v1 : Int) (v2 : Int) : Owp (tourref2_Root.c2 k a0 v1 v2) fun o => Triple PR (tourref2_Root.cx k) (sub tourref2_Root.code [1, 1, 0, 1, 0, 0, 1, 0, 0, 1]) 0 (tourref2_Root.c2p a0 v1 v2) (tourref2_Root.c2x o) (tourref2_Root.c2n o) (tourref2_Root.c2q a0 v2 o) := by
  unfold tourref2_Root.c2; exact
   Owp.bif (fun e4 =>
   Owp.some (triple_way (tourref2_Root.cok k) hmix [.dec true] [] [] (via (finP (And.intro trivial e4) .normal [] (tourref2_Root.c2q a0 v2 (iadd .i64 v1 v2))) (by kernel_rfl)))) (fun e4 =>
   Owp.some (triple_way (tourref2_Root.cok k) hmix [.dec false] [] [] (via (finP (And.intro trivial e4) .normal [] (tourref2_Root.c2q a0 v2 v1)) (by kernel_rfl))))
noncomputable def tourref2_Root.c1p (a0 : Int) (v1 : Int) (v2 : Int) : SL := ⟨[(0, (.val T2 a0)), (3, (.val T2 v1)), (4, (.val T2 v2))], []⟩
noncomputable def tourref2_Root.c1q (o : Int) : SL := (fun v => ⟨[(3, (.val T2 v))], []⟩) o
noncomputable def tourref2_Root.c1x (o : Int) : Ex := (fun _ => (.exit 0)) o
noncomputable def tourref2_Root.c1n (o : Int) : Nat := (fun _ => 0) o
theorem tourref2_Root.c1_ok (k : Nat) (a0 : Int) : ∀ (n : Nat) (v1 : Int) (v2 : Int), Owp (tourref2_Root.c1 k a0 n v1 v2) fun o => LTriple PR (tourref2_Root.cx k) (sub tourref2_Root.code [1, 1, 0, 1, 0, 0]) 0 (tourref2_Root.c1p a0 v1 v2) (tourref2_Root.c1x o) (tourref2_Root.c1n o) (tourref2_Root.c1q o)
  | 0, _, _ => fun _ h => nomatch h
  | n + 1, v1, v2 => Owp.of (tourref2_Root.c1.eq_2 ..) (
   Owp.bif (fun e3 =>
   Owp.bnd fun o5 e6 =>
    fun y hy => loop_back (tourref2_Root.cok k) hmix 0 (tourref2_Root.c1p a0 o5 (iquo .i64 v2 (2 : Int))) [.dec true, .cut ⟨[], [], (tourref2_Root.c2p a0 v1 v2), 0, .normal, (tourref2_Root.c2q a0 v2 o5), 0⟩] [] [] (via (cutP (And.intro trivial e3) [] (tourref2_Root.c2p a0 v1 v2) (((tourref2_Root.c2_ok k a0 v1 v2).ap e6)) (finP (And.intro trivial (by decide : nz (2 : Int))) .normal [] (tourref2_Root.c1p a0 o5 (iquo .i64 v2 (2 : Int))))) (by kernel_rfl)) ((tourref2_Root.c1_ok k a0 n o5 (iquo .i64 v2 (2 : Int))).ap hy)) (fun e3 =>
   Owp.some (loop_exit (tourref2_Root.cok k) hmix [.dec false] [] [] (exne 0) (via (finP (And.intro trivial e3) (.exit 0) [] (tourref2_Root.c1q v1)) (by kernel_rfl)))))
theorem tourref2_Root.way (k : Nat) (a0 : Int) : Owp (tourref2_Root k a0) fun y => ∃ answers cmds, exec PR (tourref2_Root.cx k) tourref2_Root.code 0 (entry (.pair T2 .unit) (a0, ())).st answers (Ret (tourref2_Root.cx k) Try.f105 cmds (.one (.dp T2)) y) := by
  unfold tourref2_Root; exact
   Owp.bnd fun o7 e8 =>
   Owp.some (⟨[.cut ⟨[], [], (tourref2_Root.c1p a0 (0 : Int) (1073741824 : Int)), 0, (.exit 0), (tourref2_Root.c1q o7), 0⟩], [], via (cutP trivial [] (tourref2_Root.c1p a0 (0 : Int) (1073741824 : Int)) (((tourref2_Root.c1_ok k a0 k (0 : Int) (1073741824 : Int)).ap e8).triple) (retP trivial (.one (.dp T2)) (o7 : Int))) (by kernel_rfl)⟩)
theorem tourref2_Root.ok (k : Nat) : FnOk PR 105 (tourref2_Root.sp k) :=
  fn_ok (tourref2_Root.cok k) hmix Try.func105 (code := tourref2_Root.code) (by kernel_rfl) (by kernel_rfl) (by kernel_rfl) rfl (by kernel_rfl) (by kernel_rfl) (by kernel_rfl) (fun x => Nat.le_of_ble_eq_true (by kernel_rfl)) fun x y hy => (tourref2_Root.way k x.1).ap hy

/-! tourney/tourref2.apart -/
noncomputable def tourref2_apart.code : Code := Func.cd Try.f62
def tourref2_apart.c2 (k : Nat) (v25 : Int) (v26 : Int) (y38 : Int) : Option (Int) :=
  bif' (ile y38 0)
  (some (iadd .i64 v25 v26))
  (some v25)
def tourref2_apart.c1 (k : Nat) (y21 : (List Int)) (y23 : (List Int)) : Nat → Int → Int → Option (Int)
  | 0, _, _ => none
  | n + 1, v25, v26 =>
   bif' (igt v26 0)
   (bnd (tourref2_Of k (iadd .i64 v25 v26)) fun y28 =>
    bnd (tourref2_Of k (iadd .i64 v25 v26)) fun y30 =>
    bnd (tourref2_Big_Mul k y28 y30) fun y32 =>
    bnd (tourref2_Big_Mul k y32 y23) fun y34 =>
    bnd (tourref2_Big_Mul k y21 y21) fun y36 =>
    bnd (tourref2_Big_Cmp k y34 y36) fun y38 =>
    bnd (tourref2_apart.c2 k v25 v26 y38) fun o41 =>
    tourref2_apart.c1 k y21 y23 n o41 (iquo .i64 v26 2))
   (some v25)
def tourref2_apart (k : Nat) (a0 : V33) (a1 : V33) (a2 : V33) : Option Int :=
  bnd (tourref2_sub k a2 a1) fun y1 =>
  bnd (tourref2_sub k a0 a1) fun y3 =>
  bnd (tourref2_Dot k y3 y1) fun y5 =>
  bnd (tourref2_Big_Cmp k y5 (List.replicate 8 0)) fun y7 =>
  bif' (ile y7 0)
  (bnd (tourref2_Root k (iadd .i64 (imul .i64 y3.1 y3.1) (imul .i64 y3.2.1 y3.2.1))) fun y10 =>
   some y10)
  (bnd (tourref2_sub k a0 a2) fun y12 =>
   bnd (tourref2_Dot k y12 y1) fun y14 =>
   bnd (tourref2_Big_Cmp k y14 (List.replicate 8 0)) fun y16 =>
   bif' (ige y16 0)
   (bnd (tourref2_Root k (iadd .i64 (imul .i64 y12.1 y12.1) (imul .i64 y12.2.1 y12.2.1))) fun y19 =>
    some y19)
   (bnd (tourref2_Cross k y1 y3) fun y21 =>
    bnd (tourref2_Dot k y1 y1) fun y23 =>
    bnd (tourref2_apart.c1 k y21 y23 k 0 536870912) fun o43 =>
    some o43))
noncomputable def tourref2_apart.sp (k : Nat) : Go.Sx.Spec := ⟨(.pair T33 (.pair T33 (.pair T33 .unit))), (.one (.dp T2)), fun x => tourref2_apart k x.1 x.2.1 x.2.2.1, false⟩
noncomputable def tourref2_apart.cx (k : Nat) : Go.Sx.Ctx := ⟨tys, [(58, tourref2_sub.sp k), (102, tourref2_Dot.sp k), (103, tourref2_Big_Cmp.sp k), (105, tourref2_Root.sp k), (106, tourref2_Cross.sp k), (107, tourref2_Of.sp k), (108, tourref2_Big_Mul.sp k)], eqs, 87, false⟩
theorem tourref2_apart.cok (k : Nat) : CtxOk PR (tourref2_apart.cx k) := ctx_ok tysOk eqsOk (FnsOk.cons (tourref2_sub.ok k) (FnsOk.cons (tourref2_Dot.ok k) (FnsOk.cons (tourref2_Big_Cmp.ok k) (FnsOk.cons (tourref2_Root.ok k) (FnsOk.cons (tourref2_Cross.ok k) (FnsOk.cons (tourref2_Of.ok k) (FnsOk.cons (tourref2_Big_Mul.ok k) FnsOk.nil)))))))
noncomputable def tourref2_apart.c2p (v25 : Int) (v26 : Int) (y21 : (List Int)) (y23 : (List Int)) (y38 : Int) : SL := ⟨[(10, (.val .ptr ⟨0, 0, (0 : Int), 0, 0⟩)), (11, (.val .ptr ⟨1, 0, (0 : Int), 0, 0⟩)), (12, (.val T2 v25)), (13, (.val T2 v26)), (14, (.val T2 (iadd .i64 v25 v26))), (84, (.val T4 (ile y38 (0 : Int))))], [(0, .cells T113 y21), (1, .cells T113 y23)]⟩
noncomputable def tourref2_apart.c2q (v26 : Int) (y21 : (List Int)) (y23 : (List Int)) (o : Int) : SL := (fun v => ⟨[(10, (.val .ptr ⟨0, 0, (0 : Int), 0, 0⟩)), (11, (.val .ptr ⟨1, 0, (0 : Int), 0, 0⟩)), (12, (.val T2 v)), (13, (.val T2 v26))], [(0, .cells T113 y21), (1, .cells T113 y23)]⟩) o
noncomputable def tourref2_apart.c2x (o : Int) : Ex := (fun _ => .normal) o
noncomputable def tourref2_apart.c2n (o : Int) : Nat := (fun _ => 2) o
theorem tourref2_apart.c2_ok (k : Nat) (v25 : Int) (v26 : Int) (y21 : (List Int)) (y23 : (List Int)) (y38 : Int) : Owp (tourref2_apart.c2 k v25 v26 y38) fun o => Triple PR (tourref2_apart.cx k) (sub tourref2_apart.code [1, 1, 1, 1, 1, 1, 0, 1, 0, 0, 1, 0, 0, 1, 1]) 2 (tourref2_apart.c2p v25 v26 y21 y23 y38) (tourref2_apart.c2x o) (tourref2_apart.c2n o) (tourref2_apart.c2q v26 y21 y23 o) := by
  unfold tourref2_apart.c2; exact
   Owp.bif (fun e40 =>
   Owp.some (triple_way (tourref2_apart.cok k) hmix [.dec true] [] [(0, 0), (1, 1)] (via (finP (And.intro trivial e40) .normal [(0, 0), (1, 1)] (tourref2_apart.c2q v26 y21 y23 (iadd .i64 v25 v26))) (by kernel_rfl)))) (fun e40 =>
   Owp.some (triple_way (tourref2_apart.cok k) hmix [.dec false] [] [(0, 0), (1, 1)] (via (finP (And.intro trivial e40) .normal [(0, 0), (1, 1)] (tourref2_apart.c2q v26 y21 y23 v25)) (by kernel_rfl))))
noncomputable def tourref2_apart.c1p (y21 : (List Int)) (y23 : (List Int)) (v25 : Int) (v26 : Int) : SL := ⟨[(10, (.val .ptr ⟨0, 0, (0 : Int), 0, 0⟩)), (11, (.val .ptr ⟨1, 0, (0 : Int), 0, 0⟩)), (12, (.val T2 v25)), (13, (.val T2 v26))], [(0, .cells T113 y21), (1, .cells T113 y23)]⟩
noncomputable def tourref2_apart.c1q (o : Int) : SL := (fun v => ⟨[(12, (.val T2 v))], []⟩) o
noncomputable def tourref2_apart.c1x (o : Int) : Ex := (fun _ => (.exit 0)) o
noncomputable def tourref2_apart.c1n (o : Int) : Nat := (fun _ => 0) o
theorem tourref2_apart.c1_ok (k : Nat) (y21 : (List Int)) (y23 : (List Int)) : ∀ (n : Nat) (v25 : Int) (v26 : Int), Owp (tourref2_apart.c1 k y21 y23 n v25 v26) fun o => LTriple PR (tourref2_apart.cx k) (sub tourref2_apart.code [1, 1, 1, 1, 1, 1, 0, 1, 0, 0]) 2 (tourref2_apart.c1p y21 y23 v25 v26) (tourref2_apart.c1x o) (tourref2_apart.c1n o) (tourref2_apart.c1q o)
  | 0, _, _ => fun _ h => nomatch h
  | n + 1, v25, v26 => Owp.of (tourref2_apart.c1.eq_2 ..) (
   Owp.bif (fun e27 =>
   Owp.bnd fun y28 e29 =>
    Owp.bnd fun y30 e31 =>
    Owp.bnd fun y32 e33 =>
    Owp.bnd fun y34 e35 =>
    Owp.bnd fun y36 e37 =>
    Owp.bnd fun y38 e39 =>
    Owp.bnd fun o41 e42 =>
    fun y hy => loop_back (tourref2_apart.cok k) hmix 2 (tourref2_apart.c1p y21 y23 o41 (iquo .i64 v26 (2 : Int))) [.dec true, .res (.one (.dp T113)) y28, .res (.one (.dp T113)) y30, .res (.one (.dp T113)) y32, .res (.one (.dp T113)) y34, .res (.one (.dp T113)) y36, .res (.one (.dp T2)) y38, .cut ⟨[], [(0, 0), (1, 1)], (tourref2_apart.c2p v25 v26 y21 y23 y38), 2, .normal, (tourref2_apart.c2q v26 y21 y23 o41), 2⟩] [] [(0, 0), (1, 1)] (via (cutP (And.intro (And.intro (And.intro (And.intro (And.intro (And.intro (And.intro trivial e27) e29) e31) e33) e35) e37) e39) [(0, 0), (1, 1)] (tourref2_apart.c2p v25 v26 y21 y23 y38) (((tourref2_apart.c2_ok k v25 v26 y21 y23 y38).ap e42)) (finP (And.intro trivial (by decide : nz (2 : Int))) .normal [(0, 0), (1, 1)] (tourref2_apart.c1p y21 y23 o41 (iquo .i64 v26 (2 : Int))))) (by kernel_rfl)) ((tourref2_apart.c1_ok k y21 y23 n o41 (iquo .i64 v26 (2 : Int))).ap hy)) (fun e27 =>
   Owp.some (loop_exit (tourref2_apart.cok k) hmix [.dec false] [] [] (exne 0) (via (finP (And.intro trivial e27) (.exit 0) [] (tourref2_apart.c1q v25)) (by kernel_rfl)))))
theorem tourref2_apart.way (k : Nat) (a0 : V33) (a1 : V33) (a2 : V33) : Owp (tourref2_apart k a0 a1 a2) fun y => ∃ answers cmds, exec PR (tourref2_apart.cx k) tourref2_apart.code 0 (entry (.pair T33 (.pair T33 (.pair T33 .unit))) (a0, a1, a2, ())).st answers (Ret (tourref2_apart.cx k) Try.f62 cmds (.one (.dp T2)) y) := by
  unfold tourref2_apart; exact
   Owp.bnd fun y1 e2 =>
   Owp.bnd fun y3 e4 =>
   Owp.bnd fun y5 e6 =>
   Owp.bnd fun y7 e8 =>
   Owp.bif (fun e9 =>
   Owp.bnd fun y10 e11 =>
    Owp.some (⟨[.res (.one (.dp T33)) y1, .res (.one (.dp T33)) y3, .res (.one (.dp T113)) y5, .res (.one (.dp T2)) y7, .dec true, .res (.one (.dp T2)) y10], [], via (retP (And.intro (And.intro (And.intro (And.intro (And.intro (And.intro trivial e2) e4) e6) e8) e9) e11) (.one (.dp T2)) (y10 : Int)) (by kernel_rfl)⟩)) (fun e9 =>
   Owp.bnd fun y12 e13 =>
    Owp.bnd fun y14 e15 =>
    Owp.bnd fun y16 e17 =>
    Owp.bif (fun e18 =>
    Owp.bnd fun y19 e20 =>
     Owp.some (⟨[.res (.one (.dp T33)) y1, .res (.one (.dp T33)) y3, .res (.one (.dp T113)) y5, .res (.one (.dp T2)) y7, .dec false, .res (.one (.dp T33)) y12, .res (.one (.dp T113)) y14, .res (.one (.dp T2)) y16, .dec true, .res (.one (.dp T2)) y19], [], via (retP (And.intro (And.intro (And.intro (And.intro (And.intro (And.intro (And.intro (And.intro (And.intro (And.intro trivial e2) e4) e6) e8) e9) e13) e15) e17) e18) e20) (.one (.dp T2)) (y19 : Int)) (by kernel_rfl)⟩)) (fun e18 =>
    Owp.bnd fun y21 e22 =>
     Owp.bnd fun y23 e24 =>
     Owp.bnd fun o43 e44 =>
     Owp.some (⟨[.res (.one (.dp T33)) y1, .res (.one (.dp T33)) y3, .res (.one (.dp T113)) y5, .res (.one (.dp T2)) y7, .dec false, .res (.one (.dp T33)) y12, .res (.one (.dp T113)) y14, .res (.one (.dp T2)) y16, .dec false, .res (.one (.dp T113)) y21, .res (.one (.dp T113)) y23, .cut ⟨[], [(0, 37), (1, 38)], (tourref2_apart.c1p y21 y23 (0 : Int) (536870912 : Int)), 2, (.exit 0), (tourref2_apart.c1q o43), 0⟩], [], via (cutP (And.intro (And.intro (And.intro (And.intro (And.intro (And.intro (And.intro (And.intro (And.intro (And.intro (And.intro trivial e2) e4) e6) e8) e9) e13) e15) e17) e18) e22) e24) [(0, 37), (1, 38)] (tourref2_apart.c1p y21 y23 (0 : Int) (536870912 : Int)) (((tourref2_apart.c1_ok k y21 y23 k (0 : Int) (536870912 : Int)).ap e44).triple) (retP trivial (.one (.dp T2)) (o43 : Int))) (by kernel_rfl)⟩)))
theorem tourref2_apart.ok (k : Nat) : FnOk PR 62 (tourref2_apart.sp k) :=
  fn_ok (tourref2_apart.cok k) hmix Try.func62 (code := tourref2_apart.code) (by kernel_rfl) (by kernel_rfl) (by kernel_rfl) rfl (by kernel_rfl) (by kernel_rfl) (by kernel_rfl) (fun x => Nat.le_of_ble_eq_true (by kernel_rfl)) fun x y hy => (tourref2_apart.way k x.1 x.2.1 x.2.2.1).ap hy

end Go.Proofs.T1
