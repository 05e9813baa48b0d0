import Derived.Test.YtlinkcdelenjeaaG0
import Derived.Test.YtlinkcdelenjeaaG3
import Derived.Test.YtlinkcdelenjeaaG5
import Derived.Test.YtlinkcdelenjeaaG6
import Derived.Test.YtlinkcdelenjeaaG7
namespace Go.Proofs.T1
open Go Go.Sx Go.Proofs
set_option maxRecDepth 100000
set_option linter.unusedVariables false
/-! tourney/tourref2.Apart -/
noncomputable def tourref2_Apart.code : Code := Func.cd Try.f18
def tourref2_Apart.c3 (k : Nat) (a0 : (List V33)) (a1 : (List V33)) (v5 : Int) (v9 : Int) : Nat → Int → Int → Option (Int)
  | 0, _, _ => none
  | n + 1, v12, v13 =>
   bif' (ilt v13 (len (el ([] : (List V33)) (el (List.replicate 2 []) [[a0, a1], [a1, a0]] v5) 1)))
   (req (inL v13 (el ([] : (List V33)) (el (List.replicate 2 []) [[a0, a1], [a1, a0]] v5) 1)) <|
    req (nz (len (el ([] : (List V33)) (el (List.replicate 2 []) [[a0, a1], [a1, a0]] v5) 1))) <|
    req (inL (irem (iadd .i64 v13 1) (len (el ([] : (List V33)) (el (List.replicate 2 []) [[a0, a1], [a1, a0]] v5) 1))) (el ([] : (List V33)) (el (List.replicate 2 []) [[a0, a1], [a1, a0]] v5) 1)) <|
    bnd (tourref2_apart k (el Z33 (el ([] : (List V33)) (el (List.replicate 2 []) [[a0, a1], [a1, a0]] v5) 0) v9) (el Z33 (el ([] : (List V33)) (el (List.replicate 2 []) [[a0, a1], [a1, a0]] v5) 1) v13) (el Z33 (el ([] : (List V33)) (el (List.replicate 2 []) [[a0, a1], [a1, a0]] v5) 1) (irem (iadd .i64 v13 1) (len (el ([] : (List V33)) (el (List.replicate 2 []) [[a0, a1], [a1, a0]] v5) 1))))) fun y18 =>
    tourref2_Apart.c3 k a0 a1 v5 v9 n (imin v12 y18) (iadd .i64 v13 1))
   (some v12)
def tourref2_Apart.c2 (k : Nat) (a0 : (List V33)) (a1 : (List V33)) (v5 : Int) : Nat → Int → Int → Option (Int)
  | 0, _, _ => none
  | n + 1, v8, v9 =>
   bif' (ilt v9 (len (el ([] : (List V33)) (el (List.replicate 2 []) [[a0, a1], [a1, a0]] v5) 0)))
   (req (inL v9 (el ([] : (List V33)) (el (List.replicate 2 []) [[a0, a1], [a1, a0]] v5) 0)) <|
    bnd (tourref2_Apart.c3 k a0 a1 v5 v9 k v8 0) fun o20 =>
    tourref2_Apart.c2 k a0 a1 v5 n o20 (iadd .i64 v9 1))
   (some v8)
def tourref2_Apart.c1 (k : Nat) (a0 : (List V33)) (a1 : (List V33)) : Nat → Int → Int → Option (Int)
  | 0, _, _ => none
  | n + 1, v4, v5 =>
   bif' (ilt v5 (len [[a0, a1], [a1, a0]]))
   (req (inL v5 [[a0, a1], [a1, a0]]) <|
    bnd (tourref2_Apart.c2 k a0 a1 v5 k v4 0) fun o22 =>
    tourref2_Apart.c1 k a0 a1 n o22 (iadd .i64 v5 1))
   (some v4)
def tourref2_Apart (k : Nat) (a0 : (List V33)) (a1 : (List V33)) : Option Int :=
  bnd (tourref2_Meet k a0 a1) fun y1 =>
  bif' y1
  (some 0)
  (bnd (tourref2_Apart.c1 k a0 a1 k 1099511627776 0) fun o24 =>
   some o24)
noncomputable def tourref2_Apart.sp (k : Nat) : Go.Sx.Spec := ⟨(.pair T22 (.pair T22 .unit)), (.one (.dp T2)), fun x => tourref2_Apart k x.1 x.2.1, false⟩
noncomputable def tourref2_Apart.cx (k : Nat) : Go.Sx.Ctx := ⟨tys, [(17, tourref2_Meet.sp k), (62, tourref2_apart.sp k)], eqs, 61, false⟩
theorem tourref2_Apart.cok (k : Nat) : CtxOk PR (tourref2_Apart.cx k) := ctx_ok tysOk eqsOk (FnsOk.cons (tourref2_Meet.ok k) (FnsOk.cons (tourref2_apart.ok k) FnsOk.nil))
noncomputable def tourref2_Apart.c3p (a0 : (List V33)) (a1 : (List V33)) (v5 : Int) (v9 : Int) (v12 : Int) (v13 : Int) : SL := ⟨[(5, (.val T2 v12)), (7, (.val .ptr ⟨0, 0, (0 : Int), 0, 0⟩)), (9, (.val .ptr ⟨1, 0, (0 : Int), 0, 0⟩)), (21, (.val .own (2 : Nat))), (22, (.val T2 (len [[a0, a1], [a1, a0]]))), (23, (.val T2 v5)), (28, (.val T22 (el ([] : (List V33)) (el (List.replicate 2 []) [[a0, a1], [a1, a0]] v5) (0 : Int)))), (29, (.val T2 (len (el ([] : (List V33)) (el (List.replicate 2 []) [[a0, a1], [a1, a0]] v5) (0 : Int))))), (30, (.val T2 v9)), (35, (.val T22 (el ([] : (List V33)) (el (List.replicate 2 []) [[a0, a1], [a1, a0]] v5) (1 : Int)))), (36, (.val T2 (len (el ([] : (List V33)) (el (List.replicate 2 []) [[a0, a1], [a1, a0]] v5) (1 : Int))))), (37, (.val T2 v13))], [(0, .cells (.arr 2 T22) (el (List.replicate 2 []) [[a0, a1], [a1, a0]] v5)), (1, .cells T33 (el Z33 (el ([] : (List V33)) (el (List.replicate 2 []) [[a0, a1], [a1, a0]] v5) (0 : Int)) v9)), (2, .row (.arr 2 T22) [[a0, a1], [a1, a0]] 80)]⟩
noncomputable def tourref2_Apart.c3q (a0 : (List V33)) (a1 : (List V33)) (v5 : Int) (v9 : Int) (o : Int) : SL := (fun v => ⟨[(5, (.val T2 v)), (7, (.val .ptr ⟨0, 0, (0 : Int), 0, 0⟩)), (21, (.val .own (1 : Nat))), (22, (.val T2 (len [[a0, a1], [a1, a0]]))), (23, (.val T2 v5)), (28, (.val T22 (el ([] : (List V33)) (el (List.replicate 2 []) [[a0, a1], [a1, a0]] v5) (0 : Int)))), (29, (.val T2 (len (el ([] : (List V33)) (el (List.replicate 2 []) [[a0, a1], [a1, a0]] v5) (0 : Int))))), (30, (.val T2 v9))], [(0, .cells (.arr 2 T22) (el (List.replicate 2 []) [[a0, a1], [a1, a0]] v5)), (1, .row (.arr 2 T22) [[a0, a1], [a1, a0]] 80)]⟩) o
noncomputable def tourref2_Apart.c3x (o : Int) : Ex := (fun _ => (.exit 4)) o
noncomputable def tourref2_Apart.c3n (o : Int) : Nat := (fun _ => 2) o
theorem tourref2_Apart.c3_ok (k : Nat) (a0 : (List V33)) (a1 : (List V33)) (v5 : Int) (v9 : Int) : ∀ (n : Nat) (v12 : Int) (v13 : Int), Owp (tourref2_Apart.c3 k a0 a1 v5 v9 n v12 v13) fun o => LTriple PR (tourref2_Apart.cx k) (sub tourref2_Apart.code [1, 1, 1, 0, 1, 0, 0, 1, 1, 0, 0, 1, 1, 0, 0, 1, 1, 0, 0, 1, 1, 0, 0]) 3 (tourref2_Apart.c3p a0 a1 v5 v9 v12 v13) (tourref2_Apart.c3x o) (tourref2_Apart.c3n o) (tourref2_Apart.c3q a0 a1 v5 v9 o)
  | 0, _, _ => fun _ h => nomatch h
  | n + 1, v12, v13 => Owp.of (tourref2_Apart.c3.eq_2 ..) (
   Owp.bif (fun e14 =>
   Owp.req fun h15 =>
    Owp.req fun h16 =>
    Owp.req fun h17 =>
    Owp.bnd fun y18 e19 =>
    fun y hy => loop_back (tourref2_Apart.cok k) hmix 3 (tourref2_Apart.c3p a0 a1 v5 v9 (imin v12 y18) (iadd .i64 v13 (1 : Int))) [.dec true, .res (.one (.dp T2)) y18] [] [(0, 0), (1, 1), (2, 2)] (via (finP (And.intro (And.intro (And.intro (And.intro (And.intro (And.intro (And.intro (And.intro (And.intro trivial e14) h15) (by decide : inR (1 : Int) 2)) (by decide : inR (1 : Int) 2)) (by decide : inR (1 : Int) 2)) (by decide : inR (1 : Int) 2)) h16) h17) e19) .normal [(0, 0), (1, 1), (2, 2)] (tourref2_Apart.c3p a0 a1 v5 v9 (imin v12 y18) (iadd .i64 v13 (1 : Int)))) (by kernel_rfl)) ((tourref2_Apart.c3_ok k a0 a1 v5 v9 n (imin v12 y18) (iadd .i64 v13 (1 : Int))).ap hy)) (fun e14 =>
   Owp.some (loop_exit (tourref2_Apart.cok k) hmix [.dec false] [] [(0, 0), (1, 2)] (exne 4) (via (finP (And.intro trivial e14) (.exit 4) [(0, 0), (1, 2)] (tourref2_Apart.c3q a0 a1 v5 v9 v12)) (by kernel_rfl)))))
noncomputable def tourref2_Apart.c2p (a0 : (List V33)) (a1 : (List V33)) (v5 : Int) (v8 : Int) (v9 : Int) : SL := ⟨[(5, (.val T2 v8)), (7, (.val .ptr ⟨0, 0, (0 : Int), 0, 0⟩)), (21, (.val .own (1 : Nat))), (22, (.val T2 (len [[a0, a1], [a1, a0]]))), (23, (.val T2 v5)), (28, (.val T22 (el ([] : (List V33)) (el (List.replicate 2 []) [[a0, a1], [a1, a0]] v5) (0 : Int)))), (29, (.val T2 (len (el ([] : (List V33)) (el (List.replicate 2 []) [[a0, a1], [a1, a0]] v5) (0 : Int))))), (30, (.val T2 v9))], [(0, .cells (.arr 2 T22) (el (List.replicate 2 []) [[a0, a1], [a1, a0]] v5)), (1, .row (.arr 2 T22) [[a0, a1], [a1, a0]] 80)]⟩
noncomputable def tourref2_Apart.c2q (a0 : (List V33)) (a1 : (List V33)) (v5 : Int) (o : Int) : SL := (fun v => ⟨[(5, (.val T2 v)), (21, (.val .own (0 : Nat))), (22, (.val T2 (len [[a0, a1], [a1, a0]]))), (23, (.val T2 v5))], [(0, .row (.arr 2 T22) [[a0, a1], [a1, a0]] 80)]⟩) o
noncomputable def tourref2_Apart.c2x (o : Int) : Ex := (fun _ => (.exit 2)) o
noncomputable def tourref2_Apart.c2n (o : Int) : Nat := (fun _ => 1) o
theorem tourref2_Apart.c2_ok (k : Nat) (a0 : (List V33)) (a1 : (List V33)) (v5 : Int) : ∀ (n : Nat) (v8 : Int) (v9 : Int), Owp (tourref2_Apart.c2 k a0 a1 v5 n v8 v9) fun o => LTriple PR (tourref2_Apart.cx k) (sub tourref2_Apart.code [1, 1, 1, 0, 1, 0, 0, 1, 1, 0, 0, 1, 1, 0, 0]) 2 (tourref2_Apart.c2p a0 a1 v5 v8 v9) (tourref2_Apart.c2x o) (tourref2_Apart.c2n o) (tourref2_Apart.c2q a0 a1 v5 o)
  | 0, _, _ => fun _ h => nomatch h
  | n + 1, v8, v9 => Owp.of (tourref2_Apart.c2.eq_2 ..) (
   Owp.bif (fun e10 =>
   Owp.req fun h11 =>
    Owp.bnd fun o20 e21 =>
    fun y hy => loop_back (tourref2_Apart.cok k) hmix 2 (tourref2_Apart.c2p a0 a1 v5 o20 (iadd .i64 v9 (1 : Int))) [.dec true, .cut ⟨[], [(0, 0), (1, 5), (2, 1)], (tourref2_Apart.c3p a0 a1 v5 v9 v8 (0 : Int)), 3, (.exit 4), (tourref2_Apart.c3q a0 a1 v5 v9 o20), 2⟩] [] [(0, 0), (1, 1)] (via (cutP (And.intro (And.intro (And.intro (And.intro trivial e10) h11) (by decide : inR (1 : Int) 2)) (by decide : inR (1 : Int) 2)) [(0, 0), (1, 5), (2, 1)] (tourref2_Apart.c3p a0 a1 v5 v9 v8 (0 : Int)) (((tourref2_Apart.c3_ok k a0 a1 v5 v9 k v8 (0 : Int)).ap e21).triple) (finP trivial .normal [(0, 0), (1, 1)] (tourref2_Apart.c2p a0 a1 v5 o20 (iadd .i64 v9 (1 : Int))))) (by kernel_rfl)) ((tourref2_Apart.c2_ok k a0 a1 v5 n o20 (iadd .i64 v9 (1 : Int))).ap hy)) (fun e10 =>
   Owp.some (loop_exit (tourref2_Apart.cok k) hmix [.dec false] [] [(0, 1)] (exne 2) (via (finP (And.intro trivial e10) (.exit 2) [(0, 1)] (tourref2_Apart.c2q a0 a1 v5 v8)) (by kernel_rfl)))))
noncomputable def tourref2_Apart.c1p (a0 : (List V33)) (a1 : (List V33)) (v4 : Int) (v5 : Int) : SL := ⟨[(5, (.val T2 v4)), (21, (.val .own (0 : Nat))), (22, (.val T2 (len [[a0, a1], [a1, a0]]))), (23, (.val T2 v5))], [(0, .row (.arr 2 T22) [[a0, a1], [a1, a0]] 80)]⟩
noncomputable def tourref2_Apart.c1q (o : Int) : SL := (fun v => ⟨[(5, (.val T2 v))], []⟩) o
noncomputable def tourref2_Apart.c1x (o : Int) : Ex := (fun _ => (.exit 0)) o
noncomputable def tourref2_Apart.c1n (o : Int) : Nat := (fun _ => 0) o
theorem tourref2_Apart.c1_ok (k : Nat) (a0 : (List V33)) (a1 : (List V33)) : ∀ (n : Nat) (v4 : Int) (v5 : Int), Owp (tourref2_Apart.c1 k a0 a1 n v4 v5) fun o => LTriple PR (tourref2_Apart.cx k) (sub tourref2_Apart.code [1, 1, 1, 0, 1, 0, 0]) 1 (tourref2_Apart.c1p a0 a1 v4 v5) (tourref2_Apart.c1x o) (tourref2_Apart.c1n o) (tourref2_Apart.c1q o)
  | 0, _, _ => fun _ h => nomatch h
  | n + 1, v4, v5 => Owp.of (tourref2_Apart.c1.eq_2 ..) (
   Owp.bif (fun e6 =>
   Owp.req fun h7 =>
    Owp.bnd fun o22 e23 =>
    fun y hy => loop_back (tourref2_Apart.cok k) hmix 1 (tourref2_Apart.c1p a0 a1 o22 (iadd .i64 v5 (1 : Int))) [.dec true, .cut ⟨[], [(0, 4), (1, 0)], (tourref2_Apart.c2p a0 a1 v5 v4 (0 : Int)), 2, (.exit 2), (tourref2_Apart.c2q a0 a1 v5 o22), 1⟩] [] [(0, 0)] (via (cutP (And.intro (And.intro (And.intro (And.intro (And.intro trivial e6) h7) h7) (by decide : inR (0 : Int) 2)) (by decide : inR (0 : Int) 2)) [(0, 4), (1, 0)] (tourref2_Apart.c2p a0 a1 v5 v4 (0 : Int)) (((tourref2_Apart.c2_ok k a0 a1 v5 k v4 (0 : Int)).ap e23).triple) (finP trivial .normal [(0, 0)] (tourref2_Apart.c1p a0 a1 o22 (iadd .i64 v5 (1 : Int))))) (by kernel_rfl)) ((tourref2_Apart.c1_ok k a0 a1 n o22 (iadd .i64 v5 (1 : Int))).ap hy)) (fun e6 =>
   Owp.some (loop_exit (tourref2_Apart.cok k) hmix [.dec false] [] [] (exne 0) (via (finP (And.intro trivial e6) (.exit 0) [] (tourref2_Apart.c1q v4)) (by kernel_rfl)))))
theorem tourref2_Apart.way (k : Nat) (a0 : (List V33)) (a1 : (List V33)) : Owp (tourref2_Apart k a0 a1) fun y => ∃ answers cmds, exec PR (tourref2_Apart.cx k) tourref2_Apart.code 0 (entry (.pair T22 (.pair T22 .unit)) (a0, a1, ())).st answers (Ret (tourref2_Apart.cx k) Try.f18 cmds (.one (.dp T2)) y) := by
  unfold tourref2_Apart; exact
   Owp.bnd fun y1 e2 =>
   Owp.bif (fun e3 =>
   Owp.some (⟨[.res (.one (.dp T4)) y1, .dec true], [], via (retP (And.intro (And.intro trivial e2) e3) (.one (.dp T2)) ((0 : Int) : Int)) (by kernel_rfl)⟩)) (fun e3 =>
   Owp.bnd fun o24 e25 =>
    Owp.some (⟨[.res (.one (.dp T4)) y1, .dec false, .dec true, .cut ⟨[], [(0, 11)], (tourref2_Apart.c1p a0 a1 (1099511627776 : Int) (0 : Int)), 1, (.exit 0), (tourref2_Apart.c1q o24), 0⟩], [], via (cutP (And.intro (And.intro trivial e2) e3) [(0, 11)] (tourref2_Apart.c1p a0 a1 (1099511627776 : Int) (0 : Int)) (((tourref2_Apart.c1_ok k a0 a1 k (1099511627776 : Int) (0 : Int)).ap e25).triple) (retP trivial (.one (.dp T2)) (o24 : Int))) (by kernel_rfl)⟩))
theorem tourref2_Apart.ok (k : Nat) : FnOk PR 18 (tourref2_Apart.sp k) :=
  fn_ok (tourref2_Apart.cok k) hmix Try.func18 (code := tourref2_Apart.code) (by kernel_rfl) (by kernel_rfl) (by kernel_rfl) rfl (by kernel_rfl) (by kernel_rfl) (by kernel_rfl) (fun x => Nat.le_of_ble_eq_true (by kernel_rfl)) fun x y hy => (tourref2_Apart.way k x.1 x.2.1).ap hy

/-! tourney/tourlaw2.NearSays -/
noncomputable def tourlaw2_NearSays.code : Code := Func.cd Try.f3
def tourlaw2_NearSays.c1 (k : Nat) (y5 : (Int × Int)) : Option (Bool) :=
  bif' (ine y5.2 0)
  (some true)
  (some (ine y5.1 327680))
def tourlaw2_NearSays.c2 (k : Nat) (y11 : ((List V33) × Int)) (y13 : (Bool × Int)) (y15 : (Int × Int)) (y17 : Int) : Option (Bool) :=
  bif' (ieq y11.2 y17)
  (bif' (ieq y13.2 y17)
   (bif' (ieq y15.2 y17)
    (bif' (ieq (len y11.1) 0)
     (bif' y13.1
      (some false)
      (some (ieq y15.1 0)))
     (some false))
    (some false))
   (some false))
  (some false)
def tourlaw2_NearSays (k : Nat) (a0 : (List V33)) (a1 : (List V33)) : Option Bool :=
  bnd (tourlaw2_square k 0 0 1) fun y1 =>
  bnd (tourlaw2_square k 4 5 1) fun y3 =>
  bnd (near_Apart k y1 y3) fun y5 =>
  bnd (tourlaw2_NearSays.c1 k y5) fun o8 =>
  bif' o8
  (some false)
  (bnd (near_Minus k a0 a1) fun y11 =>
   bnd (near_Meet k a0 a1) fun y13 =>
   bnd (near_Apart k a0 a1) fun y15 =>
   bnd (tourref2_Two k a0 a1) fun y17 =>
   bif' (ine y17 0)
   (bnd (tourlaw2_NearSays.c2 k y11 y13 y15 y17) fun o25 =>
    some o25)
   (bif' (ieq y11.2 0)
    (bif' (ieq y13.2 0)
     (bif' (ieq y15.2 0)
      (bnd (tourref2_Minus k a0 a1) fun y30 =>
       bnd (slices_Equal k y11.1 y30) fun y32 =>
       bif' y32
       (bnd (tourref2_Meet k a0 a1) fun y35 =>
        bif' (Ty.eqb T4 y13.1 y35)
        (bnd (tourref2_Apart k a0 a1) fun y38 =>
         some (ieq y15.1 y38))
        (some false))
       (some false))
      (some false))
     (some false))
    (some false)))
noncomputable def tourlaw2_NearSays.sp (k : Nat) : Go.Sx.Spec := ⟨(.pair T22 (.pair T22 .unit)), (.one (.dp T4)), fun x => tourlaw2_NearSays k x.1 x.2.1, false⟩
noncomputable def tourlaw2_NearSays.cx (k : Nat) : Go.Sx.Ctx := ⟨tys, [(11, tourlaw2_square.sp k), (10, near_Apart.sp k), (12, near_Minus.sp k), (13, near_Meet.sp k), (14, tourref2_Two.sp k), (16, tourref2_Minus.sp k), (15, slices_Equal.sp k), (17, tourref2_Meet.sp k), (18, tourref2_Apart.sp k)], eqs, 106, false⟩
theorem tourlaw2_NearSays.cok (k : Nat) : CtxOk PR (tourlaw2_NearSays.cx k) := ctx_ok tysOk eqsOk (FnsOk.cons (tourlaw2_square.ok k) (FnsOk.cons (near_Apart.ok k) (FnsOk.cons (near_Minus.ok k) (FnsOk.cons (near_Meet.ok k) (FnsOk.cons (tourref2_Two.ok k) (FnsOk.cons (tourref2_Minus.ok k) (FnsOk.cons (slices_Equal.ok k) (FnsOk.cons (tourref2_Meet.ok k) (FnsOk.cons (tourref2_Apart.ok k) FnsOk.nil)))))))))
noncomputable def tourlaw2_NearSays.c1p (a0 : (List V33)) (a1 : (List V33)) (y5 : (Int × Int)) : SL := ⟨[(0, (.val T22 a0)), (1, (.val T22 a1)), (5, (.val T2 y5.1)), (6, (.val T2 y5.2))], []⟩
noncomputable def tourlaw2_NearSays.c1q (a0 : (List V33)) (a1 : (List V33)) (o : Bool) : SL := (fun v => ⟨[(0, (.val T22 a0)), (1, (.val T22 a1)), (25, (.val T4 v))], []⟩) o
noncomputable def tourlaw2_NearSays.c1x (o : Bool) : Ex := (fun _ => .normal) o
noncomputable def tourlaw2_NearSays.c1n (o : Bool) : Nat := (fun _ => 0) o
theorem tourlaw2_NearSays.c1_ok (k : Nat) (a0 : (List V33)) (a1 : (List V33)) (y5 : (Int × Int)) : Owp (tourlaw2_NearSays.c1 k y5) fun o => Triple PR (tourlaw2_NearSays.cx k) (sub tourlaw2_NearSays.code [1, 0, 1, 0]) 0 (tourlaw2_NearSays.c1p a0 a1 y5) (tourlaw2_NearSays.c1x o) (tourlaw2_NearSays.c1n o) (tourlaw2_NearSays.c1q a0 a1 o) := by
  unfold tourlaw2_NearSays.c1; exact
   Owp.bif (fun e7 =>
   Owp.some (triple_way (tourlaw2_NearSays.cok k) hmix [.dec true, .dec true, .dec true] [] [] (via (finP (And.intro (And.intro (And.intro trivial e7) e7) e7) .normal [] (tourlaw2_NearSays.c1q a0 a1 true)) (by kernel_rfl)))) (fun e7 =>
   Owp.some (triple_way (tourlaw2_NearSays.cok k) hmix [.dec false, .dec false, .dec false] [] [] (via (finP (And.intro (And.intro (And.intro trivial e7) e7) e7) .normal [] (tourlaw2_NearSays.c1q a0 a1 (ine y5.1 (327680 : Int)))) (by kernel_rfl))))
noncomputable def tourlaw2_NearSays.c2p (y11 : ((List V33) × Int)) (y13 : (Bool × Int)) (y15 : (Int × Int)) (y17 : Int) : SL := ⟨[(7, (.val .own (0 : Nat))), (8, (.val T2 y11.2)), (9, (.val T4 y13.1)), (10, (.val T2 y13.2)), (11, (.val T2 y15.1)), (12, (.val T2 y15.2)), (13, (.val T2 y17))], [(0, .row T33 y11.1 34)]⟩
noncomputable def tourlaw2_NearSays.c2q (o : Bool) : SL := (fun v => ⟨[(4, (.val T4 v))], []⟩) o
noncomputable def tourlaw2_NearSays.c2x (o : Bool) : Ex := (fun _ => .normal) o
noncomputable def tourlaw2_NearSays.c2n (o : Bool) : Nat := (fun _ => 0) o
theorem tourlaw2_NearSays.c2_ok (k : Nat) (y11 : ((List V33) × Int)) (y13 : (Bool × Int)) (y15 : (Int × Int)) (y17 : Int) : Owp (tourlaw2_NearSays.c2 k y11 y13 y15 y17) fun o => Triple PR (tourlaw2_NearSays.cx k) (sub tourlaw2_NearSays.code [1, 1, 1, 1, 1, 0, 1, 1, 0, 0]) 1 (tourlaw2_NearSays.c2p y11 y13 y15 y17) (tourlaw2_NearSays.c2x o) (tourlaw2_NearSays.c2n o) (tourlaw2_NearSays.c2q o) := by
  unfold tourlaw2_NearSays.c2; exact
   Owp.bif (fun e20 =>
   Owp.bif (fun e21 =>
    Owp.bif (fun e22 =>
     Owp.bif (fun e23 =>
      Owp.bif (fun e24 =>
       Owp.some (triple_way (tourlaw2_NearSays.cok k) hmix [.dec true, .dec true, .dec true, .dec true, .dec true, .dec true, .dec true, .dec true, .dec true, .dec true, .dec true, .dec true, .dec true, .dec true, .dec true, .dec false, .dec false, .dec false] [] [] (via (finP (And.intro (And.intro (And.intro (And.intro (And.intro (And.intro (And.intro (And.intro (And.intro (And.intro (And.intro (And.intro (And.intro (And.intro (And.intro (And.intro (And.intro (And.intro trivial e20) e20) e20) e20) e21) e21) e21) e21) e22) e22) e22) e22) e23) e23) e23) (congrArg not e24)) (congrArg not e24)) (congrArg not e24)) .normal [] (tourlaw2_NearSays.c2q false)) (by kernel_rfl)))) (fun e24 =>
       Owp.some (triple_way (tourlaw2_NearSays.cok k) hmix [.dec true, .dec true, .dec true, .dec true, .dec true, .dec true, .dec true, .dec true, .dec true, .dec true, .dec true, .dec true, .dec true, .dec true, .dec true, .dec true, .dec true, .dec true] [] [] (via (finP (And.intro (And.intro (And.intro (And.intro (And.intro (And.intro (And.intro (And.intro (And.intro (And.intro (And.intro (And.intro (And.intro (And.intro (And.intro (And.intro (And.intro (And.intro trivial e20) e20) e20) e20) e21) e21) e21) e21) e22) e22) e22) e22) e23) e23) e23) (congrArg not e24)) (congrArg not e24)) (congrArg not e24)) .normal [] (tourlaw2_NearSays.c2q (ieq y15.1 (0 : Int)))) (by kernel_rfl))))) (fun e23 =>
      Owp.some (triple_way (tourlaw2_NearSays.cok k) hmix [.dec true, .dec true, .dec true, .dec true, .dec true, .dec true, .dec true, .dec true, .dec true, .dec true, .dec true, .dec true, .dec false, .dec false, .dec false, .dec false, .dec false, .dec false] [] [] (via (finP (And.intro (And.intro (And.intro (And.intro (And.intro (And.intro (And.intro (And.intro (And.intro (And.intro (And.intro (And.intro (And.intro (And.intro (And.intro (And.intro (And.intro (And.intro trivial e20) e20) e20) e20) e21) e21) e21) e21) e22) e22) e22) e22) e23) e23) e23) ff) ff) ff) .normal [] (tourlaw2_NearSays.c2q false)) (by kernel_rfl))))) (fun e22 =>
     Owp.some (triple_way (tourlaw2_NearSays.cok k) hmix [.dec true, .dec true, .dec true, .dec true, .dec true, .dec true, .dec true, .dec true, .dec false, .dec false, .dec false, .dec false, .dec false, .dec false, .dec false, .dec false, .dec false, .dec false] [] [] (via (finP (And.intro (And.intro (And.intro (And.intro (And.intro (And.intro (And.intro (And.intro (And.intro (And.intro (And.intro (And.intro (And.intro (And.intro (And.intro (And.intro (And.intro (And.intro trivial e20) e20) e20) e20) e21) e21) e21) e21) e22) e22) e22) e22) ff) ff) ff) ff) ff) ff) .normal [] (tourlaw2_NearSays.c2q false)) (by kernel_rfl))))) (fun e21 =>
    Owp.some (triple_way (tourlaw2_NearSays.cok k) hmix [.dec true, .dec true, .dec true, .dec true, .dec false, .dec false, .dec false, .dec false, .dec false, .dec false, .dec false, .dec false, .dec false, .dec false, .dec false, .dec false, .dec false, .dec false] [] [] (via (finP (And.intro (And.intro (And.intro (And.intro (And.intro (And.intro (And.intro (And.intro (And.intro (And.intro (And.intro (And.intro (And.intro (And.intro (And.intro (And.intro (And.intro (And.intro trivial e20) e20) e20) e20) e21) e21) e21) e21) ff) ff) ff) ff) ff) ff) ff) ff) ff) ff) .normal [] (tourlaw2_NearSays.c2q false)) (by kernel_rfl))))) (fun e20 =>
   Owp.some (triple_way (tourlaw2_NearSays.cok k) hmix [.dec false, .dec false, .dec false, .dec false, .dec false, .dec false, .dec false, .dec false, .dec false, .dec false, .dec false, .dec false, .dec false, .dec false, .dec false, .dec false, .dec false, .dec false] [] [] (via (finP (And.intro (And.intro (And.intro (And.intro (And.intro (And.intro (And.intro (And.intro (And.intro (And.intro (And.intro (And.intro (And.intro (And.intro (And.intro (And.intro (And.intro (And.intro trivial e20) e20) e20) e20) ff) ff) ff) ff) ff) ff) ff) ff) ff) ff) ff) ff) ff) ff) .normal [] (tourlaw2_NearSays.c2q false)) (by kernel_rfl))))
theorem tourlaw2_NearSays.way (k : Nat) (a0 : (List V33)) (a1 : (List V33)) : Owp (tourlaw2_NearSays k a0 a1) fun y => ∃ answers cmds, exec PR (tourlaw2_NearSays.cx k) tourlaw2_NearSays.code 0 (entry (.pair T22 (.pair T22 .unit)) (a0, a1, ())).st answers (Ret (tourlaw2_NearSays.cx k) Try.f3 cmds (.one (.dp T4)) y) := by
  unfold tourlaw2_NearSays; exact
   Owp.bnd fun y1 e2 =>
   Owp.bnd fun y3 e4 =>
   Owp.bnd fun y5 e6 =>
   Owp.bnd fun o8 e9 =>
   Owp.bif (fun e10 =>
   Owp.some (⟨[.res (.one (.ow T33 34)) y1, .res (.one (.ow T33 34)) y3, .res (.more (.dp T2) (.one (.dp T2))) y5, .cutR 2 ⟨[], [], (tourlaw2_NearSays.c1p a0 a1 y5), 0, .normal, (tourlaw2_NearSays.c1q a0 a1 o8), 0⟩, .dec true], [], via (cutP (And.intro (And.intro (And.intro trivial e2) e4) e6) [] (tourlaw2_NearSays.c1p a0 a1 y5) (((tourlaw2_NearSays.c1_ok k a0 a1 y5).ap e9)) (retP (And.intro trivial e10) (.one (.dp T4)) (false : Bool))) (by kernel_rfl)⟩)) (fun e10 =>
   Owp.bnd fun y11 e12 =>
    Owp.bnd fun y13 e14 =>
    Owp.bnd fun y15 e16 =>
    Owp.bnd fun y17 e18 =>
    Owp.bif (fun e19 =>
    Owp.bnd fun o25 e26 =>
     Owp.some (⟨[.res (.one (.ow T33 34)) y1, .res (.one (.ow T33 34)) y3, .res (.more (.dp T2) (.one (.dp T2))) y5, .cutR 2 ⟨[], [], (tourlaw2_NearSays.c1p a0 a1 y5), 0, .normal, (tourlaw2_NearSays.c1q a0 a1 o8), 0⟩, .dec false, .res (.more (.ow T33 34) (.one (.dp T2))) y11, .res (.more (.dp T4) (.one (.dp T2))) y13, .res (.more (.dp T2) (.one (.dp T2))) y15, .res (.one (.dp T2)) y17, .dec true, .cutR 9 ⟨[], [(0, 2)], (tourlaw2_NearSays.c2p y11 y13 y15 y17), 1, .normal, (tourlaw2_NearSays.c2q o25), 0⟩], [], via (cutP (And.intro (And.intro (And.intro trivial e2) e4) e6) [] (tourlaw2_NearSays.c1p a0 a1 y5) (((tourlaw2_NearSays.c1_ok k a0 a1 y5).ap e9)) (cutP (And.intro (And.intro (And.intro (And.intro (And.intro (And.intro trivial e10) e12) e14) e16) e18) e19) [(0, 2)] (tourlaw2_NearSays.c2p y11 y13 y15 y17) (((tourlaw2_NearSays.c2_ok k y11 y13 y15 y17).ap e26)) (retP trivial (.one (.dp T4)) (o25 : Bool)))) (by kernel_rfl)⟩)) (fun e19 =>
    Owp.bif (fun e27 =>
     Owp.bif (fun e28 =>
      Owp.bif (fun e29 =>
       Owp.bnd fun y30 e31 =>
        Owp.bnd fun y32 e33 =>
        Owp.bif (fun e34 =>
        Owp.bnd fun y35 e36 =>
         Owp.bif (fun e37 =>
         Owp.bnd fun y38 e39 =>
          Owp.some (⟨[.res (.one (.ow T33 34)) y1, .res (.one (.ow T33 34)) y3, .res (.more (.dp T2) (.one (.dp T2))) y5, .cutR 2 ⟨[], [], (tourlaw2_NearSays.c1p a0 a1 y5), 0, .normal, (tourlaw2_NearSays.c1q a0 a1 o8), 0⟩, .dec false, .res (.more (.ow T33 34) (.one (.dp T2))) y11, .res (.more (.dp T4) (.one (.dp T2))) y13, .res (.more (.dp T2) (.one (.dp T2))) y15, .res (.one (.dp T2)) y17, .dec false, .dec true, .dec true, .dec true, .dec true, .dec true, .dec true, .dec true, .dec true, .dec true, .dec true, .res (.one (.ow T33 34)) y30, .dec true, .res (.one (.dp T4)) y32, .dec true, .dec true, .dec true, .dec true, .dec true, .res (.one (.dp T4)) y35, .dec true, .dec true, .dec true, .dec true, .dec true, .dec true, .res (.one (.dp T2)) y38, .dec true, .dec true], [], via (cutP (And.intro (And.intro (And.intro trivial e2) e4) e6) [] (tourlaw2_NearSays.c1p a0 a1 y5) (((tourlaw2_NearSays.c1_ok k a0 a1 y5).ap e9)) (retP (And.intro (And.intro (And.intro (And.intro (And.intro (And.intro (And.intro (And.intro (And.intro (And.intro (And.intro (And.intro (And.intro (And.intro (And.intro (And.intro (And.intro (And.intro (And.intro (And.intro (And.intro (And.intro (And.intro (And.intro (And.intro (And.intro (And.intro (And.intro (And.intro (And.intro trivial e10) e12) e14) e16) e18) e19) e27) e27) e27) e28) e28) e28) e29) e29) e29) (And.intro e29 e31)) (And.intro e29 e33)) e29) e34) e34) e34) (And.intro e34 e36)) e34) e34) e37) e37) e37) (And.intro e37 e39)) e37) e37) (.one (.dp T4)) ((ieq y15.1 y38) : Bool))) (by kernel_rfl)⟩)) (fun e37 =>
         Owp.some (⟨[.res (.one (.ow T33 34)) y1, .res (.one (.ow T33 34)) y3, .res (.more (.dp T2) (.one (.dp T2))) y5, .cutR 2 ⟨[], [], (tourlaw2_NearSays.c1p a0 a1 y5), 0, .normal, (tourlaw2_NearSays.c1q a0 a1 o8), 0⟩, .dec false, .res (.more (.ow T33 34) (.one (.dp T2))) y11, .res (.more (.dp T4) (.one (.dp T2))) y13, .res (.more (.dp T2) (.one (.dp T2))) y15, .res (.one (.dp T2)) y17, .dec false, .dec true, .dec true, .dec true, .dec true, .dec true, .dec true, .dec true, .dec true, .dec true, .dec true, .res (.one (.ow T33 34)) y30, .dec true, .res (.one (.dp T4)) y32, .dec true, .dec true, .dec true, .dec true, .dec true, .res (.one (.dp T4)) y35, .dec true, .dec true, .dec false, .dec false, .dec false, .dec false, .dec true, .dec false, .dec false], [], via (cutP (And.intro (And.intro (And.intro trivial e2) e4) e6) [] (tourlaw2_NearSays.c1p a0 a1 y5) (((tourlaw2_NearSays.c1_ok k a0 a1 y5).ap e9)) (retP (And.intro (And.intro (And.intro (And.intro (And.intro (And.intro (And.intro (And.intro (And.intro (And.intro (And.intro (And.intro (And.intro (And.intro (And.intro (And.intro (And.intro (And.intro (And.intro (And.intro (And.intro (And.intro (And.intro (And.intro (And.intro (And.intro (And.intro (And.intro (And.intro (And.intro trivial e10) e12) e14) e16) e18) e19) e27) e27) e27) e28) e28) e28) e29) e29) e29) (And.intro e29 e31)) (And.intro e29 e33)) e29) e34) e34) e34) (And.intro e34 e36)) e34) e34) e37) e37) e37) e37) e37) e37) (.one (.dp T4)) (false : Bool))) (by kernel_rfl)⟩))) (fun e34 =>
        Owp.some (⟨[.res (.one (.ow T33 34)) y1, .res (.one (.ow T33 34)) y3, .res (.more (.dp T2) (.one (.dp T2))) y5, .cutR 2 ⟨[], [], (tourlaw2_NearSays.c1p a0 a1 y5), 0, .normal, (tourlaw2_NearSays.c1q a0 a1 o8), 0⟩, .dec false, .res (.more (.ow T33 34) (.one (.dp T2))) y11, .res (.more (.dp T4) (.one (.dp T2))) y13, .res (.more (.dp T2) (.one (.dp T2))) y15, .res (.one (.dp T2)) y17, .dec false, .dec true, .dec true, .dec true, .dec true, .dec true, .dec true, .dec true, .dec true, .dec true, .dec true, .res (.one (.ow T33 34)) y30, .dec true, .res (.one (.dp T4)) y32, .dec true, .dec false, .dec false, .dec false, .dec false, .dec true, .dec false, .dec false, .dec false, .dec false, .dec false, .dec false, .dec true, .dec false, .dec false], [], via (cutP (And.intro (And.intro (And.intro trivial e2) e4) e6) [] (tourlaw2_NearSays.c1p a0 a1 y5) (((tourlaw2_NearSays.c1_ok k a0 a1 y5).ap e9)) (retP (And.intro (And.intro (And.intro (And.intro (And.intro (And.intro (And.intro (And.intro (And.intro (And.intro (And.intro (And.intro (And.intro (And.intro (And.intro (And.intro (And.intro (And.intro (And.intro (And.intro (And.intro (And.intro (And.intro (And.intro (And.intro (And.intro (And.intro (And.intro (And.intro (And.intro trivial e10) e12) e14) e16) e18) e19) e27) e27) e27) e28) e28) e28) e29) e29) e29) (And.intro e29 e31)) (And.intro e29 e33)) e29) e34) e34) e34) e34) e34) e34) ff) ff) ff) ff) ff) ff) (.one (.dp T4)) (false : Bool))) (by kernel_rfl)⟩))) (fun e29 =>
       Owp.some (⟨[.res (.one (.ow T33 34)) y1, .res (.one (.ow T33 34)) y3, .res (.more (.dp T2) (.one (.dp T2))) y5, .cutR 2 ⟨[], [], (tourlaw2_NearSays.c1p a0 a1 y5), 0, .normal, (tourlaw2_NearSays.c1q a0 a1 o8), 0⟩, .dec false, .res (.more (.ow T33 34) (.one (.dp T2))) y11, .res (.more (.dp T4) (.one (.dp T2))) y13, .res (.more (.dp T2) (.one (.dp T2))) y15, .res (.one (.dp T2)) y17, .dec false, .dec true, .dec true, .dec true, .dec true, .dec true, .dec true, .dec false, .dec false, .dec false, .dec false, .dec true, .dec false, .dec true, .dec false, .dec false, .dec false, .dec false, .dec false, .dec true, .dec false, .dec false, .dec false, .dec false, .dec false, .dec false, .dec true, .dec false, .dec false], [], via (cutP (And.intro (And.intro (And.intro trivial e2) e4) e6) [] (tourlaw2_NearSays.c1p a0 a1 y5) (((tourlaw2_NearSays.c1_ok k a0 a1 y5).ap e9)) (retP (And.intro (And.intro (And.intro (And.intro (And.intro (And.intro (And.intro (And.intro (And.intro (And.intro (And.intro (And.intro (And.intro (And.intro (And.intro (And.intro (And.intro (And.intro (And.intro (And.intro (And.intro (And.intro (And.intro (And.intro (And.intro (And.intro (And.intro (And.intro (And.intro (And.intro trivial e10) e12) e14) e16) e18) e19) e27) e27) e27) e28) e28) e28) e29) e29) e29) e29) e29) e29) ff) ff) ff) ff) ff) ff) ff) ff) ff) ff) ff) ff) (.one (.dp T4)) (false : Bool))) (by kernel_rfl)⟩))) (fun e28 =>
      Owp.some (⟨[.res (.one (.ow T33 34)) y1, .res (.one (.ow T33 34)) y3, .res (.more (.dp T2) (.one (.dp T2))) y5, .cutR 2 ⟨[], [], (tourlaw2_NearSays.c1p a0 a1 y5), 0, .normal, (tourlaw2_NearSays.c1q a0 a1 o8), 0⟩, .dec false, .res (.more (.ow T33 34) (.one (.dp T2))) y11, .res (.more (.dp T4) (.one (.dp T2))) y13, .res (.more (.dp T2) (.one (.dp T2))) y15, .res (.one (.dp T2)) y17, .dec false, .dec true, .dec true, .dec true, .dec false, .dec false, .dec false, .dec false, .dec false, .dec false, .dec false, .dec true, .dec false, .dec true, .dec false, .dec false, .dec false, .dec false, .dec false, .dec true, .dec false, .dec false, .dec false, .dec false, .dec false, .dec false, .dec true, .dec false, .dec false], [], via (cutP (And.intro (And.intro (And.intro trivial e2) e4) e6) [] (tourlaw2_NearSays.c1p a0 a1 y5) (((tourlaw2_NearSays.c1_ok k a0 a1 y5).ap e9)) (retP (And.intro (And.intro (And.intro (And.intro (And.intro (And.intro (And.intro (And.intro (And.intro (And.intro (And.intro (And.intro (And.intro (And.intro (And.intro (And.intro (And.intro (And.intro (And.intro (And.intro (And.intro (And.intro (And.intro (And.intro (And.intro (And.intro (And.intro (And.intro (And.intro (And.intro trivial e10) e12) e14) e16) e18) e19) e27) e27) e27) e28) e28) e28) ff) ff) ff) ff) ff) ff) ff) ff) ff) ff) ff) ff) ff) ff) ff) ff) ff) ff) (.one (.dp T4)) (false : Bool))) (by kernel_rfl)⟩))) (fun e27 =>
     Owp.some (⟨[.res (.one (.ow T33 34)) y1, .res (.one (.ow T33 34)) y3, .res (.more (.dp T2) (.one (.dp T2))) y5, .cutR 2 ⟨[], [], (tourlaw2_NearSays.c1p a0 a1 y5), 0, .normal, (tourlaw2_NearSays.c1q a0 a1 o8), 0⟩, .dec false, .res (.more (.ow T33 34) (.one (.dp T2))) y11, .res (.more (.dp T4) (.one (.dp T2))) y13, .res (.more (.dp T2) (.one (.dp T2))) y15, .res (.one (.dp T2)) y17, .dec false, .dec false, .dec false, .dec false, .dec false, .dec false, .dec false, .dec false, .dec false, .dec false, .dec false, .dec true, .dec false, .dec true, .dec false, .dec false, .dec false, .dec false, .dec false, .dec true, .dec false, .dec false, .dec false, .dec false, .dec false, .dec false, .dec true, .dec false, .dec false], [], via (cutP (And.intro (And.intro (And.intro trivial e2) e4) e6) [] (tourlaw2_NearSays.c1p a0 a1 y5) (((tourlaw2_NearSays.c1_ok k a0 a1 y5).ap e9)) (retP (And.intro (And.intro (And.intro (And.intro (And.intro (And.intro (And.intro (And.intro (And.intro (And.intro (And.intro (And.intro (And.intro (And.intro (And.intro (And.intro (And.intro (And.intro (And.intro (And.intro (And.intro (And.intro (And.intro (And.intro (And.intro (And.intro (And.intro (And.intro (And.intro (And.intro trivial e10) e12) e14) e16) e18) e19) e27) e27) e27) ff) ff) ff) ff) ff) ff) ff) ff) ff) ff) ff) ff) ff) ff) ff) ff) ff) ff) ff) ff) ff) (.one (.dp T4)) (false : Bool))) (by kernel_rfl)⟩))))
theorem tourlaw2_NearSays.ok (k : Nat) : FnOk PR 3 (tourlaw2_NearSays.sp k) :=
  fn_ok (tourlaw2_NearSays.cok k) hmix Try.func3 (code := tourlaw2_NearSays.code) (by kernel_rfl) (by kernel_rfl) (by kernel_rfl) rfl (by kernel_rfl) (by kernel_rfl) (by kernel_rfl) (fun x => Nat.le_of_ble_eq_true (by kernel_rfl)) fun x y hy => (tourlaw2_NearSays.way k x.1 x.2.1).ap hy

end Go.Proofs.T1
