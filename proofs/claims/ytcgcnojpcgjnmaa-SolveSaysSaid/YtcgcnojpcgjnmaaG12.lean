import Derived.Test.YtcgcnojpcgjnmaaG0
import Derived.Test.YtcgcnojpcgjnmaaG2
import Derived.Test.YtcgcnojpcgjnmaaG3
import Derived.Test.YtcgcnojpcgjnmaaG7
import Derived.Test.YtcgcnojpcgjnmaaG10
import Derived.Test.YtcgcnojpcgjnmaaG11
namespace Go.Proofs.T1
open Go Go.Sx Go.Proofs
set_option maxRecDepth 100000
set_option linter.unusedVariables false
/-! tourney/tourref2.Solve -/
noncomputable def tourref2_Solve.code : Code := Func.cd Try.f77
def tourref2_Solve.c2 (k : Nat) (a1 : (List V78)) (v5 : Int) (y1 : (List V25)) : Option (Int) :=
  bif' (ilt (el Z25 y1 (el Z78 a1 v5).2.1).2.2.2.2.2.2.2.1 (el Z25 y1 (el Z78 a1 v5).1).2.2.2.2.2.2.2.1)
  (some (el Z25 y1 (el Z78 a1 v5).2.1).2.2.2.2.2.2.2.1)
  (some (el Z25 y1 (el Z78 a1 v5).1).2.2.2.2.2.2.2.1)
def tourref2_Solve.c3 (k : Nat) (a1 : (List V78)) (v5 : Int) : Option (Int) :=
  bif' (ilt (isub .i64 (el Z78 a1 v5).2.2.2.2.2.1 512) 0)
  (some 0)
  (some (isub .i64 (el Z78 a1 v5).2.2.2.2.2.1 512))
def tourref2_Solve.c4 (k : Nat) (a1 : (List V78)) (v5 : Int) (y1 : (List V25)) (y31 : Int) (y33 : Int) : Option (Int) :=
  bif' (ilt y33 (-32768))
  (bnd (fix_Mul k (imax (el Z25 y1 (el Z78 a1 v5).1).2.2.2.2.2.2.1 (el Z25 y1 (el Z78 a1 v5).2.1).2.2.2.2.2.2.1) (ineg .i64 y33)) fun y36 =>
   bnd (fix_Add k y31 y36) fun y38 =>
   some y38)
  (some y31)
def tourref2_Solve.c1 (k : Nat) (a1 : (List V78)) (a2 : Int) (y1 : (List V25)) : Nat → Int → (List V164) → Option ((List V164))
  | 0, _, _ => none
  | n + 1, v5, v6 =>
   bif' (ilt v5 (len a1))
   (req (inL v5 a1) <|
    req (inL (el Z78 a1 v5).1 y1) <|
    req (inL (el Z78 a1 v5).2.1 y1) <|
    bnd (tourref2_Solve.c2 k a1 v5 y1) fun o12 =>
    bnd (tourref2_Ease k (el Z25 y1 (el Z78 a1 v5).1) (el Z78 a1 v5).2.2.2.1 (el Z78 a1 v5).2.2.2.2.1) fun y14 =>
    bnd (tourref2_Ease k (el Z25 y1 (el Z78 a1 v5).2.1) (el Z78 a1 v5).2.2.2.1 (el Z78 a1 v5).2.2.2.2.1) fun y16 =>
    bnd (fix_Add k y14 y16) fun y18 =>
    bnd (tourref2_Ease k (el Z25 y1 (el Z78 a1 v5).1) (el Z78 a1 v5).2.2.2.1 ((ineg .i64 (el Z78 a1 v5).2.2.2.2.1.2.1), (el Z78 a1 v5).2.2.2.2.1.1, ())) fun y20 =>
    bnd (tourref2_Ease k (el Z25 y1 (el Z78 a1 v5).2.1) (el Z78 a1 v5).2.2.2.1 ((ineg .i64 (el Z78 a1 v5).2.2.2.2.1.2.1), (el Z78 a1 v5).2.2.2.2.1.1, ())) fun y22 =>
    bnd (fix_Add k y20 y22) fun y24 =>
    bnd (tourref2_Solve.c3 k a1 v5) fun o27 =>
    bnd (fix_Mul k o27 8192) fun y29 =>
    bnd (tourref2_quotient k y29 a2) fun y31 =>
    bnd (tourref2_along k y1 (el Z78 a1 v5).1 (el Z78 a1 v5).2.1 (el Z78 a1 v5).2.2.2.1 (el Z78 a1 v5).2.2.2.1 (el Z78 a1 v5).2.2.2.2.1) fun y33 =>
    bnd (tourref2_Solve.c4 k a1 v5 y1 y31 y33) fun o40 =>
    req (room 64 v6 [((el Z78 a1 v5).2.2.2.2.1, ((ineg .i64 (el Z78 a1 v5).2.2.2.2.1.2.1), (el Z78 a1 v5).2.2.2.2.1.1, ()), y18, y24, o40, o12, ())]) <|
    tourref2_Solve.c1 k a1 a2 y1 n (iadd .i64 v5 1) (v6 ++ [((el Z78 a1 v5).2.2.2.2.1, ((ineg .i64 (el Z78 a1 v5).2.2.2.2.1.2.1), (el Z78 a1 v5).2.2.2.2.1.1, ()), y18, y24, o40, o12, ())]))
   (some v6)
def tourref2_Solve.c5 (k : Nat) (o43 : (List V164)) (y3 : (List V78)) : Nat → Int → (List V25) → Option ((List V25))
  | 0, _, _ => none
  | n + 1, v45, v46 =>
   bif' (ilt v45 (len y3))
   (req (inL v45 y3) <|
    req (inL v45 o43) <|
    bnd (vec_Scale k (el Z164 o43 v45).1 (el Z78 y3 v45).2.2.2.2.2.2.1) fun y50 =>
    bnd (vec_Scale k (el Z164 o43 v45).2.1 (el Z78 y3 v45).2.2.2.2.2.2.2.1) fun y52 =>
    bnd (vec_Add k y50 y52) fun y54 =>
    bnd (tourref2_pushed k (el Z78 y3 v45).1 (el Z78 y3 v45).2.1 (el Z78 y3 v45).2.2.2.1 (el Z78 y3 v45).2.2.2.1 y54 v46) fun y56 =>
    tourref2_Solve.c5 k o43 y3 n (iadd .i64 v45 1) y56)
   (some v46)
def tourref2_Solve.c7 (k : Nat) (o43 : (List V164)) (v60 : Int) (v61 : (List V25)) (v62 : (List V78)) : Option (((List V25) × (List V78))) :=
  bif' (ine (el Z164 o43 (irem v60 (len v62))).2.2.2.1 0)
  (bnd (fix_Mul k (el Z164 o43 (irem v60 (len v62))).2.2.2.2.2.1 (el Z78 v62 (irem v60 (len v62))).2.2.2.2.2.2.1) fun y68 =>
   bnd (tourref2_along k v61 (el Z78 v62 (irem v60 (len v62))).1 (el Z78 v62 (irem v60 (len v62))).2.1 (el Z78 v62 (irem v60 (len v62))).2.2.2.1 (el Z78 v62 (irem v60 (len v62))).2.2.2.1 (el Z164 o43 (irem v60 (len v62))).2.1) fun y70 =>
   bnd (tourref2_quotient k y70 (el Z164 o43 (irem v60 (len v62))).2.2.2.1) fun y72 =>
   bnd (fix_Sub k (el Z78 v62 (irem v60 (len v62))).2.2.2.2.2.2.2.1 y72) fun y74 =>
   bnd (tourref2_nearest k y74 y68) fun y76 =>
   bnd (fix_Sub k y76 (el Z78 v62 (irem v60 (len v62))).2.2.2.2.2.2.2.1) fun y78 =>
   bnd (vec_Scale k (el Z164 o43 (irem v60 (len v62))).2.1 y78) fun y80 =>
   bnd (tourref2_pushed k (el Z78 v62 (irem v60 (len v62))).1 (el Z78 v62 (irem v60 (len v62))).2.1 (el Z78 v62 (irem v60 (len v62))).2.2.2.1 (el Z78 v62 (irem v60 (len v62))).2.2.2.1 y80 v61) fun y82 =>
   req (inL (irem v60 (len v62)) v62) <|
   some (y82, (st v62 (irem v60 (len v62)) ((el Z78 v62 (irem v60 (len v62))).1, (el Z78 v62 (irem v60 (len v62))).2.1, (el Z78 v62 (irem v60 (len v62))).2.2.1, (el Z78 v62 (irem v60 (len v62))).2.2.2.1, (el Z78 v62 (irem v60 (len v62))).2.2.2.2.1, (el Z78 v62 (irem v60 (len v62))).2.2.2.2.2.1, (el Z78 v62 (irem v60 (len v62))).2.2.2.2.2.2.1, y76, ()))))
  (some (v61, v62))
def tourref2_Solve.c8 (k : Nat) (y94 : Int) : Option (Int) :=
  bif' (ilt y94 0)
  (some 0)
  (some y94)
def tourref2_Solve.c6 (k : Nat) (a3 : Int) (o43 : (List V164)) (y3 : (List V78)) : Nat → Int → (List V25) → (List V78) → Option (((List V25) × (List V78)))
  | 0, _, _, _ => none
  | n + 1, v60, v61, v62 =>
   bif' (ilt v60 (imul .i64 a3 (len y3)))
   (req (nz (len v62)) <|
    req (inL (irem v60 (len v62)) v62) <|
    req (inL (irem v60 (len v62)) o43) <|
    bnd (tourref2_Solve.c7 k o43 v60 v61 v62) fun o85 =>
    bif' (ine (el Z164 o43 (irem v60 (len v62))).2.2.1 0)
    (bnd (tourref2_along k o85.1 (el Z78 v62 (irem v60 (len v62))).1 (el Z78 v62 (irem v60 (len v62))).2.1 (el Z78 v62 (irem v60 (len v62))).2.2.2.1 (el Z78 v62 (irem v60 (len v62))).2.2.2.1 (el Z164 o43 (irem v60 (len v62))).1) fun y88 =>
     bnd (fix_Sub k (el Z164 o43 (irem v60 (len v62))).2.2.2.2.1 y88) fun y90 =>
     bnd (tourref2_quotient k y90 (el Z164 o43 (irem v60 (len v62))).2.2.1) fun y92 =>
     bnd (fix_Add k (el Z78 v62 (irem v60 (len v62))).2.2.2.2.2.2.1 y92) fun y94 =>
     bnd (tourref2_Solve.c8 k y94) fun o97 =>
     bnd (fix_Sub k o97 (el Z78 v62 (irem v60 (len v62))).2.2.2.2.2.2.1) fun y99 =>
     bnd (vec_Scale k (el Z164 o43 (irem v60 (len v62))).1 y99) fun y101 =>
     bnd (tourref2_pushed k (el Z78 v62 (irem v60 (len v62))).1 (el Z78 v62 (irem v60 (len v62))).2.1 (el Z78 v62 (irem v60 (len v62))).2.2.2.1 (el Z78 v62 (irem v60 (len v62))).2.2.2.1 y101 o85.1) fun y103 =>
     req (inL (irem v60 (len v62)) o85.2) <|
     tourref2_Solve.c6 k a3 o43 y3 n (iadd .i64 v60 1) y103 (st o85.2 (irem v60 (len v62)) ((el Z78 o85.2 (irem v60 (len v62))).1, (el Z78 o85.2 (irem v60 (len v62))).2.1, (el Z78 o85.2 (irem v60 (len v62))).2.2.1, (el Z78 o85.2 (irem v60 (len v62))).2.2.2.1, (el Z78 o85.2 (irem v60 (len v62))).2.2.2.2.1, (el Z78 o85.2 (irem v60 (len v62))).2.2.2.2.2.1, o97, (el Z78 o85.2 (irem v60 (len v62))).2.2.2.2.2.2.2)))
    (tourref2_Solve.c6 k a3 o43 y3 n (iadd .i64 v60 1) o85.1 o85.2))
   (some (v61, v62))
def tourref2_Solve (k : Nat) (a0 : (List V25)) (a1 : (List V78)) (a2 : Int) (a3 : Int) : Option ((List V25) × (List V78)) :=
  bnd (slices_Clone_153 k a0) fun y1 =>
  bnd (slices_Clone k a1) fun y3 =>
  bnd (tourref2_Solve.c1 k a1 a2 y1 k 0 []) fun o43 =>
  bnd (tourref2_Solve.c5 k o43 y3 k 0 y1) fun o58 =>
  bnd (tourref2_Solve.c6 k a3 o43 y3 k 0 o58 y3) fun o106 =>
  some (o106.1, o106.2)
noncomputable def tourref2_Solve.sp (k : Nat) : Go.Sx.Spec := ⟨(.pair (.slice T25) (.pair (.slice T78) T22)), (.more (.ow T25 26) (.one (.dp (.slice T78)))), fun x => tourref2_Solve k x.1 x.2.1 x.2.2.1 x.2.2.2.1, false⟩
noncomputable def tourref2_Solve.cx (k : Nat) : Go.Sx.Ctx := ⟨tys, [(153, slices_Clone_153.sp k), (128, slices_Clone.sp k), (23, tourref2_Ease.sp k), (85, fix_Add.sp k), (89, fix_Mul.sp k), (92, tourref2_quotient.sp k), (154, tourref2_along.sp k), (132, vec_Scale.sp k), (105, vec_Add.sp k), (90, fix_Sub.sp k), (93, tourref2_nearest.sp k)], eqs, 293, 0, [(155, tourref2_pushed.h k)], false⟩
theorem tourref2_Solve.cok (k : Nat) : CtxOk PR (tourref2_Solve.cx k) := ctx_ok tysOk eqsOk (FnsOk.cons (slices_Clone_153.ok k) (FnsOk.cons (slices_Clone.ok k) (FnsOk.cons (tourref2_Ease.ok k) (FnsOk.cons (fix_Add.ok k) (FnsOk.cons (fix_Mul.ok k) (FnsOk.cons (tourref2_quotient.ok k) (FnsOk.cons (tourref2_along.ok k) (FnsOk.cons (vec_Scale.ok k) (FnsOk.cons (vec_Add.ok k) (FnsOk.cons (fix_Sub.ok k) (FnsOk.cons (tourref2_nearest.ok k) FnsOk.nil))))))))))) (HsOk.cons (tourref2_pushed.ok k) HsOk.nil)
noncomputable def tourref2_Solve.c2p (a1 : (List V78)) (a2 : Int) (a3 : Int) (v5 : Int) (v6 : (List V164)) (y1 : (List V25)) (y3 : (List V78)) : SL := ⟨[(2, (.val T2 a2)), (3, (.val T2 a3)), (10, (.val .own (0 : Nat))), (11, (.val .own (1 : Nat))), (12, (.val .own (2 : Nat))), (14, (.val .ptr ⟨3, 0, (0 : Int), 0, 0⟩)), (15, (.val .ptr ⟨4, 0, (0 : Int), 0, 0⟩)), (16, (.val .ptr ⟨5, 0, (0 : Int), 0, 0⟩)), (17, (.val .ptr ⟨6, 0, (0 : Int), 0, 0⟩)), (34, (.val (.slice T78) a1)), (35, (.val T2 (len a1))), (36, (.val T2 v5)), (67, (.val T4 (ilt (el Z25 y1 (el Z78 a1 v5).2.1).2.2.2.2.2.2.2.1 (el Z25 y1 (el Z78 a1 v5).1).2.2.2.2.2.2.2.1)))], [(0, .row T25 y1 26), (1, .row T78 y3 79), (2, .row T164 v6 165), (3, .cells T78 (el Z78 a1 v5)), (4, .cells T25 (el Z25 y1 (el Z78 a1 v5).1)), (5, .cells T25 (el Z25 y1 (el Z78 a1 v5).2.1)), (6, .cells T164 ((el Z78 a1 v5).2.2.2.2.1, ((ineg .i64 (el Z78 a1 v5).2.2.2.2.1.2.1), (el Z78 a1 v5).2.2.2.2.1.1, ()), (0 : Int), (0 : Int), (0 : Int), (el Z25 y1 (el Z78 a1 v5).1).2.2.2.2.2.2.2.1, ()))]⟩
noncomputable def tourref2_Solve.c2q (a1 : (List V78)) (a2 : Int) (a3 : Int) (v5 : Int) (v6 : (List V164)) (y1 : (List V25)) (y3 : (List V78)) (o : Int) : SL := (fun v => ⟨[(2, (.val T2 a2)), (3, (.val T2 a3)), (10, (.val .own (0 : Nat))), (11, (.val .own (1 : Nat))), (12, (.val .own (2 : Nat))), (14, (.val .ptr ⟨3, 0, (0 : Int), 0, 0⟩)), (15, (.val .ptr ⟨4, 0, (0 : Int), 0, 0⟩)), (16, (.val .ptr ⟨5, 0, (0 : Int), 0, 0⟩)), (17, (.val .ptr ⟨6, 0, (0 : Int), 0, 0⟩)), (34, (.val (.slice T78) a1)), (35, (.val T2 (len a1))), (36, (.val T2 v5))], [(0, .row T25 y1 26), (1, .row T78 y3 79), (2, .row T164 v6 165), (3, .cells T78 (el Z78 a1 v5)), (4, .cells T25 (el Z25 y1 (el Z78 a1 v5).1)), (5, .cells T25 (el Z25 y1 (el Z78 a1 v5).2.1)), (6, .cells T164 ((el Z78 a1 v5).2.2.2.2.1, ((ineg .i64 (el Z78 a1 v5).2.2.2.2.1.2.1), (el Z78 a1 v5).2.2.2.2.1.1, ()), (0 : Int), (0 : Int), (0 : Int), v, ()))]⟩) o
noncomputable def tourref2_Solve.c2x (o : Int) : Ex := (fun _ => .normal) o
noncomputable def tourref2_Solve.c2n (o : Int) : Nat := (fun _ => 7) o
theorem tourref2_Solve.c2_ok (k : Nat) (a1 : (List V78)) (a2 : Int) (a3 : Int) (v5 : Int) (v6 : (List V164)) (y1 : (List V25)) (y3 : (List V78)) : Owp (tourref2_Solve.c2 k a1 v5 y1) fun o => Triple PR (tourref2_Solve.cx k) (sub tourref2_Solve.code [1, 1, 1, 0, 1, 0, 0, 1, 1, 0, 0, 1, 1, 1, 0, 1]) 7 (tourref2_Solve.c2p a1 a2 a3 v5 v6 y1 y3) (tourref2_Solve.c2x o) (tourref2_Solve.c2n o) (tourref2_Solve.c2q a1 a2 a3 v5 v6 y1 y3 o) := by
  unfold tourref2_Solve.c2; exact
   Owp.bif (fun e11 =>
   Owp.some (triple_way (tourref2_Solve.cok k) hmix [.dec true] [] [(0, 0), (1, 1), (2, 2), (3, 3), (4, 4), (5, 5), (6, 6)] (via (finP (And.intro trivial e11) .normal [(0, 0), (1, 1), (2, 2), (3, 3), (4, 4), (5, 5), (6, 6)] (tourref2_Solve.c2q a1 a2 a3 v5 v6 y1 y3 (el Z25 y1 (el Z78 a1 v5).2.1).2.2.2.2.2.2.2.1)) (by kernel_rfl)))) (fun e11 =>
   Owp.some (triple_way (tourref2_Solve.cok k) hmix [.dec false] [] [(0, 0), (1, 1), (2, 2), (3, 3), (4, 4), (5, 5), (6, 6)] (via (finP (And.intro trivial e11) .normal [(0, 0), (1, 1), (2, 2), (3, 3), (4, 4), (5, 5), (6, 6)] (tourref2_Solve.c2q a1 a2 a3 v5 v6 y1 y3 (el Z25 y1 (el Z78 a1 v5).1).2.2.2.2.2.2.2.1)) (by kernel_rfl))))
noncomputable def tourref2_Solve.c3p (a1 : (List V78)) (a2 : Int) (a3 : Int) (o12 : Int) (v5 : Int) (v6 : (List V164)) (y1 : (List V25)) (y3 : (List V78)) (y18 : Int) (y24 : Int) : SL := ⟨[(2, (.val T2 a2)), (3, (.val T2 a3)), (10, (.val .own (0 : Nat))), (11, (.val .own (1 : Nat))), (12, (.val .own (2 : Nat))), (14, (.val .ptr ⟨3, 0, (0 : Int), 0, 0⟩)), (15, (.val .ptr ⟨4, 0, (0 : Int), 0, 0⟩)), (16, (.val .ptr ⟨5, 0, (0 : Int), 0, 0⟩)), (17, (.val .ptr ⟨6, 0, (0 : Int), 0, 0⟩)), (18, (.val T2 (isub .i64 (el Z78 a1 v5).2.2.2.2.2.1 (512 : Int)))), (34, (.val (.slice T78) a1)), (35, (.val T2 (len a1))), (36, (.val T2 v5)), (103, (.val T4 (ilt (isub .i64 (el Z78 a1 v5).2.2.2.2.2.1 (512 : Int)) (0 : Int))))], [(0, .row T25 y1 26), (1, .row T78 y3 79), (2, .row T164 v6 165), (3, .cells T78 (el Z78 a1 v5)), (4, .cells T25 (el Z25 y1 (el Z78 a1 v5).1)), (5, .cells T25 (el Z25 y1 (el Z78 a1 v5).2.1)), (6, .cells T164 ((el Z78 a1 v5).2.2.2.2.1, ((ineg .i64 (el Z78 a1 v5).2.2.2.2.1.2.1), (el Z78 a1 v5).2.2.2.2.1.1, ()), y18, y24, (0 : Int), o12, ()))]⟩
noncomputable def tourref2_Solve.c3q (a1 : (List V78)) (a2 : Int) (a3 : Int) (o12 : Int) (v5 : Int) (v6 : (List V164)) (y1 : (List V25)) (y3 : (List V78)) (y18 : Int) (y24 : Int) (o : Int) : SL := (fun v => ⟨[(2, (.val T2 a2)), (3, (.val T2 a3)), (10, (.val .own (0 : Nat))), (11, (.val .own (1 : Nat))), (12, (.val .own (2 : Nat))), (14, (.val .ptr ⟨3, 0, (0 : Int), 0, 0⟩)), (15, (.val .ptr ⟨4, 0, (0 : Int), 0, 0⟩)), (16, (.val .ptr ⟨5, 0, (0 : Int), 0, 0⟩)), (17, (.val .ptr ⟨6, 0, (0 : Int), 0, 0⟩)), (18, (.val T2 v)), (34, (.val (.slice T78) a1)), (35, (.val T2 (len a1))), (36, (.val T2 v5))], [(0, .row T25 y1 26), (1, .row T78 y3 79), (2, .row T164 v6 165), (3, .cells T78 (el Z78 a1 v5)), (4, .cells T25 (el Z25 y1 (el Z78 a1 v5).1)), (5, .cells T25 (el Z25 y1 (el Z78 a1 v5).2.1)), (6, .cells T164 ((el Z78 a1 v5).2.2.2.2.1, ((ineg .i64 (el Z78 a1 v5).2.2.2.2.1.2.1), (el Z78 a1 v5).2.2.2.2.1.1, ()), y18, y24, (0 : Int), o12, ()))]⟩) o
noncomputable def tourref2_Solve.c3x (o : Int) : Ex := (fun _ => .normal) o
noncomputable def tourref2_Solve.c3n (o : Int) : Nat := (fun _ => 7) o
theorem tourref2_Solve.c3_ok (k : Nat) (a1 : (List V78)) (a2 : Int) (a3 : Int) (o12 : Int) (v5 : Int) (v6 : (List V164)) (y1 : (List V25)) (y3 : (List V78)) (y18 : Int) (y24 : Int) : Owp (tourref2_Solve.c3 k a1 v5) fun o => Triple PR (tourref2_Solve.cx k) (sub tourref2_Solve.code [1, 1, 1, 0, 1, 0, 0, 1, 1, 0, 0, 1, 1, 1, 1, 1, 1, 0, 1]) 7 (tourref2_Solve.c3p a1 a2 a3 o12 v5 v6 y1 y3 y18 y24) (tourref2_Solve.c3x o) (tourref2_Solve.c3n o) (tourref2_Solve.c3q a1 a2 a3 o12 v5 v6 y1 y3 y18 y24 o) := by
  unfold tourref2_Solve.c3; exact
   Owp.bif (fun e26 =>
   Owp.some (triple_way (tourref2_Solve.cok k) hmix [.dec true] [] [(0, 0), (1, 1), (2, 2), (3, 3), (4, 4), (5, 5), (6, 6)] (via (finP (And.intro trivial e26) .normal [(0, 0), (1, 1), (2, 2), (3, 3), (4, 4), (5, 5), (6, 6)] (tourref2_Solve.c3q a1 a2 a3 o12 v5 v6 y1 y3 y18 y24 (0 : Int))) (by kernel_rfl)))) (fun e26 =>
   Owp.some (triple_way (tourref2_Solve.cok k) hmix [.dec false] [] [(0, 0), (1, 1), (2, 2), (3, 3), (4, 4), (5, 5), (6, 6)] (via (finP (And.intro trivial e26) .normal [(0, 0), (1, 1), (2, 2), (3, 3), (4, 4), (5, 5), (6, 6)] (tourref2_Solve.c3q a1 a2 a3 o12 v5 v6 y1 y3 y18 y24 (isub .i64 (el Z78 a1 v5).2.2.2.2.2.1 (512 : Int)))) (by kernel_rfl))))
noncomputable def tourref2_Solve.c4p (a1 : (List V78)) (a2 : Int) (a3 : Int) (o12 : Int) (v5 : Int) (v6 : (List V164)) (y1 : (List V25)) (y3 : (List V78)) (y18 : Int) (y24 : Int) (y31 : Int) (y33 : Int) : SL := ⟨[(2, (.val T2 a2)), (3, (.val T2 a3)), (10, (.val .own (0 : Nat))), (11, (.val .own (1 : Nat))), (12, (.val .own (2 : Nat))), (15, (.val .ptr ⟨3, 0, (0 : Int), 0, 0⟩)), (16, (.val .ptr ⟨4, 0, (0 : Int), 0, 0⟩)), (17, (.val .ptr ⟨5, 0, (0 : Int), 0, 0⟩)), (19, (.val T2 y33)), (34, (.val (.slice T78) a1)), (35, (.val T2 (len a1))), (36, (.val T2 v5)), (122, (.val T4 (ilt y33 (-32768 : Int))))], [(0, .row T25 y1 26), (1, .row T78 y3 79), (2, .row T164 v6 165), (3, .cells T25 (el Z25 y1 (el Z78 a1 v5).1)), (4, .cells T25 (el Z25 y1 (el Z78 a1 v5).2.1)), (5, .cells T164 ((el Z78 a1 v5).2.2.2.2.1, ((ineg .i64 (el Z78 a1 v5).2.2.2.2.1.2.1), (el Z78 a1 v5).2.2.2.2.1.1, ()), y18, y24, y31, o12, ()))]⟩
noncomputable def tourref2_Solve.c4q (a1 : (List V78)) (a2 : Int) (a3 : Int) (o12 : Int) (v5 : Int) (v6 : (List V164)) (y1 : (List V25)) (y3 : (List V78)) (y18 : Int) (y24 : Int) (o : Int) : SL := (fun v => ⟨[(2, (.val T2 a2)), (3, (.val T2 a3)), (10, (.val .own (0 : Nat))), (11, (.val .own (1 : Nat))), (12, (.val .own (2 : Nat))), (17, (.val .ptr ⟨3, 0, (0 : Int), 0, 0⟩)), (34, (.val (.slice T78) a1)), (35, (.val T2 (len a1))), (36, (.val T2 v5))], [(0, .row T25 y1 26), (1, .row T78 y3 79), (2, .row T164 v6 165), (3, .cells T164 ((el Z78 a1 v5).2.2.2.2.1, ((ineg .i64 (el Z78 a1 v5).2.2.2.2.1.2.1), (el Z78 a1 v5).2.2.2.2.1.1, ()), y18, y24, v, o12, ()))]⟩) o
noncomputable def tourref2_Solve.c4x (o : Int) : Ex := (fun _ => .normal) o
noncomputable def tourref2_Solve.c4n (o : Int) : Nat := (fun _ => 4) o
theorem tourref2_Solve.c4_ok (k : Nat) (a1 : (List V78)) (a2 : Int) (a3 : Int) (o12 : Int) (v5 : Int) (v6 : (List V164)) (y1 : (List V25)) (y3 : (List V78)) (y18 : Int) (y24 : Int) (y31 : Int) (y33 : Int) : Owp (tourref2_Solve.c4 k a1 v5 y1 y31 y33) fun o => Triple PR (tourref2_Solve.cx k) (sub tourref2_Solve.code [1, 1, 1, 0, 1, 0, 0, 1, 1, 0, 0, 1, 1, 1, 1, 1, 1, 1, 1, 0, 1, 1]) 6 (tourref2_Solve.c4p a1 a2 a3 o12 v5 v6 y1 y3 y18 y24 y31 y33) (tourref2_Solve.c4x o) (tourref2_Solve.c4n o) (tourref2_Solve.c4q a1 a2 a3 o12 v5 v6 y1 y3 y18 y24 o) := by
  unfold tourref2_Solve.c4; exact
   Owp.bif (fun e35 =>
   Owp.bnd fun y36 e37 =>
    Owp.bnd fun y38 e39 =>
    Owp.some (triple_way (tourref2_Solve.cok k) hmix [.dec true, .res (.one (.dp T2)) y36, .res (.one (.dp T2)) y38] [] [(0, 0), (1, 1), (2, 2), (3, 5)] (via (finP (And.intro (And.intro (And.intro trivial e35) e37) e39) .normal [(0, 0), (1, 1), (2, 2), (3, 5)] (tourref2_Solve.c4q a1 a2 a3 o12 v5 v6 y1 y3 y18 y24 y38)) (by kernel_rfl)))) (fun e35 =>
   Owp.some (triple_way (tourref2_Solve.cok k) hmix [.dec false] [] [(0, 0), (1, 1), (2, 2), (3, 5)] (via (finP (And.intro trivial e35) .normal [(0, 0), (1, 1), (2, 2), (3, 5)] (tourref2_Solve.c4q a1 a2 a3 o12 v5 v6 y1 y3 y18 y24 y31)) (by kernel_rfl))))
noncomputable def tourref2_Solve.c1p (a1 : (List V78)) (a2 : Int) (a3 : Int) (y1 : (List V25)) (y3 : (List V78)) (v5 : Int) (v6 : (List V164)) : SL := ⟨[(2, (.val T2 a2)), (3, (.val T2 a3)), (10, (.val .own (0 : Nat))), (11, (.val .own (1 : Nat))), (12, (.val .own (2 : Nat))), (34, (.val (.slice T78) a1)), (35, (.val T2 (len a1))), (36, (.val T2 v5))], [(0, .row T25 y1 26), (1, .row T78 y3 79), (2, .row T164 v6 165)]⟩
noncomputable def tourref2_Solve.c1q (a3 : Int) (y1 : (List V25)) (y3 : (List V78)) (o : (List V164)) : SL := (fun v => ⟨[(3, (.val T2 a3)), (10, (.val .own (0 : Nat))), (11, (.val .own (1 : Nat))), (12, (.val .own (2 : Nat)))], [(0, .row T25 y1 26), (1, .row T78 y3 79), (2, .row T164 v 165)]⟩) o
noncomputable def tourref2_Solve.c1x (o : (List V164)) : Ex := (fun _ => (.exit 0)) o
noncomputable def tourref2_Solve.c1n (o : (List V164)) : Nat := (fun _ => 3) o
theorem tourref2_Solve.c1_ok (k : Nat) (a1 : (List V78)) (a2 : Int) (a3 : Int) (y1 : (List V25)) (y3 : (List V78)) : ∀ (n : Nat) (v5 : Int) (v6 : (List V164)), Owp (tourref2_Solve.c1 k a1 a2 y1 n v5 v6) fun o => LTriple PR (tourref2_Solve.cx k) (sub tourref2_Solve.code [1, 1, 1, 0, 1, 0, 0]) 3 (tourref2_Solve.c1p a1 a2 a3 y1 y3 v5 v6) (tourref2_Solve.c1x o) (tourref2_Solve.c1n o) (tourref2_Solve.c1q a3 y1 y3 o)
  | 0, _, _ => fun _ h => nomatch h
  | n + 1, v5, v6 => Owp.of (tourref2_Solve.c1.eq_2 ..) (
   Owp.bif (fun e7 =>
   Owp.req fun h8 =>
    Owp.req fun h9 =>
    Owp.req fun h10 =>
    Owp.bnd fun o12 e13 =>
    Owp.bnd fun y14 e15 =>
    Owp.bnd fun y16 e17 =>
    Owp.bnd fun y18 e19 =>
    Owp.bnd fun y20 e21 =>
    Owp.bnd fun y22 e23 =>
    Owp.bnd fun y24 e25 =>
    Owp.bnd fun o27 e28 =>
    Owp.bnd fun y29 e30 =>
    Owp.bnd fun y31 e32 =>
    Owp.bnd fun y33 e34 =>
    Owp.bnd fun o40 e41 =>
    Owp.req fun h42 =>
    fun y hy => loop_back (tourref2_Solve.cok k) hmix 3 (tourref2_Solve.c1p a1 a2 a3 y1 y3 (iadd .i64 v5 (1 : Int)) (v6 ++ [((el Z78 a1 v5).2.2.2.2.1, ((ineg .i64 (el Z78 a1 v5).2.2.2.2.1.2.1), (el Z78 a1 v5).2.2.2.2.1.1, ()), y18, y24, o40, o12, ())])) [.dec true, .cut ⟨[], [(0, 0), (1, 1), (2, 2), (3, 6), (4, 18), (5, 19), (6, 35)], (tourref2_Solve.c2p a1 a2 a3 v5 v6 y1 y3), 7, .normal, (tourref2_Solve.c2q a1 a2 a3 v5 v6 y1 y3 o12), 7⟩, .res (.one (.dp T2)) y14, .res (.one (.dp T2)) y16, .res (.one (.dp T2)) y18, .res (.one (.dp T2)) y20, .res (.one (.dp T2)) y22, .res (.one (.dp T2)) y24, .cut ⟨[], [(0, 0), (1, 1), (2, 2), (3, 3), (4, 4), (5, 5), (6, 6)], (tourref2_Solve.c3p a1 a2 a3 o12 v5 v6 y1 y3 y18 y24), 7, .normal, (tourref2_Solve.c3q a1 a2 a3 o12 v5 v6 y1 y3 y18 y24 o27), 7⟩, .res (.one (.dp T2)) y29, .res (.one (.dp T2)) y31, .res (.one (.dp T2)) y33, .cut ⟨[], [(0, 0), (1, 1), (2, 2), (3, 4), (4, 5), (5, 6)], (tourref2_Solve.c4p a1 a2 a3 o12 v5 v6 y1 y3 y18 y24 y31 y33), 6, .normal, (tourref2_Solve.c4q a1 a2 a3 o12 v5 v6 y1 y3 y18 y24 o40), 4⟩, .dec true] [] [(0, 0), (1, 1), (2, 7)] (via (cutP (And.intro (And.intro (And.intro (And.intro (And.intro (And.intro trivial e7) h8) h9) h9) h10) h10) [(0, 0), (1, 1), (2, 2), (3, 6), (4, 18), (5, 19), (6, 35)] (tourref2_Solve.c2p a1 a2 a3 v5 v6 y1 y3) (((tourref2_Solve.c2_ok k a1 a2 a3 v5 v6 y1 y3).ap e13)) (cutP (And.intro (And.intro (And.intro (And.intro (And.intro (And.intro trivial e15) e17) e19) e21) e23) e25) [(0, 0), (1, 1), (2, 2), (3, 3), (4, 4), (5, 5), (6, 6)] (tourref2_Solve.c3p a1 a2 a3 o12 v5 v6 y1 y3 y18 y24) (((tourref2_Solve.c3_ok k a1 a2 a3 o12 v5 v6 y1 y3 y18 y24).ap e28)) (cutP (And.intro (And.intro (And.intro trivial e30) e32) e34) [(0, 0), (1, 1), (2, 2), (3, 4), (4, 5), (5, 6)] (tourref2_Solve.c4p a1 a2 a3 o12 v5 v6 y1 y3 y18 y24 y31 y33) (((tourref2_Solve.c4_ok k a1 a2 a3 o12 v5 v6 y1 y3 y18 y24 y31 y33).ap e41)) (finP (And.intro trivial h42) .normal [(0, 0), (1, 1), (2, 7)] (tourref2_Solve.c1p a1 a2 a3 y1 y3 (iadd .i64 v5 (1 : Int)) (v6 ++ [((el Z78 a1 v5).2.2.2.2.1, ((ineg .i64 (el Z78 a1 v5).2.2.2.2.1.2.1), (el Z78 a1 v5).2.2.2.2.1.1, ()), y18, y24, o40, o12, ())])))))) (by kernel_rfl)) ((tourref2_Solve.c1_ok k a1 a2 a3 y1 y3 n (iadd .i64 v5 (1 : Int)) (v6 ++ [((el Z78 a1 v5).2.2.2.2.1, ((ineg .i64 (el Z78 a1 v5).2.2.2.2.1.2.1), (el Z78 a1 v5).2.2.2.2.1.1, ()), y18, y24, o40, o12, ())])).ap hy)) (fun e7 =>
   Owp.some (loop_exit (tourref2_Solve.cok k) hmix [.dec false] [] [(0, 0), (1, 1), (2, 2)] (exne 0) (via (finP (And.intro trivial e7) (.exit 0) [(0, 0), (1, 1), (2, 2)] (tourref2_Solve.c1q a3 y1 y3 v6)) (by kernel_rfl)))))
noncomputable def tourref2_Solve.c5p (a3 : Int) (o43 : (List V164)) (y3 : (List V78)) (v45 : Int) (v46 : (List V25)) : SL := ⟨[(3, (.val T2 a3)), (10, (.val .own (0 : Nat))), (11, (.val .own (1 : Nat))), (12, (.val .own (2 : Nat))), (140, (.val .own (1 : Nat))), (141, (.val T2 (len y3))), (142, (.val T2 v45))], [(0, .row T25 v46 26), (1, .row T78 y3 79), (2, .row T164 o43 165)]⟩
noncomputable def tourref2_Solve.c5q (a3 : Int) (o43 : (List V164)) (y3 : (List V78)) (o : (List V25)) : SL := (fun v => ⟨[(3, (.val T2 a3)), (10, (.val .own (0 : Nat))), (11, (.val .own (1 : Nat))), (12, (.val .own (2 : Nat)))], [(0, .row T25 v 26), (1, .row T78 y3 79), (2, .row T164 o43 165)]⟩) o
noncomputable def tourref2_Solve.c5x (o : (List V25)) : Ex := (fun _ => (.exit 2)) o
noncomputable def tourref2_Solve.c5n (o : (List V25)) : Nat := (fun _ => 3) o
theorem tourref2_Solve.c5_ok (k : Nat) (a3 : Int) (o43 : (List V164)) (y3 : (List V78)) : ∀ (n : Nat) (v45 : Int) (v46 : (List V25)), Owp (tourref2_Solve.c5 k o43 y3 n v45 v46) fun o => LTriple PR (tourref2_Solve.cx k) (sub tourref2_Solve.code [1, 1, 1, 1, 0, 1, 0, 0]) 3 (tourref2_Solve.c5p a3 o43 y3 v45 v46) (tourref2_Solve.c5x o) (tourref2_Solve.c5n o) (tourref2_Solve.c5q a3 o43 y3 o)
  | 0, _, _ => fun _ h => nomatch h
  | n + 1, v45, v46 => Owp.of (tourref2_Solve.c5.eq_2 ..) (
   Owp.bif (fun e47 =>
   Owp.req fun h48 =>
    Owp.req fun h49 =>
    Owp.bnd fun y50 e51 =>
    Owp.bnd fun y52 e53 =>
    Owp.bnd fun y54 e55 =>
    Owp.bnd fun y56 e57 =>
    fun y hy => loop_back (tourref2_Solve.cok k) hmix 3 (tourref2_Solve.c5p a3 o43 y3 (iadd .i64 v45 (1 : Int)) y56) [.dec true, .res (.one (.dp T22)) y50, .res (.one (.dp T22)) y52, .res (.one (.dp T22)) y54, .hres [(0, 0)] (.pair T2 (.pair T2 (.pair T22 (.pair T22 (.pair T22 (.pair (.slice T25) .unit)))))) ((el Z78 y3 v45).1, (el Z78 y3 v45).2.1, (el Z78 y3 v45).2.2.2.1, (el Z78 y3 v45).2.2.2.1, y54, v46, ()) (.slice T25) y56] [] [(0, 0), (1, 1), (2, 2)] (via (finP (And.intro (And.intro (And.intro (And.intro (And.intro (And.intro (And.intro (And.intro (And.intro trivial e47) h48) h48) h49) h49) e51) e53) e55) (callHP (tourref2_pushed.h k) [(0, 0)] ((el Z78 y3 v45).1, (el Z78 y3 v45).2.1, (el Z78 y3 v45).2.2.2.1, (el Z78 y3 v45).2.2.2.1, y54, v46, ()) e57)) .normal [(0, 0), (1, 1), (2, 2)] (tourref2_Solve.c5p a3 o43 y3 (iadd .i64 v45 (1 : Int)) y56)) (by kernel_rfl)) ((tourref2_Solve.c5_ok k a3 o43 y3 n (iadd .i64 v45 (1 : Int)) y56).ap hy)) (fun e47 =>
   Owp.some (loop_exit (tourref2_Solve.cok k) hmix [.dec false] [] [(0, 0), (1, 1), (2, 2)] (exne 2) (via (finP (And.intro trivial e47) (.exit 2) [(0, 0), (1, 1), (2, 2)] (tourref2_Solve.c5q a3 o43 y3 v46)) (by kernel_rfl)))))
noncomputable def tourref2_Solve.c7p (a3 : Int) (o43 : (List V164)) (v60 : Int) (v61 : (List V25)) (v62 : (List V78)) (y3 : (List V78)) : SL := ⟨[(10, (.val .own (0 : Nat))), (11, (.val .own (1 : Nat))), (12, (.val .own (2 : Nat))), (24, (.val T2 (irem v60 (len v62)))), (25, (.val .ptr ⟨3, 0, (0 : Int), 0, 0⟩)), (26, (.val .ptr ⟨4, 0, (0 : Int), 0, 0⟩)), (176, (.val T2 (imul .i64 a3 (len y3)))), (177, (.val T2 v60)), (194, (.val T4 (ine (el Z164 o43 (irem v60 (len v62))).2.2.2.1 (0 : Int))))], [(0, .row T25 v61 26), (1, .row T78 v62 79), (2, .row T164 o43 165), (3, .cells T78 (el Z78 v62 (irem v60 (len v62)))), (4, .cells T164 (el Z164 o43 (irem v60 (len v62))))]⟩
noncomputable def tourref2_Solve.c7q (a3 : Int) (o43 : (List V164)) (v60 : Int) (v62 : (List V78)) (y3 : (List V78)) (o : ((List V25) × (List V78))) : SL := (fun v => ⟨[(10, (.val .own (0 : Nat))), (11, (.val .own (1 : Nat))), (12, (.val .own (2 : Nat))), (24, (.val T2 (irem v60 (len v62)))), (25, (.val .ptr ⟨3, 0, (0 : Int), 0, 0⟩)), (26, (.val .ptr ⟨4, 0, (0 : Int), 0, 0⟩)), (176, (.val T2 (imul .i64 a3 (len y3)))), (177, (.val T2 v60))], [(0, .row T25 v.1 26), (1, .row T78 v.2 79), (2, .row T164 o43 165), (3, .cells T78 (el Z78 v62 (irem v60 (len v62)))), (4, .cells T164 (el Z164 o43 (irem v60 (len v62))))]⟩) o
noncomputable def tourref2_Solve.c7x (o : ((List V25) × (List V78))) : Ex := (fun _ => .normal) o
noncomputable def tourref2_Solve.c7n (o : ((List V25) × (List V78))) : Nat := (fun _ => 5) o
theorem tourref2_Solve.c7_ok (k : Nat) (a3 : Int) (o43 : (List V164)) (v60 : Int) (v61 : (List V25)) (v62 : (List V78)) (y3 : (List V78)) : Owp (tourref2_Solve.c7 k o43 v60 v61 v62) fun o => Triple PR (tourref2_Solve.cx k) (sub tourref2_Solve.code [1, 1, 1, 1, 1, 0, 1, 0, 0, 1, 1, 0, 0, 1, 1, 1, 0, 1]) 5 (tourref2_Solve.c7p a3 o43 v60 v61 v62 y3) (tourref2_Solve.c7x o) (tourref2_Solve.c7n o) (tourref2_Solve.c7q a3 o43 v60 v62 y3 o) := by
  unfold tourref2_Solve.c7; exact
   Owp.bif (fun e67 =>
   Owp.bnd fun y68 e69 =>
    Owp.bnd fun y70 e71 =>
    Owp.bnd fun y72 e73 =>
    Owp.bnd fun y74 e75 =>
    Owp.bnd fun y76 e77 =>
    Owp.bnd fun y78 e79 =>
    Owp.bnd fun y80 e81 =>
    Owp.bnd fun y82 e83 =>
    Owp.req fun h84 =>
    Owp.some (triple_way (tourref2_Solve.cok k) hmix [.dec true, .res (.one (.dp T2)) y68, .res (.one (.dp T2)) y70, .res (.one (.dp T2)) y72, .res (.one (.dp T2)) y74, .res (.one (.dp T2)) y76, .res (.one (.dp T2)) y78, .res (.one (.dp T22)) y80, .hres [(0, 0)] (.pair T2 (.pair T2 (.pair T22 (.pair T22 (.pair T22 (.pair (.slice T25) .unit)))))) ((el Z78 v62 (irem v60 (len v62))).1, (el Z78 v62 (irem v60 (len v62))).2.1, (el Z78 v62 (irem v60 (len v62))).2.2.2.1, (el Z78 v62 (irem v60 (len v62))).2.2.2.1, y80, v61, ()) (.slice T25) y82] [] [(0, 0), (1, 1), (2, 2), (3, 3), (4, 4)] (via (finP (And.intro (And.intro (And.intro (And.intro (And.intro (And.intro (And.intro (And.intro (And.intro (And.intro (And.intro trivial e67) e69) e71) e73) e75) e77) e79) e81) (callHP (tourref2_pushed.h k) [(0, 0)] ((el Z78 v62 (irem v60 (len v62))).1, (el Z78 v62 (irem v60 (len v62))).2.1, (el Z78 v62 (irem v60 (len v62))).2.2.2.1, (el Z78 v62 (irem v60 (len v62))).2.2.2.1, y80, v61, ()) e83)) h84) h84) .normal [(0, 0), (1, 1), (2, 2), (3, 3), (4, 4)] (tourref2_Solve.c7q a3 o43 v60 v62 y3 (y82, (st v62 (irem v60 (len v62)) ((el Z78 v62 (irem v60 (len v62))).1, (el Z78 v62 (irem v60 (len v62))).2.1, (el Z78 v62 (irem v60 (len v62))).2.2.1, (el Z78 v62 (irem v60 (len v62))).2.2.2.1, (el Z78 v62 (irem v60 (len v62))).2.2.2.2.1, (el Z78 v62 (irem v60 (len v62))).2.2.2.2.2.1, (el Z78 v62 (irem v60 (len v62))).2.2.2.2.2.2.1, y76, ()))))) (by kernel_rfl)))) (fun e67 =>
   Owp.some (triple_way (tourref2_Solve.cok k) hmix [.dec false] [] [(0, 0), (1, 1), (2, 2), (3, 3), (4, 4)] (via (finP (And.intro trivial e67) .normal [(0, 0), (1, 1), (2, 2), (3, 3), (4, 4)] (tourref2_Solve.c7q a3 o43 v60 v62 y3 (v61, v62))) (by kernel_rfl))))
noncomputable def tourref2_Solve.c8p (a3 : Int) (o43 : (List V164)) (o85 : ((List V25) × (List V78))) (v60 : Int) (v62 : (List V78)) (y3 : (List V78)) (y94 : Int) : SL := ⟨[(10, (.val .own (0 : Nat))), (11, (.val .own (1 : Nat))), (12, (.val .own (2 : Nat))), (24, (.val T2 (irem v60 (len v62)))), (25, (.val .ptr ⟨3, 0, (0 : Int), 0, 0⟩)), (26, (.val .ptr ⟨4, 0, (0 : Int), 0, 0⟩)), (29, (.val T2 y94)), (176, (.val T2 (imul .i64 a3 (len y3)))), (177, (.val T2 v60)), (267, (.val T4 (ilt y94 (0 : Int))))], [(0, .row T25 o85.1 26), (1, .row T78 o85.2 79), (2, .row T164 o43 165), (3, .cells T78 (el Z78 v62 (irem v60 (len v62)))), (4, .cells T164 (el Z164 o43 (irem v60 (len v62))))]⟩
noncomputable def tourref2_Solve.c8q (a3 : Int) (o43 : (List V164)) (o85 : ((List V25) × (List V78))) (v60 : Int) (v62 : (List V78)) (y3 : (List V78)) (o : Int) : SL := (fun v => ⟨[(10, (.val .own (0 : Nat))), (11, (.val .own (1 : Nat))), (12, (.val .own (2 : Nat))), (24, (.val T2 (irem v60 (len v62)))), (25, (.val .ptr ⟨3, 0, (0 : Int), 0, 0⟩)), (26, (.val .ptr ⟨4, 0, (0 : Int), 0, 0⟩)), (29, (.val T2 v)), (176, (.val T2 (imul .i64 a3 (len y3)))), (177, (.val T2 v60))], [(0, .row T25 o85.1 26), (1, .row T78 o85.2 79), (2, .row T164 o43 165), (3, .cells T78 (el Z78 v62 (irem v60 (len v62)))), (4, .cells T164 (el Z164 o43 (irem v60 (len v62))))]⟩) o
noncomputable def tourref2_Solve.c8x (o : Int) : Ex := (fun _ => .normal) o
noncomputable def tourref2_Solve.c8n (o : Int) : Nat := (fun _ => 5) o
theorem tourref2_Solve.c8_ok (k : Nat) (a3 : Int) (o43 : (List V164)) (o85 : ((List V25) × (List V78))) (v60 : Int) (v62 : (List V78)) (y3 : (List V78)) (y94 : Int) : Owp (tourref2_Solve.c8 k y94) fun o => Triple PR (tourref2_Solve.cx k) (sub tourref2_Solve.code [1, 1, 1, 1, 1, 0, 1, 0, 0, 1, 1, 0, 0, 1, 1, 1, 1, 1, 0, 1, 0, 1]) 5 (tourref2_Solve.c8p a3 o43 o85 v60 v62 y3 y94) (tourref2_Solve.c8x o) (tourref2_Solve.c8n o) (tourref2_Solve.c8q a3 o43 o85 v60 v62 y3 o) := by
  unfold tourref2_Solve.c8; exact
   Owp.bif (fun e96 =>
   Owp.some (triple_way (tourref2_Solve.cok k) hmix [.dec true] [] [(0, 0), (1, 1), (2, 2), (3, 3), (4, 4)] (via (finP (And.intro trivial e96) .normal [(0, 0), (1, 1), (2, 2), (3, 3), (4, 4)] (tourref2_Solve.c8q a3 o43 o85 v60 v62 y3 (0 : Int))) (by kernel_rfl)))) (fun e96 =>
   Owp.some (triple_way (tourref2_Solve.cok k) hmix [.dec false] [] [(0, 0), (1, 1), (2, 2), (3, 3), (4, 4)] (via (finP (And.intro trivial e96) .normal [(0, 0), (1, 1), (2, 2), (3, 3), (4, 4)] (tourref2_Solve.c8q a3 o43 o85 v60 v62 y3 y94)) (by kernel_rfl))))
noncomputable def tourref2_Solve.c6p (a3 : Int) (o43 : (List V164)) (y3 : (List V78)) (v60 : Int) (v61 : (List V25)) (v62 : (List V78)) : SL := ⟨[(10, (.val .own (0 : Nat))), (11, (.val .own (1 : Nat))), (12, (.val .own (2 : Nat))), (176, (.val T2 (imul .i64 a3 (len y3)))), (177, (.val T2 v60))], [(0, .row T25 v61 26), (1, .row T78 v62 79), (2, .row T164 o43 165)]⟩
noncomputable def tourref2_Solve.c6q (o : ((List V25) × (List V78))) : SL := (fun v => ⟨[(10, (.val .own (0 : Nat))), (11, (.val .own (1 : Nat)))], [(0, .row T25 v.1 26), (1, .row T78 v.2 79)]⟩) o
noncomputable def tourref2_Solve.c6x (o : ((List V25) × (List V78))) : Ex := (fun _ => (.exit 4)) o
noncomputable def tourref2_Solve.c6n (o : ((List V25) × (List V78))) : Nat := (fun _ => 2) o
theorem tourref2_Solve.c6_ok (k : Nat) (a3 : Int) (o43 : (List V164)) (y3 : (List V78)) : ∀ (n : Nat) (v60 : Int) (v61 : (List V25)) (v62 : (List V78)), Owp (tourref2_Solve.c6 k a3 o43 y3 n v60 v61 v62) fun o => LTriple PR (tourref2_Solve.cx k) (sub tourref2_Solve.code [1, 1, 1, 1, 1, 0, 1, 0, 0]) 3 (tourref2_Solve.c6p a3 o43 y3 v60 v61 v62) (tourref2_Solve.c6x o) (tourref2_Solve.c6n o) (tourref2_Solve.c6q o)
  | 0, _, _, _ => fun _ h => nomatch h
  | n + 1, v60, v61, v62 => Owp.of (tourref2_Solve.c6.eq_2 ..) (
   Owp.bif (fun e63 =>
   Owp.req fun h64 =>
    Owp.req fun h65 =>
    Owp.req fun h66 =>
    Owp.bnd fun o85 e86 =>
    Owp.bif (fun e87 =>
    Owp.bnd fun y88 e89 =>
     Owp.bnd fun y90 e91 =>
     Owp.bnd fun y92 e93 =>
     Owp.bnd fun y94 e95 =>
     Owp.bnd fun o97 e98 =>
     Owp.bnd fun y99 e100 =>
     Owp.bnd fun y101 e102 =>
     Owp.bnd fun y103 e104 =>
     Owp.req fun h105 =>
     fun y hy => loop_back (tourref2_Solve.cok k) hmix 3 (tourref2_Solve.c6p a3 o43 y3 (iadd .i64 v60 (1 : Int)) y103 (st o85.2 (irem v60 (len v62)) ((el Z78 o85.2 (irem v60 (len v62))).1, (el Z78 o85.2 (irem v60 (len v62))).2.1, (el Z78 o85.2 (irem v60 (len v62))).2.2.1, (el Z78 o85.2 (irem v60 (len v62))).2.2.2.1, (el Z78 o85.2 (irem v60 (len v62))).2.2.2.2.1, (el Z78 o85.2 (irem v60 (len v62))).2.2.2.2.2.1, o97, (el Z78 o85.2 (irem v60 (len v62))).2.2.2.2.2.2.2))) [.dec true, .cut ⟨[], [(0, 0), (1, 1), (2, 2), (3, 19), (4, 20)], (tourref2_Solve.c7p a3 o43 v60 v61 v62 y3), 5, .normal, (tourref2_Solve.c7q a3 o43 v60 v62 y3 o85), 5⟩, .dec true, .res (.one (.dp T2)) y88, .res (.one (.dp T2)) y90, .res (.one (.dp T2)) y92, .res (.one (.dp T2)) y94, .cut ⟨[], [(0, 0), (1, 1), (2, 2), (3, 3), (4, 4)], (tourref2_Solve.c8p a3 o43 o85 v60 v62 y3 y94), 5, .normal, (tourref2_Solve.c8q a3 o43 o85 v60 v62 y3 o97), 5⟩, .res (.one (.dp T2)) y99, .res (.one (.dp T22)) y101, .hres [(0, 0)] (.pair T2 (.pair T2 (.pair T22 (.pair T22 (.pair T22 (.pair (.slice T25) .unit)))))) ((el Z78 v62 (irem v60 (len v62))).1, (el Z78 v62 (irem v60 (len v62))).2.1, (el Z78 v62 (irem v60 (len v62))).2.2.2.1, (el Z78 v62 (irem v60 (len v62))).2.2.2.1, y101, o85.1, ()) (.slice T25) y103] [] [(0, 0), (1, 1), (2, 2)] (via (cutP (And.intro (And.intro (And.intro (And.intro (And.intro (And.intro trivial e63) h64) h65) h65) h66) h66) [(0, 0), (1, 1), (2, 2), (3, 19), (4, 20)] (tourref2_Solve.c7p a3 o43 v60 v61 v62 y3) (((tourref2_Solve.c7_ok k a3 o43 v60 v61 v62 y3).ap e86)) (cutP (And.intro (And.intro (And.intro (And.intro (And.intro trivial e87) e89) e91) e93) e95) [(0, 0), (1, 1), (2, 2), (3, 3), (4, 4)] (tourref2_Solve.c8p a3 o43 o85 v60 v62 y3 y94) (((tourref2_Solve.c8_ok k a3 o43 o85 v60 v62 y3 y94).ap e98)) (finP (And.intro (And.intro (And.intro (And.intro (And.intro trivial e100) e102) (callHP (tourref2_pushed.h k) [(0, 0)] ((el Z78 v62 (irem v60 (len v62))).1, (el Z78 v62 (irem v60 (len v62))).2.1, (el Z78 v62 (irem v60 (len v62))).2.2.2.1, (el Z78 v62 (irem v60 (len v62))).2.2.2.1, y101, o85.1, ()) e104)) h105) h105) .normal [(0, 0), (1, 1), (2, 2)] (tourref2_Solve.c6p a3 o43 y3 (iadd .i64 v60 (1 : Int)) y103 (st o85.2 (irem v60 (len v62)) ((el Z78 o85.2 (irem v60 (len v62))).1, (el Z78 o85.2 (irem v60 (len v62))).2.1, (el Z78 o85.2 (irem v60 (len v62))).2.2.1, (el Z78 o85.2 (irem v60 (len v62))).2.2.2.1, (el Z78 o85.2 (irem v60 (len v62))).2.2.2.2.1, (el Z78 o85.2 (irem v60 (len v62))).2.2.2.2.2.1, o97, (el Z78 o85.2 (irem v60 (len v62))).2.2.2.2.2.2.2)))))) (by kernel_rfl)) ((tourref2_Solve.c6_ok k a3 o43 y3 n (iadd .i64 v60 (1 : Int)) y103 (st o85.2 (irem v60 (len v62)) ((el Z78 o85.2 (irem v60 (len v62))).1, (el Z78 o85.2 (irem v60 (len v62))).2.1, (el Z78 o85.2 (irem v60 (len v62))).2.2.1, (el Z78 o85.2 (irem v60 (len v62))).2.2.2.1, (el Z78 o85.2 (irem v60 (len v62))).2.2.2.2.1, (el Z78 o85.2 (irem v60 (len v62))).2.2.2.2.2.1, o97, (el Z78 o85.2 (irem v60 (len v62))).2.2.2.2.2.2.2))).ap hy)) (fun e87 =>
    fun y hy => loop_back (tourref2_Solve.cok k) hmix 3 (tourref2_Solve.c6p a3 o43 y3 (iadd .i64 v60 (1 : Int)) o85.1 o85.2) [.dec true, .cut ⟨[], [(0, 0), (1, 1), (2, 2), (3, 19), (4, 20)], (tourref2_Solve.c7p a3 o43 v60 v61 v62 y3), 5, .normal, (tourref2_Solve.c7q a3 o43 v60 v62 y3 o85), 5⟩, .dec false] [] [(0, 0), (1, 1), (2, 2)] (via (cutP (And.intro (And.intro (And.intro (And.intro (And.intro (And.intro trivial e63) h64) h65) h65) h66) h66) [(0, 0), (1, 1), (2, 2), (3, 19), (4, 20)] (tourref2_Solve.c7p a3 o43 v60 v61 v62 y3) (((tourref2_Solve.c7_ok k a3 o43 v60 v61 v62 y3).ap e86)) (finP (And.intro trivial e87) .normal [(0, 0), (1, 1), (2, 2)] (tourref2_Solve.c6p a3 o43 y3 (iadd .i64 v60 (1 : Int)) o85.1 o85.2))) (by kernel_rfl)) ((tourref2_Solve.c6_ok k a3 o43 y3 n (iadd .i64 v60 (1 : Int)) o85.1 o85.2).ap hy))) (fun e63 =>
   Owp.some (loop_exit (tourref2_Solve.cok k) hmix [.dec false] [] [(0, 0), (1, 1)] (exne 4) (via (finP (And.intro trivial e63) (.exit 4) [(0, 0), (1, 1)] (tourref2_Solve.c6q (v61, v62))) (by kernel_rfl)))))
theorem tourref2_Solve.way (k : Nat) (a0 : (List V25)) (a1 : (List V78)) (a2 : Int) (a3 : Int) : Owp (tourref2_Solve k a0 a1 a2 a3) fun y => ∃ answers cmds, exec PR (tourref2_Solve.cx k) tourref2_Solve.code 0 (entry (.pair (.slice T25) (.pair (.slice T78) T22)) (a0, a1, a2, a3, ())).st answers (Ret (tourref2_Solve.cx k) Try.f77 cmds (.more (.ow T25 26) (.one (.dp (.slice T78)))) y) := by
  unfold tourref2_Solve; exact
   Owp.bnd fun y1 e2 =>
   Owp.bnd fun y3 e4 =>
   Owp.bnd fun o43 e44 =>
   Owp.bnd fun o58 e59 =>
   Owp.bnd fun o106 e107 =>
   Owp.some (⟨[.res (.one (.ow T25 26)) y1, .res (.one (.ow T78 79)) y3, .cut ⟨[.own 12 T164 165], [(0, 3), (1, 5), (2, 12)], (tourref2_Solve.c1p a1 a2 a3 y1 y3 (0 : Int) []), 3, (.exit 0), (tourref2_Solve.c1q a3 y1 y3 o43), 3⟩, .cut ⟨[], [(0, 0), (1, 1), (2, 2)], (tourref2_Solve.c5p a3 o43 y3 (0 : Int) y1), 3, (.exit 2), (tourref2_Solve.c5q a3 o43 y3 o58), 3⟩, .cut ⟨[], [(0, 0), (1, 1), (2, 2)], (tourref2_Solve.c6p a3 o43 y3 (0 : Int) o58 y3), 3, (.exit 4), (tourref2_Solve.c6q o106), 2⟩], [.freeze 9], via (cutP (And.intro (And.intro trivial e2) e4) [(0, 3), (1, 5), (2, 12)] (tourref2_Solve.c1p a1 a2 a3 y1 y3 (0 : Int) []) (((tourref2_Solve.c1_ok k a1 a2 a3 y1 y3 k (0 : Int) []).ap e44).triple) (cutP trivial [(0, 0), (1, 1), (2, 2)] (tourref2_Solve.c5p a3 o43 y3 (0 : Int) y1) (((tourref2_Solve.c5_ok k a3 o43 y3 k (0 : Int) y1).ap e59).triple) (cutP trivial [(0, 0), (1, 1), (2, 2)] (tourref2_Solve.c6p a3 o43 y3 (0 : Int) o58 y3) (((tourref2_Solve.c6_ok k a3 o43 y3 k (0 : Int) o58 y3).ap e107).triple) (retP trivial (.more (.ow T25 26) (.one (.dp (.slice T78)))) ((o106.1, o106.2) : ((List V25) × (List V78))))))) (by kernel_rfl)⟩)
theorem tourref2_Solve.ok (k : Nat) : FnOk PR 77 (tourref2_Solve.sp k) :=
  fn_ok (tourref2_Solve.cok k) hmix Try.func77 (code := tourref2_Solve.code) (by kernel_rfl) (by kernel_rfl) (by kernel_rfl) rfl rfl (by kernel_rfl) (by kernel_rfl) (by kernel_rfl) (fun x => Nat.le_of_ble_eq_true (by kernel_rfl)) fun x y hy => (tourref2_Solve.way k x.1 x.2.1 x.2.2.1 x.2.2.2.1).ap hy

/-! slices.EqualFunc[[]tourney/api.Body,[]tourney/api.Body,tourney/api.Body,tourney/api.Body] -/
noncomputable def slices_EqualFunc.code : Code := Func.cd Try.f156
def slices_EqualFunc.c1 (k : Nat) (a0 : (List V25)) (a1 : (List V25)) (a2 : ((V25 × (V25 × Unit)) → Option Bool)) : Nat → Int → Option (Unit ⊕ Unit)
  | 0, _ => none
  | n + 1, v2 =>
   bif' (ilt v2 (len a0))
   (req (inL v2 a0) <|
    req (inL v2 a1) <|
    bnd (a2 ((el Z25 a0 v2), (el Z25 a1 v2), ())) fun y6 =>
    bif' y6
    (slices_EqualFunc.c1 k a0 a1 a2 n (iadd .i64 v2 1))
    (some (.inl ())))
   (some (.inr ()))
def slices_EqualFunc (k : Nat) (a0 : (List V25)) (a1 : (List V25)) (a2 : ((V25 × (V25 × Unit)) → Option Bool)) : Option Bool :=
  bif' (ine (len a0) (len a1))
  (some false)
  (bnd (slices_EqualFunc.c1 k a0 a1 a2 k 0) fun o9 =>
   two o9 (fun y11 =>
   some false) (fun y13 =>
   some true))
noncomputable def slices_EqualFunc.sp (k : Nat) : Go.Sx.Spec := ⟨(.pair (.slice T25) (.pair (.slice T25) (.pair (.fn (.pair T25 (.pair T25 .unit)) T4) .unit))), (.one (.dp T4)), fun x => slices_EqualFunc k x.1 x.2.1 x.2.2.1, false⟩
noncomputable def slices_EqualFunc.cx (k : Nat) : Go.Sx.Ctx := ⟨tys, [], eqs, 32, 0, [], false⟩
theorem slices_EqualFunc.cok (k : Nat) : CtxOk PR (slices_EqualFunc.cx k) := ctx_ok tysOk eqsOk FnsOk.nil HsOk.nil
noncomputable def slices_EqualFunc.c1p (a0 : (List V25)) (a1 : (List V25)) (a2 : ((V25 × (V25 × Unit)) → Option Bool)) (v2 : Int) : SL := ⟨[(1, (.val (.slice T25) a1)), (2, (.val (.fn (.pair T25 (.pair T25 .unit)) T4) a2)), (15, (.val (.slice T25) a0)), (16, (.val T2 (len a0))), (17, (.val T2 v2))], []⟩
noncomputable def slices_EqualFunc.c1q (o : Unit ⊕ Unit) : SL := (fun o => two o (fun v => ⟨[(6, (.val T4 false))], []⟩) (fun v => ⟨[], []⟩)) o
noncomputable def slices_EqualFunc.c1x (o : Unit ⊕ Unit) : Ex := (fun o => two o (fun _ => .ret) (fun _ => (.exit 0))) o
noncomputable def slices_EqualFunc.c1n (o : Unit ⊕ Unit) : Nat := (fun o => two o (fun _ => 0) (fun _ => 0)) o
theorem slices_EqualFunc.c1_ok (k : Nat) (a0 : (List V25)) (a1 : (List V25)) (a2 : ((V25 × (V25 × Unit)) → Option Bool)) : ∀ (n : Nat) (v2 : Int), Owp (slices_EqualFunc.c1 k a0 a1 a2 n v2) fun o => LTriple PR (slices_EqualFunc.cx k) (sub slices_EqualFunc.code [1, 1, 0, 1, 0, 0]) 0 (slices_EqualFunc.c1p a0 a1 a2 v2) (slices_EqualFunc.c1x o) (slices_EqualFunc.c1n o) (slices_EqualFunc.c1q o)
  | 0, _ => fun _ h => nomatch h
  | n + 1, v2 => Owp.of (slices_EqualFunc.c1.eq_2 ..) (
   Owp.bif (fun e3 =>
   Owp.req fun h4 =>
    Owp.req fun h5 =>
    Owp.bnd fun y6 e7 =>
    Owp.bif (fun e8 =>
    fun y hy => loop_back (slices_EqualFunc.cok k) hmix 0 (slices_EqualFunc.c1p a0 a1 a2 (iadd .i64 v2 (1 : Int))) [.dec true, .res (.one (.dp T4)) y6, .dec false] [] [] (via (finP (And.intro (And.intro (And.intro (And.intro (And.intro trivial e3) h4) h5) e7) (congrArg not e8)) .normal [] (slices_EqualFunc.c1p a0 a1 a2 (iadd .i64 v2 (1 : Int)))) (by kernel_rfl)) ((slices_EqualFunc.c1_ok k a0 a1 a2 n (iadd .i64 v2 (1 : Int))).ap hy)) (fun e8 =>
    Owp.some (loop_exit (slices_EqualFunc.cok k) hmix [.dec true, .res (.one (.dp T4)) y6, .dec true] [] [] exne_ret (via (finP (And.intro (And.intro (And.intro (And.intro (And.intro trivial e3) h4) h5) e7) (congrArg not e8)) .ret [] (slices_EqualFunc.c1q (.inl ()))) (by kernel_rfl))))) (fun e3 =>
   Owp.some (loop_exit (slices_EqualFunc.cok k) hmix [.dec false] [] [] (exne 0) (via (finP (And.intro trivial e3) (.exit 0) [] (slices_EqualFunc.c1q (.inr ()))) (by kernel_rfl)))))
theorem slices_EqualFunc.way (k : Nat) (a0 : (List V25)) (a1 : (List V25)) (a2 : ((V25 × (V25 × Unit)) → Option Bool)) : Owp (slices_EqualFunc k a0 a1 a2) fun y => ∃ answers cmds, exec PR (slices_EqualFunc.cx k) slices_EqualFunc.code 0 (entry (.pair (.slice T25) (.pair (.slice T25) (.pair (.fn (.pair T25 (.pair T25 .unit)) T4) .unit))) (a0, a1, a2, ())).st answers (Ret (slices_EqualFunc.cx k) Try.f156 cmds (.one (.dp T4)) y) := by
  unfold slices_EqualFunc; exact
   Owp.bif (fun e1 =>
   Owp.some (⟨[.dec true], [], via (retP (And.intro trivial e1) (.one (.dp T4)) (false : Bool)) (by kernel_rfl)⟩)) (fun e1 =>
   Owp.bnd fun o9 e10 =>
    Owp.two (fun y11 e12 =>
    Owp.some (⟨[.dec false, .cut ⟨[], [], (slices_EqualFunc.c1p a0 a1 a2 (0 : Int)), 0, .ret, (slices_EqualFunc.c1q (.inl ())), 0⟩], [], via (cutP (And.intro trivial e1) [] (slices_EqualFunc.c1p a0 a1 a2 (0 : Int)) (((slices_EqualFunc.c1_ok k a0 a1 a2 k (0 : Int)).ap (e10.trans (congrArg some e12))).triple) (retP trivial (.one (.dp T4)) (false : Bool))) (by kernel_rfl)⟩)) (fun y13 e14 =>
    Owp.some (⟨[.dec false, .cut ⟨[], [], (slices_EqualFunc.c1p a0 a1 a2 (0 : Int)), 0, (.exit 0), (slices_EqualFunc.c1q (.inr ())), 0⟩], [], via (cutP (And.intro trivial e1) [] (slices_EqualFunc.c1p a0 a1 a2 (0 : Int)) (((slices_EqualFunc.c1_ok k a0 a1 a2 k (0 : Int)).ap (e10.trans (congrArg some e14))).triple) (retP trivial (.one (.dp T4)) (true : Bool))) (by kernel_rfl)⟩)))
theorem slices_EqualFunc.ok (k : Nat) : FnOk PR 156 (slices_EqualFunc.sp k) :=
  fn_ok (slices_EqualFunc.cok k) hmix Try.func156 (code := slices_EqualFunc.code) (by kernel_rfl) (by kernel_rfl) (by kernel_rfl) rfl rfl (by kernel_rfl) (by kernel_rfl) (by kernel_rfl) (fun x => Nat.le_of_ble_eq_true (by kernel_rfl)) fun x y hy => (slices_EqualFunc.way k x.1 x.2.1 x.2.2.1).ap hy

/-! tourney/tourref2.SameBodies -/
noncomputable def tourref2_SameBodies.code : Code := Func.cd Try.f78
def tourref2_SameBodies (k : Nat) (a0 : (List V25)) (a1 : (List V25)) : Option Bool :=
  bnd (slices_EqualFunc k a0 a1 (fun x : (V25 × (V25 × Unit)) => tourref2_SameBody k (x.1) (x.2.1))) fun y1 =>
  some y1
noncomputable def tourref2_SameBodies.sp (k : Nat) : Go.Sx.Spec := ⟨(.pair (.slice T25) (.pair (.slice T25) .unit)), (.one (.dp T4)), fun x => tourref2_SameBodies k x.1 x.2.1, false⟩
noncomputable def tourref2_SameBodies.cx (k : Nat) : Go.Sx.Ctx := ⟨tys, [(156, slices_EqualFunc.sp k), (18, tourref2_SameBody.sp k)], eqs, 8, 0, [], false⟩
theorem tourref2_SameBodies.cok (k : Nat) : CtxOk PR (tourref2_SameBodies.cx k) := ctx_ok tysOk eqsOk (FnsOk.cons (slices_EqualFunc.ok k) (FnsOk.cons (tourref2_SameBody.ok k) FnsOk.nil)) HsOk.nil
theorem tourref2_SameBodies.way (k : Nat) (a0 : (List V25)) (a1 : (List V25)) : Owp (tourref2_SameBodies k a0 a1) fun y => ∃ answers cmds, exec PR (tourref2_SameBodies.cx k) tourref2_SameBodies.code 0 (entry (.pair (.slice T25) (.pair (.slice T25) .unit)) (a0, a1, ())).st answers (Ret (tourref2_SameBodies.cx k) Try.f78 cmds (.one (.dp T4)) y) := by
  unfold tourref2_SameBodies; exact
   Owp.bnd fun y1 e2 =>
   Owp.some (⟨[.res (.one (.dp T4)) y1], [], via (retP (And.intro trivial e2) (.one (.dp T4)) (y1 : Bool)) (by kernel_rfl)⟩)
theorem tourref2_SameBodies.ok (k : Nat) : FnOk PR 78 (tourref2_SameBodies.sp k) :=
  fn_ok (tourref2_SameBodies.cok k) hmix Try.func78 (code := tourref2_SameBodies.code) (by kernel_rfl) (by kernel_rfl) (by kernel_rfl) rfl rfl (by kernel_rfl) (by kernel_rfl) (by kernel_rfl) (fun x => Nat.le_of_ble_eq_true (by kernel_rfl)) fun x y hy => (tourref2_SameBodies.way k x.1 x.2.1).ap hy

/-! slices.Equal[[]tourney/api.Contact,tourney/api.Contact] -/
noncomputable def slices_Equal_79.code : Code := Func.cd Try.f79
def slices_Equal_79.c1 (k : Nat) (a0 : (List V78)) (a1 : (List V78)) : Nat → Int → Option (Unit ⊕ Unit)
  | 0, _ => none
  | n + 1, v2 =>
   bif' (ilt v2 (len a0))
   (req (inL v2 a0) <|
    req (inL v2 a1) <|
    bif' (Ty.eqb T78 (el Z78 a0 v2) (el Z78 a1 v2))
    (slices_Equal_79.c1 k a0 a1 n (iadd .i64 v2 1))
    (some (.inl ())))
   (some (.inr ()))
def slices_Equal_79 (k : Nat) (a0 : (List V78)) (a1 : (List V78)) : Option Bool :=
  bif' (ine (len a0) (len a1))
  (some false)
  (bnd (slices_Equal_79.c1 k a0 a1 k 0) fun o7 =>
   two o7 (fun y9 =>
   some false) (fun y11 =>
   some true))
noncomputable def slices_Equal_79.sp (k : Nat) : Go.Sx.Spec := ⟨(.pair (.slice T78) (.pair (.slice T78) .unit)), (.one (.dp T4)), fun x => slices_Equal_79 k x.1 x.2.1, false⟩
noncomputable def slices_Equal_79.cx (k : Nat) : Go.Sx.Ctx := ⟨tys, [], eqs, 26, 0, [], false⟩
theorem slices_Equal_79.cok (k : Nat) : CtxOk PR (slices_Equal_79.cx k) := ctx_ok tysOk eqsOk FnsOk.nil HsOk.nil
noncomputable def slices_Equal_79.c1p (a0 : (List V78)) (a1 : (List V78)) (v2 : Int) : SL := ⟨[(0, (.val (.slice T78) a0)), (1, (.val (.slice T78) a1)), (12, (.val T2 (len a0))), (13, (.val T2 v2))], []⟩
noncomputable def slices_Equal_79.c1q (o : Unit ⊕ Unit) : SL := (fun o => two o (fun v => ⟨[(4, (.val T4 false))], []⟩) (fun v => ⟨[], []⟩)) o
noncomputable def slices_Equal_79.c1x (o : Unit ⊕ Unit) : Ex := (fun o => two o (fun _ => .ret) (fun _ => (.exit 0))) o
noncomputable def slices_Equal_79.c1n (o : Unit ⊕ Unit) : Nat := (fun o => two o (fun _ => 0) (fun _ => 0)) o
theorem slices_Equal_79.c1_ok (k : Nat) (a0 : (List V78)) (a1 : (List V78)) : ∀ (n : Nat) (v2 : Int), Owp (slices_Equal_79.c1 k a0 a1 n v2) fun o => LTriple PR (slices_Equal_79.cx k) (sub slices_Equal_79.code [1, 1, 0, 1, 0, 0]) 0 (slices_Equal_79.c1p a0 a1 v2) (slices_Equal_79.c1x o) (slices_Equal_79.c1n o) (slices_Equal_79.c1q o)
  | 0, _ => fun _ h => nomatch h
  | n + 1, v2 => Owp.of (slices_Equal_79.c1.eq_2 ..) (
   Owp.bif (fun e3 =>
   Owp.req fun h4 =>
    Owp.req fun h5 =>
    Owp.bif (fun e6 =>
    fun y hy => loop_back (slices_Equal_79.cok k) hmix 0 (slices_Equal_79.c1p a0 a1 (iadd .i64 v2 (1 : Int))) [.dec true, .dec false] [] [] (via (finP (And.intro (And.intro (And.intro (And.intro trivial e3) h4) h5) (congrArg not e6)) .normal [] (slices_Equal_79.c1p a0 a1 (iadd .i64 v2 (1 : Int)))) (by kernel_rfl)) ((slices_Equal_79.c1_ok k a0 a1 n (iadd .i64 v2 (1 : Int))).ap hy)) (fun e6 =>
    Owp.some (loop_exit (slices_Equal_79.cok k) hmix [.dec true, .dec true] [] [] exne_ret (via (finP (And.intro (And.intro (And.intro (And.intro trivial e3) h4) h5) (congrArg not e6)) .ret [] (slices_Equal_79.c1q (.inl ()))) (by kernel_rfl))))) (fun e3 =>
   Owp.some (loop_exit (slices_Equal_79.cok k) hmix [.dec false] [] [] (exne 0) (via (finP (And.intro trivial e3) (.exit 0) [] (slices_Equal_79.c1q (.inr ()))) (by kernel_rfl)))))
theorem slices_Equal_79.way (k : Nat) (a0 : (List V78)) (a1 : (List V78)) : Owp (slices_Equal_79 k a0 a1) fun y => ∃ answers cmds, exec PR (slices_Equal_79.cx k) slices_Equal_79.code 0 (entry (.pair (.slice T78) (.pair (.slice T78) .unit)) (a0, a1, ())).st answers (Ret (slices_Equal_79.cx k) Try.f79 cmds (.one (.dp T4)) y) := by
  unfold slices_Equal_79; exact
   Owp.bif (fun e1 =>
   Owp.some (⟨[.dec true], [], via (retP (And.intro trivial e1) (.one (.dp T4)) (false : Bool)) (by kernel_rfl)⟩)) (fun e1 =>
   Owp.bnd fun o7 e8 =>
    Owp.two (fun y9 e10 =>
    Owp.some (⟨[.dec false, .cut ⟨[], [], (slices_Equal_79.c1p a0 a1 (0 : Int)), 0, .ret, (slices_Equal_79.c1q (.inl ())), 0⟩], [], via (cutP (And.intro trivial e1) [] (slices_Equal_79.c1p a0 a1 (0 : Int)) (((slices_Equal_79.c1_ok k a0 a1 k (0 : Int)).ap (e8.trans (congrArg some e10))).triple) (retP trivial (.one (.dp T4)) (false : Bool))) (by kernel_rfl)⟩)) (fun y11 e12 =>
    Owp.some (⟨[.dec false, .cut ⟨[], [], (slices_Equal_79.c1p a0 a1 (0 : Int)), 0, (.exit 0), (slices_Equal_79.c1q (.inr ())), 0⟩], [], via (cutP (And.intro trivial e1) [] (slices_Equal_79.c1p a0 a1 (0 : Int)) (((slices_Equal_79.c1_ok k a0 a1 k (0 : Int)).ap (e8.trans (congrArg some e12))).triple) (retP trivial (.one (.dp T4)) (true : Bool))) (by kernel_rfl)⟩)))
theorem slices_Equal_79.ok (k : Nat) : FnOk PR 79 (slices_Equal_79.sp k) :=
  fn_ok (slices_Equal_79.cok k) hmix Try.func79 (code := slices_Equal_79.code) (by kernel_rfl) (by kernel_rfl) (by kernel_rfl) rfl rfl (by kernel_rfl) (by kernel_rfl) (by kernel_rfl) (fun x => Nat.le_of_ble_eq_true (by kernel_rfl)) fun x y hy => (slices_Equal_79.way k x.1 x.2.1).ap hy

/-! tourney/tourlaw2.SolveSays -/
noncomputable def tourlaw2_SolveSays.code : Code := Func.cd Try.f14
def tourlaw2_SolveSays.c1 (k : Nat) (a2 : Int) (a3 : Int) (y6 : Int) : Option (Bool) :=
  bif' (ieq y6 0)
  (bif' (ilt a2 1)
   (some true)
   (bif' (igt a2 65536)
    (some true)
    (bif' (ilt a3 0)
     (some true)
     (some (igt a3 32)))))
  (some false)
def tourlaw2_SolveSays.c2 (k : Nat) (o15 : Bool) (y6 : Int) : Option (Int) :=
  bif' o15
  (some 1)
  (some y6)
def tourlaw2_SolveSays.c3 (k : Nat) (o18 : Int) (y4 : ((List V25) × ((List V78) × Int))) : Option (Bool) :=
  bif' (ieq y4.2.2 o18)
  (some (ieq (iadd .i64 (len y4.1) (len y4.2.1)) 0))
  (some false)
def tourlaw2_SolveSays (k : Nat) (a0 : (List V25)) (a1 : (List V78)) (a2 : Int) (a3 : Int) : Option Bool :=
  bnd (tourlaw2_solveBegun k) fun y1 =>
  bif' y1
  (bnd (solve_Run k a0 a1 a2 a3) fun y4 =>
   bnd (tourref2_Contacts k a0 a1) fun y6 =>
   bnd (solve_Check k a0 a1) fun y8 =>
   bif' (ine y8 y6)
   (some false)
   (bnd (tourlaw2_SolveSays.c1 k a2 a3 y6) fun o15 =>
    bnd (tourlaw2_SolveSays.c2 k o15 y6) fun o18 =>
    bif' (ine o18 0)
    (bnd (tourlaw2_SolveSays.c3 k o18 y4) fun o22 =>
     some o22)
    (bif' (igt (len a1) 40)
     (some true)
     (bnd (tourref2_Solve k a0 a1 a2 a3) fun y25 =>
      bif' (ieq y4.2.2 0)
      (bnd (tourref2_SameBodies k y4.1 y25.1) fun y28 =>
       bif' y28
       (bnd (slices_Equal_79 k y4.2.1 y25.2) fun y31 =>
        some y31)
       (some false))
      (some false)))))
  (some false)
noncomputable def tourlaw2_SolveSays.sp (k : Nat) : Go.Sx.Spec := ⟨(.pair (.slice T25) (.pair (.slice T78) T22)), (.one (.dp T4)), fun x => tourlaw2_SolveSays k x.1 x.2.1 x.2.2.1 x.2.2.2.1, false⟩
noncomputable def tourlaw2_SolveSays.cx (k : Nat) : Go.Sx.Ctx := ⟨tys, [(74, tourlaw2_solveBegun.sp k), (58, solve_Run.sp k), (75, tourref2_Contacts.sp k), (76, solve_Check.sp k), (77, tourref2_Solve.sp k), (78, tourref2_SameBodies.sp k), (79, slices_Equal_79.sp k)], eqs, 88, 0, [], false⟩
theorem tourlaw2_SolveSays.cok (k : Nat) : CtxOk PR (tourlaw2_SolveSays.cx k) := ctx_ok tysOk eqsOk (FnsOk.cons (tourlaw2_solveBegun.ok k) (FnsOk.cons (solve_Run.ok k) (FnsOk.cons (tourref2_Contacts.ok k) (FnsOk.cons (solve_Check.ok k) (FnsOk.cons (tourref2_Solve.ok k) (FnsOk.cons (tourref2_SameBodies.ok k) (FnsOk.cons (slices_Equal_79.ok k) FnsOk.nil))))))) HsOk.nil
noncomputable def tourlaw2_SolveSays.c1p (a0 : (List V25)) (a1 : (List V78)) (a2 : Int) (a3 : Int) (y4 : ((List V25) × ((List V78) × Int))) (y6 : Int) : SL := ⟨[(0, (.val (.slice T25) a0)), (1, (.val (.slice T78) a1)), (2, (.val T2 a2)), (3, (.val T2 a3)), (9, (.val .own (0 : Nat))), (10, (.val (.slice T78) y4.2.1)), (11, (.val T2 y4.2.2)), (12, (.val T2 y6))], [(0, .row T25 y4.1 26)]⟩
noncomputable def tourlaw2_SolveSays.c1q (a0 : (List V25)) (a1 : (List V78)) (a2 : Int) (a3 : Int) (y4 : ((List V25) × ((List V78) × Int))) (y6 : Int) (o : Bool) : SL := (fun v => ⟨[(0, (.val (.slice T25) a0)), (1, (.val (.slice T78) a1)), (2, (.val T2 a2)), (3, (.val T2 a3)), (9, (.val .own (0 : Nat))), (10, (.val (.slice T78) y4.2.1)), (11, (.val T2 y4.2.2)), (12, (.val T2 y6)), (51, (.val T4 v))], [(0, .row T25 y4.1 26)]⟩) o
noncomputable def tourlaw2_SolveSays.c1x (o : Bool) : Ex := (fun _ => .normal) o
noncomputable def tourlaw2_SolveSays.c1n (o : Bool) : Nat := (fun _ => 1) o
theorem tourlaw2_SolveSays.c1_ok (k : Nat) (a0 : (List V25)) (a1 : (List V78)) (a2 : Int) (a3 : Int) (y4 : ((List V25) × ((List V78) × Int))) (y6 : Int) : Owp (tourlaw2_SolveSays.c1 k a2 a3 y6) fun o => Triple PR (tourlaw2_SolveSays.cx k) (sub tourlaw2_SolveSays.code [1, 1, 1, 1, 1, 0, 0]) 1 (tourlaw2_SolveSays.c1p a0 a1 a2 a3 y4 y6) (tourlaw2_SolveSays.c1x o) (tourlaw2_SolveSays.c1n o) (tourlaw2_SolveSays.c1q a0 a1 a2 a3 y4 y6 o) := by
  unfold tourlaw2_SolveSays.c1; exact
   Owp.bif (fun e11 =>
   Owp.bif (fun e12 =>
    Owp.some (triple_way (tourlaw2_SolveSays.cok k) hmix [.dec true, .dec true, .dec true, .dec true, .dec true, .dec true, .dec true, .dec true, .dec true, .dec true, .dec true, .dec true, .dec true, .dec true, .dec true, .dec true, .dec true, .dec true] [] [(0, 0)] (via (finP (And.intro (And.intro (And.intro (And.intro (And.intro (And.intro (And.intro (And.intro (And.intro (And.intro (And.intro (And.intro (And.intro (And.intro (And.intro trivial e11) e11) e11) e12) e12) (And.intro e11 e12)) e11) tt) tt) (And.intro e11 tt)) e11) tt) tt) (And.intro e11 tt)) e11) .normal [(0, 0)] (tourlaw2_SolveSays.c1q a0 a1 a2 a3 y4 y6 true)) (by kernel_rfl)))) (fun e12 =>
    Owp.bif (fun e13 =>
     Owp.some (triple_way (tourlaw2_SolveSays.cok k) hmix [.dec true, .dec true, .dec true, .dec false, .dec false, .dec true, .dec false, .dec true, .dec true, .dec true, .dec true, .dec true, .dec true, .dec true, .dec true, .dec true, .dec true, .dec true] [] [(0, 0)] (via (finP (And.intro (And.intro (And.intro (And.intro (And.intro (And.intro (And.intro (And.intro (And.intro (And.intro (And.intro (And.intro (And.intro (And.intro (And.intro trivial e11) e11) e11) e12) e12) (And.intro e11 e12)) e11) e13) e13) (And.intro e11 e13)) e11) tt) tt) (And.intro e11 tt)) e11) .normal [(0, 0)] (tourlaw2_SolveSays.c1q a0 a1 a2 a3 y4 y6 true)) (by kernel_rfl)))) (fun e13 =>
     Owp.bif (fun e14 =>
      Owp.some (triple_way (tourlaw2_SolveSays.cok k) hmix [.dec true, .dec true, .dec true, .dec false, .dec false, .dec true, .dec false, .dec true, .dec false, .dec false, .dec true, .dec false, .dec true, .dec true, .dec true, .dec true, .dec true, .dec true] [] [(0, 0)] (via (finP (And.intro (And.intro (And.intro (And.intro (And.intro (And.intro (And.intro (And.intro (And.intro (And.intro (And.intro (And.intro (And.intro (And.intro (And.intro trivial e11) e11) e11) e12) e12) (And.intro e11 e12)) e11) e13) e13) (And.intro e11 e13)) e11) e14) e14) (And.intro e11 e14)) e11) .normal [(0, 0)] (tourlaw2_SolveSays.c1q a0 a1 a2 a3 y4 y6 true)) (by kernel_rfl)))) (fun e14 =>
      Owp.some (triple_way (tourlaw2_SolveSays.cok k) hmix [.dec true, .dec true, .dec true, .dec false, .dec false, .dec true, .dec false, .dec true, .dec false, .dec false, .dec true, .dec false, .dec true, .dec false, .dec false, .dec true, .dec false, .dec true] [] [(0, 0)] (via (finP (And.intro (And.intro (And.intro (And.intro (And.intro (And.intro (And.intro (And.intro (And.intro (And.intro (And.intro (And.intro (And.intro (And.intro (And.intro trivial e11) e11) e11) e12) e12) (And.intro e11 e12)) e11) e13) e13) (And.intro e11 e13)) e11) e14) e14) (And.intro e11 e14)) e11) .normal [(0, 0)] (tourlaw2_SolveSays.c1q a0 a1 a2 a3 y4 y6 (igt a3 (32 : Int)))) (by kernel_rfl))))))) (fun e11 =>
   Owp.some (triple_way (tourlaw2_SolveSays.cok k) hmix [.dec false, .dec false, .dec false, .dec true, .dec true, .dec false, .dec true, .dec false, .dec true, .dec true, .dec false, .dec true, .dec false, .dec true, .dec true, .dec false, .dec true, .dec false] [] [(0, 0)] (via (finP (And.intro (And.intro (And.intro (And.intro (And.intro (And.intro (And.intro (And.intro (And.intro trivial e11) e11) e11) e11) e11) e11) e11) e11) e11) .normal [(0, 0)] (tourlaw2_SolveSays.c1q a0 a1 a2 a3 y4 y6 false)) (by kernel_rfl))))
noncomputable def tourlaw2_SolveSays.c2p (a0 : (List V25)) (a1 : (List V78)) (a2 : Int) (a3 : Int) (o15 : Bool) (y4 : ((List V25) × ((List V78) × Int))) (y6 : Int) : SL := ⟨[(0, (.val (.slice T25) a0)), (1, (.val (.slice T78) a1)), (2, (.val T2 a2)), (3, (.val T2 a3)), (9, (.val .own (0 : Nat))), (10, (.val (.slice T78) y4.2.1)), (11, (.val T2 y4.2.2)), (12, (.val T2 y6)), (51, (.val T4 o15))], [(0, .row T25 y4.1 26)]⟩
noncomputable def tourlaw2_SolveSays.c2q (a0 : (List V25)) (a1 : (List V78)) (a2 : Int) (a3 : Int) (y4 : ((List V25) × ((List V78) × Int))) (o : Int) : SL := (fun v => ⟨[(0, (.val (.slice T25) a0)), (1, (.val (.slice T78) a1)), (2, (.val T2 a2)), (3, (.val T2 a3)), (9, (.val .own (0 : Nat))), (10, (.val (.slice T78) y4.2.1)), (11, (.val T2 y4.2.2)), (12, (.val T2 v))], [(0, .row T25 y4.1 26)]⟩) o
noncomputable def tourlaw2_SolveSays.c2x (o : Int) : Ex := (fun _ => .normal) o
noncomputable def tourlaw2_SolveSays.c2n (o : Int) : Nat := (fun _ => 1) o
theorem tourlaw2_SolveSays.c2_ok (k : Nat) (a0 : (List V25)) (a1 : (List V78)) (a2 : Int) (a3 : Int) (o15 : Bool) (y4 : ((List V25) × ((List V78) × Int))) (y6 : Int) : Owp (tourlaw2_SolveSays.c2 k o15 y6) fun o => Triple PR (tourlaw2_SolveSays.cx k) (sub tourlaw2_SolveSays.code [1, 1, 1, 1, 1, 0, 1]) 1 (tourlaw2_SolveSays.c2p a0 a1 a2 a3 o15 y4 y6) (tourlaw2_SolveSays.c2x o) (tourlaw2_SolveSays.c2n o) (tourlaw2_SolveSays.c2q a0 a1 a2 a3 y4 o) := by
  unfold tourlaw2_SolveSays.c2; exact
   Owp.bif (fun e17 =>
   Owp.some (triple_way (tourlaw2_SolveSays.cok k) hmix [.dec true] [] [(0, 0)] (via (finP (And.intro trivial e17) .normal [(0, 0)] (tourlaw2_SolveSays.c2q a0 a1 a2 a3 y4 (1 : Int))) (by kernel_rfl)))) (fun e17 =>
   Owp.some (triple_way (tourlaw2_SolveSays.cok k) hmix [.dec false] [] [(0, 0)] (via (finP (And.intro trivial e17) .normal [(0, 0)] (tourlaw2_SolveSays.c2q a0 a1 a2 a3 y4 y6)) (by kernel_rfl))))
noncomputable def tourlaw2_SolveSays.c3p (o18 : Int) (y4 : ((List V25) × ((List V78) × Int))) : SL := ⟨[(9, (.val .own (0 : Nat))), (10, (.val (.slice T78) y4.2.1)), (11, (.val T2 y4.2.2)), (12, (.val T2 o18))], [(0, .row T25 y4.1 26)]⟩
noncomputable def tourlaw2_SolveSays.c3q (o : Bool) : SL := (fun v => ⟨[(8, (.val T4 v))], []⟩) o
noncomputable def tourlaw2_SolveSays.c3x (o : Bool) : Ex := (fun _ => .normal) o
noncomputable def tourlaw2_SolveSays.c3n (o : Bool) : Nat := (fun _ => 0) o
theorem tourlaw2_SolveSays.c3_ok (k : Nat) (o18 : Int) (y4 : ((List V25) × ((List V78) × Int))) : Owp (tourlaw2_SolveSays.c3 k o18 y4) fun o => Triple PR (tourlaw2_SolveSays.cx k) (sub tourlaw2_SolveSays.code [1, 1, 1, 1, 1, 1, 0, 1, 0, 0]) 1 (tourlaw2_SolveSays.c3p o18 y4) (tourlaw2_SolveSays.c3x o) (tourlaw2_SolveSays.c3n o) (tourlaw2_SolveSays.c3q o) := by
  unfold tourlaw2_SolveSays.c3; exact
   Owp.bif (fun e21 =>
   Owp.some (triple_way (tourlaw2_SolveSays.cok k) hmix [.dec true, .dec true, .dec true, .dec true, .dec true, .dec true, .dec true] [] [] (via (finP (And.intro (And.intro (And.intro (And.intro (And.intro (And.intro (And.intro trivial e21) e21) e21) e21) e21) e21) e21) .normal [] (tourlaw2_SolveSays.c3q (ieq (iadd .i64 (len y4.1) (len y4.2.1)) (0 : Int)))) (by kernel_rfl)))) (fun e21 =>
   Owp.some (triple_way (tourlaw2_SolveSays.cok k) hmix [.dec false, .dec false, .dec false, .dec false, .dec false, .dec false, .dec false] [] [] (via (finP (And.intro (And.intro (And.intro (And.intro (And.intro (And.intro (And.intro trivial e21) e21) e21) e21) e21) e21) e21) .normal [] (tourlaw2_SolveSays.c3q false)) (by kernel_rfl))))
theorem tourlaw2_SolveSays.way (k : Nat) (a0 : (List V25)) (a1 : (List V78)) (a2 : Int) (a3 : Int) : Owp (tourlaw2_SolveSays k a0 a1 a2 a3) fun y => ∃ answers cmds, exec PR (tourlaw2_SolveSays.cx k) tourlaw2_SolveSays.code 0 (entry (.pair (.slice T25) (.pair (.slice T78) T22)) (a0, a1, a2, a3, ())).st answers (Ret (tourlaw2_SolveSays.cx k) Try.f14 cmds (.one (.dp T4)) y) := by
  unfold tourlaw2_SolveSays; exact
   Owp.bnd fun y1 e2 =>
   Owp.bif (fun e3 =>
   Owp.bnd fun y4 e5 =>
    Owp.bnd fun y6 e7 =>
    Owp.bnd fun y8 e9 =>
    Owp.bif (fun e10 =>
    Owp.some (⟨[.res (.one (.dp T4)) y1, .dec false, .res (.more (.ow T25 26) (.more (.dp (.slice T78)) (.one (.dp T2)))) y4, .res (.one (.dp T2)) y6, .res (.one (.dp T2)) y8, .dec true], [], via (retP (And.intro (And.intro (And.intro (And.intro (And.intro (And.intro trivial e2) (congrArg not e3)) e5) e7) e9) e10) (.one (.dp T4)) (false : Bool)) (by kernel_rfl)⟩)) (fun e10 =>
    Owp.bnd fun o15 e16 =>
     Owp.bnd fun o18 e19 =>
     Owp.bif (fun e20 =>
     Owp.bnd fun o22 e23 =>
      Owp.some (⟨[.res (.one (.dp T4)) y1, .dec false, .res (.more (.ow T25 26) (.more (.dp (.slice T78)) (.one (.dp T2)))) y4, .res (.one (.dp T2)) y6, .res (.one (.dp T2)) y8, .dec false, .cutR 7 ⟨[], [(0, 7)], (tourlaw2_SolveSays.c1p a0 a1 a2 a3 y4 y6), 1, .normal, (tourlaw2_SolveSays.c1q a0 a1 a2 a3 y4 y6 o15), 1⟩, .cut ⟨[], [(0, 0)], (tourlaw2_SolveSays.c2p a0 a1 a2 a3 o15 y4 y6), 1, .normal, (tourlaw2_SolveSays.c2q a0 a1 a2 a3 y4 o18), 1⟩, .dec true, .cutR 10 ⟨[], [(0, 0)], (tourlaw2_SolveSays.c3p o18 y4), 1, .normal, (tourlaw2_SolveSays.c3q o22), 0⟩], [], via (cutP (And.intro (And.intro (And.intro (And.intro (And.intro (And.intro trivial e2) (congrArg not e3)) e5) e7) e9) e10) [(0, 7)] (tourlaw2_SolveSays.c1p a0 a1 a2 a3 y4 y6) (((tourlaw2_SolveSays.c1_ok k a0 a1 a2 a3 y4 y6).ap e16)) (cutP trivial [(0, 0)] (tourlaw2_SolveSays.c2p a0 a1 a2 a3 o15 y4 y6) (((tourlaw2_SolveSays.c2_ok k a0 a1 a2 a3 o15 y4 y6).ap e19)) (cutP (And.intro trivial e20) [(0, 0)] (tourlaw2_SolveSays.c3p o18 y4) (((tourlaw2_SolveSays.c3_ok k o18 y4).ap e23)) (retP trivial (.one (.dp T4)) (o22 : Bool))))) (by kernel_rfl)⟩)) (fun e20 =>
     Owp.bif (fun e24 =>
      Owp.some (⟨[.res (.one (.dp T4)) y1, .dec false, .res (.more (.ow T25 26) (.more (.dp (.slice T78)) (.one (.dp T2)))) y4, .res (.one (.dp T2)) y6, .res (.one (.dp T2)) y8, .dec false, .cutR 7 ⟨[], [(0, 7)], (tourlaw2_SolveSays.c1p a0 a1 a2 a3 y4 y6), 1, .normal, (tourlaw2_SolveSays.c1q a0 a1 a2 a3 y4 y6 o15), 1⟩, .cut ⟨[], [(0, 0)], (tourlaw2_SolveSays.c2p a0 a1 a2 a3 o15 y4 y6), 1, .normal, (tourlaw2_SolveSays.c2q a0 a1 a2 a3 y4 o18), 1⟩, .dec false, .dec true], [], via (cutP (And.intro (And.intro (And.intro (And.intro (And.intro (And.intro trivial e2) (congrArg not e3)) e5) e7) e9) e10) [(0, 7)] (tourlaw2_SolveSays.c1p a0 a1 a2 a3 y4 y6) (((tourlaw2_SolveSays.c1_ok k a0 a1 a2 a3 y4 y6).ap e16)) (cutP trivial [(0, 0)] (tourlaw2_SolveSays.c2p a0 a1 a2 a3 o15 y4 y6) (((tourlaw2_SolveSays.c2_ok k a0 a1 a2 a3 o15 y4 y6).ap e19)) (retP (And.intro (And.intro trivial e20) e24) (.one (.dp T4)) (true : Bool)))) (by kernel_rfl)⟩)) (fun e24 =>
      Owp.bnd fun y25 e26 =>
       Owp.bif (fun e27 =>
       Owp.bnd fun y28 e29 =>
        Owp.bif (fun e30 =>
        Owp.bnd fun y31 e32 =>
         Owp.some (⟨[.res (.one (.dp T4)) y1, .dec false, .res (.more (.ow T25 26) (.more (.dp (.slice T78)) (.one (.dp T2)))) y4, .res (.one (.dp T2)) y6, .res (.one (.dp T2)) y8, .dec false, .cutR 7 ⟨[], [(0, 7)], (tourlaw2_SolveSays.c1p a0 a1 a2 a3 y4 y6), 1, .normal, (tourlaw2_SolveSays.c1q a0 a1 a2 a3 y4 y6 o15), 1⟩, .cut ⟨[], [(0, 0)], (tourlaw2_SolveSays.c2p a0 a1 a2 a3 o15 y4 y6), 1, .normal, (tourlaw2_SolveSays.c2q a0 a1 a2 a3 y4 o18), 1⟩, .dec false, .dec false, .res (.more (.ow T25 26) (.one (.dp (.slice T78)))) y25, .dec true, .dec true, .dec true, .res (.one (.dp T4)) y28, .dec true, .dec true, .dec true, .dec true, .res (.one (.dp T4)) y31, .dec true], [], via (cutP (And.intro (And.intro (And.intro (And.intro (And.intro (And.intro trivial e2) (congrArg not e3)) e5) e7) e9) e10) [(0, 7)] (tourlaw2_SolveSays.c1p a0 a1 a2 a3 y4 y6) (((tourlaw2_SolveSays.c1_ok k a0 a1 a2 a3 y4 y6).ap e16)) (cutP trivial [(0, 0)] (tourlaw2_SolveSays.c2p a0 a1 a2 a3 o15 y4 y6) (((tourlaw2_SolveSays.c2_ok k a0 a1 a2 a3 o15 y4 y6).ap e19)) (retP (And.intro (And.intro (And.intro (And.intro (And.intro (And.intro (And.intro (And.intro (And.intro (And.intro (And.intro trivial e20) e24) e26) e27) e27) (And.intro e27 e29)) e27) e30) e30) (And.intro e30 e32)) e30) (.one (.dp T4)) (y31 : Bool)))) (by kernel_rfl)⟩)) (fun e30 =>
        Owp.some (⟨[.res (.one (.dp T4)) y1, .dec false, .res (.more (.ow T25 26) (.more (.dp (.slice T78)) (.one (.dp T2)))) y4, .res (.one (.dp T2)) y6, .res (.one (.dp T2)) y8, .dec false, .cutR 7 ⟨[], [(0, 7)], (tourlaw2_SolveSays.c1p a0 a1 a2 a3 y4 y6), 1, .normal, (tourlaw2_SolveSays.c1q a0 a1 a2 a3 y4 y6 o15), 1⟩, .cut ⟨[], [(0, 0)], (tourlaw2_SolveSays.c2p a0 a1 a2 a3 o15 y4 y6), 1, .normal, (tourlaw2_SolveSays.c2q a0 a1 a2 a3 y4 o18), 1⟩, .dec false, .dec false, .res (.more (.ow T25 26) (.one (.dp (.slice T78)))) y25, .dec true, .dec true, .dec true, .res (.one (.dp T4)) y28, .dec true, .dec false, .dec false, .dec false, .dec true, .dec false], [], via (cutP (And.intro (And.intro (And.intro (And.intro (And.intro (And.intro trivial e2) (congrArg not e3)) e5) e7) e9) e10) [(0, 7)] (tourlaw2_SolveSays.c1p a0 a1 a2 a3 y4 y6) (((tourlaw2_SolveSays.c1_ok k a0 a1 a2 a3 y4 y6).ap e16)) (cutP trivial [(0, 0)] (tourlaw2_SolveSays.c2p a0 a1 a2 a3 o15 y4 y6) (((tourlaw2_SolveSays.c2_ok k a0 a1 a2 a3 o15 y4 y6).ap e19)) (retP (And.intro (And.intro (And.intro (And.intro (And.intro (And.intro (And.intro (And.intro (And.intro (And.intro (And.intro trivial e20) e24) e26) e27) e27) (And.intro e27 e29)) e27) e30) e30) e30) e30) (.one (.dp T4)) (false : Bool)))) (by kernel_rfl)⟩))) (fun e27 =>
       Owp.some (⟨[.res (.one (.dp T4)) y1, .dec false, .res (.more (.ow T25 26) (.more (.dp (.slice T78)) (.one (.dp T2)))) y4, .res (.one (.dp T2)) y6, .res (.one (.dp T2)) y8, .dec false, .cutR 7 ⟨[], [(0, 7)], (tourlaw2_SolveSays.c1p a0 a1 a2 a3 y4 y6), 1, .normal, (tourlaw2_SolveSays.c1q a0 a1 a2 a3 y4 y6 o15), 1⟩, .cut ⟨[], [(0, 0)], (tourlaw2_SolveSays.c2p a0 a1 a2 a3 o15 y4 y6), 1, .normal, (tourlaw2_SolveSays.c2q a0 a1 a2 a3 y4 o18), 1⟩, .dec false, .dec false, .res (.more (.ow T25 26) (.one (.dp (.slice T78)))) y25, .dec false, .dec false, .dec false, .dec true, .dec false, .dec false, .dec false, .dec false, .dec true, .dec false], [], via (cutP (And.intro (And.intro (And.intro (And.intro (And.intro (And.intro trivial e2) (congrArg not e3)) e5) e7) e9) e10) [(0, 7)] (tourlaw2_SolveSays.c1p a0 a1 a2 a3 y4 y6) (((tourlaw2_SolveSays.c1_ok k a0 a1 a2 a3 y4 y6).ap e16)) (cutP trivial [(0, 0)] (tourlaw2_SolveSays.c2p a0 a1 a2 a3 o15 y4 y6) (((tourlaw2_SolveSays.c2_ok k a0 a1 a2 a3 o15 y4 y6).ap e19)) (retP (And.intro (And.intro (And.intro (And.intro (And.intro (And.intro (And.intro (And.intro (And.intro (And.intro (And.intro trivial e20) e24) e26) e27) e27) e27) e27) ff) ff) ff) ff) (.one (.dp T4)) (false : Bool)))) (by kernel_rfl)⟩)))))) (fun e3 =>
   Owp.some (⟨[.res (.one (.dp T4)) y1, .dec true], [], via (retP (And.intro (And.intro trivial e2) (congrArg not e3)) (.one (.dp T4)) (false : Bool)) (by kernel_rfl)⟩))
theorem tourlaw2_SolveSays.ok (k : Nat) : FnOk PR 14 (tourlaw2_SolveSays.sp k) :=
  fn_ok (tourlaw2_SolveSays.cok k) hmix Try.func14 (code := tourlaw2_SolveSays.code) (by kernel_rfl) (by kernel_rfl) (by kernel_rfl) rfl rfl (by kernel_rfl) (by kernel_rfl) (by kernel_rfl) (fun x => Nat.le_of_ble_eq_true (by kernel_rfl)) fun x y hy => (tourlaw2_SolveSays.way k x.1 x.2.1 x.2.2.1 x.2.2.2.1).ap hy

end Go.Proofs.T1
