import Derived.Test.YtcgcnojpcgjnmaaG0
import Derived.Test.YtcgcnojpcgjnmaaG1
import Derived.Test.YtcgcnojpcgjnmaaG2
import Derived.Test.YtcgcnojpcgjnmaaG3
import Derived.Test.YtcgcnojpcgjnmaaG4
import Derived.Test.YtcgcnojpcgjnmaaG7
import Derived.Test.YtcgcnojpcgjnmaaG8
import Derived.Test.YtcgcnojpcgjnmaaG10
namespace Go.Proofs.T1
open Go Go.Sx Go.Proofs
set_option maxRecDepth 100000
set_option linter.unusedVariables false
/-! tourney/tourref2.Line -/
noncomputable def tourref2_Line.code : Code := Func.cd Try.f53
def tourref2_Line.c1 (k : Nat) (a0 : (List V22)) (a1 : V22) : Nat → Bool → Int → Option (Bool)
  | 0, _, _ => none
  | n + 1, v1, v2 =>
   bif' (ilt v2 (len a0))
   (req (inL v2 a0) <|
    bif' v1
    (req (nz (len a0)) <|
     req (inL (irem (iadd .i64 v2 1) (len a0)) a0) <|
     bnd (tourref2_left k (el Z22 a0 v2) (el Z22 a0 (irem (iadd .i64 v2 1) (len a0))) a1) fun y8 =>
     tourref2_Line.c1 k a0 a1 n (ige y8 0) (iadd .i64 v2 1))
    (tourref2_Line.c1 k a0 a1 n false (iadd .i64 v2 1)))
   (some v1)
def tourref2_Line.c4 (k : Nat) (y36 : (List Int)) (y40 : (List Int)) (y42 : Int) : Option ((List Int)) :=
  bif' (ilt y42 0)
  (some y40)
  (some y36)
def tourref2_Line.c3 (k : Nat) (a0 : (List V22)) (a1 : V22) (a2 : V22) (v15 : Int) (y27 : (List Int)) (y29 : (List Int)) (y31 : Int) : Option (Int) :=
  bif' (ieq y31 0)
  (bnd (tourref2_sub k (el Z22 a0 v15) a1) fun y34 =>
   bnd (tourref2_Dot k y34 a2) fun y36 =>
   bnd (tourref2_sub k (el Z22 a0 (irem (iadd .i64 v15 1) (len a0))) a1) fun y38 =>
   bnd (tourref2_Dot k y38 a2) fun y40 =>
   bnd (tourref2_Big_Cmp k y40 y36) fun y42 =>
   bnd (tourref2_Line.c4 k y36 y40 y42) fun o45 =>
   bnd (tourref2_Dot k a2 a2) fun y47 =>
   bnd (tourref2_part k o45 y47) fun y49 =>
   some y49)
  (bnd (tourref2_part k y27 y29) fun y51 =>
   some y51)
def tourref2_Line.c5 (k : Nat) (o53 : Int) (v13 : Int) (v14 : Bool) : Option (Bool) :=
  bif' v14
  (some (ilt o53 v13))
  (some true)
def tourref2_Line.c2 (k : Nat) (a0 : (List V22)) (a1 : V22) (a2 : V22) : Nat → Int → Bool → Int → Option ((Int × Bool))
  | 0, _, _, _ => none
  | n + 1, v13, v14, v15 =>
   bif' (ilt v15 (len a0))
   (req (inL v15 a0) <|
    req (nz (len a0)) <|
    req (inL (irem (iadd .i64 v15 1) (len a0)) a0) <|
    bnd (tourref2_cross k (el Z22 a0 v15) (el Z22 a0 (irem (iadd .i64 v15 1) (len a0))) a1 ((iadd .i64 a1.1 a2.1), (iadd .i64 a1.2.1 a2.2.1), ())) fun y20 =>
    bif' y20
    (bnd (tourref2_Out k a0 v15) fun y23 =>
     bnd (tourref2_sub k (el Z22 a0 v15) a1) fun y25 =>
     bnd (tourref2_Dot k y23 y25) fun y27 =>
     bnd (tourref2_Dot k y23 a2) fun y29 =>
     bnd (tourref2_Big_Cmp k y29 (List.replicate 8 0)) fun y31 =>
     bnd (tourref2_Line.c3 k a0 a1 a2 v15 y27 y29 y31) fun o53 =>
     bnd (tourref2_Line.c5 k o53 v13 v14) fun o56 =>
     bif' o56
     (tourref2_Line.c2 k a0 a1 a2 n o53 true (iadd .i64 v15 1))
     (tourref2_Line.c2 k a0 a1 a2 n v13 v14 (iadd .i64 v15 1)))
    (tourref2_Line.c2 k a0 a1 a2 n v13 v14 (iadd .i64 v15 1)))
   (some (v13, v14))
def tourref2_Line (k : Nat) (a0 : (List V22)) (a1 : V22) (a2 : V22) : Option (Int × Bool) :=
  bnd (tourref2_Line.c1 k a0 a1 k true 0) fun o10 =>
  bif' o10
  (some (0, true))
  (bnd (tourref2_Line.c2 k a0 a1 a2 k 0 false 0) fun o59 =>
   some (o59.1, o59.2))
noncomputable def tourref2_Line.sp (k : Nat) : Go.Sx.Spec := ⟨(.pair T24 T52), (.more (.dp T2) (.one (.dp T4))), fun x => tourref2_Line k x.1 x.2.1 x.2.2.1, false⟩
noncomputable def tourref2_Line.cx (k : Nat) : Go.Sx.Ctx := ⟨tys, [(124, tourref2_left.sp k), (101, tourref2_cross.sp k), (32, tourref2_Out.sp k), (102, tourref2_sub.sp k), (125, tourref2_Dot.sp k), (126, tourref2_Big_Cmp.sp k), (127, tourref2_part.sp k)], eqs, 130, 0, [], false⟩
theorem tourref2_Line.cok (k : Nat) : CtxOk PR (tourref2_Line.cx k) := ctx_ok tysOk eqsOk (FnsOk.cons (tourref2_left.ok k) (FnsOk.cons (tourref2_cross.ok k) (FnsOk.cons (tourref2_Out.ok k) (FnsOk.cons (tourref2_sub.ok k) (FnsOk.cons (tourref2_Dot.ok k) (FnsOk.cons (tourref2_Big_Cmp.ok k) (FnsOk.cons (tourref2_part.ok k) FnsOk.nil))))))) HsOk.nil
noncomputable def tourref2_Line.c1p (a0 : (List V22)) (a1 : V22) (a2 : V22) (v1 : Bool) (v2 : Int) : SL := ⟨[(0, (.val T24 a0)), (4, (.val .ptr ⟨0, 0, (0 : Int), 0, 0⟩)), (5, (.val .ptr ⟨1, 0, (0 : Int), 0, 0⟩)), (8, (.val T4 v1)), (24, (.val T24 a0)), (25, (.val T2 (len a0))), (26, (.val T2 v2))], [(0, .cells T22 a1), (1, .cells T22 a2)]⟩
noncomputable def tourref2_Line.c1q (a0 : (List V22)) (a1 : V22) (a2 : V22) (o : Bool) : SL := (fun v => ⟨[(0, (.val T24 a0)), (4, (.val .ptr ⟨0, 0, (0 : Int), 0, 0⟩)), (5, (.val .ptr ⟨1, 0, (0 : Int), 0, 0⟩)), (8, (.val T4 v))], [(0, .cells T22 a1), (1, .cells T22 a2)]⟩) o
noncomputable def tourref2_Line.c1x (o : Bool) : Ex := (fun _ => (.exit 0)) o
noncomputable def tourref2_Line.c1n (o : Bool) : Nat := (fun _ => 2) o
theorem tourref2_Line.c1_ok (k : Nat) (a0 : (List V22)) (a1 : V22) (a2 : V22) : ∀ (n : Nat) (v1 : Bool) (v2 : Int), Owp (tourref2_Line.c1 k a0 a1 n v1 v2) fun o => LTriple PR (tourref2_Line.cx k) (sub tourref2_Line.code [1, 1, 0, 1, 0, 0]) 2 (tourref2_Line.c1p a0 a1 a2 v1 v2) (tourref2_Line.c1x o) (tourref2_Line.c1n o) (tourref2_Line.c1q a0 a1 a2 o)
  | 0, _, _ => fun _ h => nomatch h
  | n + 1, v1, v2 => Owp.of (tourref2_Line.c1.eq_2 ..) (
   Owp.bif (fun e3 =>
   Owp.req fun h4 =>
    Owp.bif (fun e5 =>
    Owp.req fun h6 =>
     Owp.req fun h7 =>
     Owp.bnd fun y8 e9 =>
     fun y hy => loop_back (tourref2_Line.cok k) hmix 2 (tourref2_Line.c1p a0 a1 a2 (ige y8 (0 : Int)) (iadd .i64 v2 (1 : Int))) [.dec true, .dec true, .dec true, .dec true, .dec true, .dec true, .dec true, .dec true, .dec true, .dec true, .dec true, .dec true, .res (.one (.dp T2)) y8, .dec true, .dec true] [] [(0, 0), (1, 1)] (via (finP (And.intro (And.intro (And.intro (And.intro (And.intro (And.intro (And.intro (And.intro (And.intro (And.intro (And.intro (And.intro (And.intro (And.intro (And.intro trivial e3) h4) e5) e5) e5) e5) e5) e5) (And.intro e5 h6)) (And.intro e5 h7)) e5) e5) (And.intro e5 e9)) e5) e5) .normal [(0, 0), (1, 1)] (tourref2_Line.c1p a0 a1 a2 (ige y8 (0 : Int)) (iadd .i64 v2 (1 : Int)))) (by kernel_rfl)) ((tourref2_Line.c1_ok k a0 a1 a2 n (ige y8 (0 : Int)) (iadd .i64 v2 (1 : Int))).ap hy)) (fun e5 =>
    fun y hy => loop_back (tourref2_Line.cok k) hmix 2 (tourref2_Line.c1p a0 a1 a2 false (iadd .i64 v2 (1 : Int))) [.dec true, .dec false, .dec false, .dec false, .dec false, .dec false, .dec false, .dec false, .dec false, .dec false, .dec false, .dec false, .dec true, .dec false, .dec false] [] [(0, 0), (1, 1)] (via (finP (And.intro (And.intro (And.intro (And.intro (And.intro (And.intro (And.intro (And.intro (And.intro (And.intro (And.intro (And.intro (And.intro (And.intro (And.intro trivial e3) h4) e5) e5) e5) e5) e5) e5) e5) e5) e5) e5) e5) e5) e5) .normal [(0, 0), (1, 1)] (tourref2_Line.c1p a0 a1 a2 false (iadd .i64 v2 (1 : Int)))) (by kernel_rfl)) ((tourref2_Line.c1_ok k a0 a1 a2 n false (iadd .i64 v2 (1 : Int))).ap hy))) (fun e3 =>
   Owp.some (loop_exit (tourref2_Line.cok k) hmix [.dec false] [] [(0, 0), (1, 1)] (exne 0) (via (finP (And.intro trivial e3) (.exit 0) [(0, 0), (1, 1)] (tourref2_Line.c1q a0 a1 a2 v1)) (by kernel_rfl)))))
noncomputable def tourref2_Line.c4p (a0 : (List V22)) (a1 : V22) (a2 : V22) (v13 : Int) (v14 : Bool) (v15 : Int) (y36 : (List Int)) (y40 : (List Int)) (y42 : Int) : SL := ⟨[(0, (.val T24 a0)), (4, (.val .ptr ⟨0, 0, (0 : Int), 0, 0⟩)), (5, (.val .ptr ⟨1, 0, (0 : Int), 0, 0⟩)), (11, (.val .ptr ⟨2, 0, (0 : Int), 0, 0⟩)), (12, (.val T2 v13)), (13, (.val T4 v14)), (18, (.val .ptr ⟨3, 0, (0 : Int), 0, 0⟩)), (22, (.val .ptr ⟨4, 0, (0 : Int), 0, 0⟩)), (23, (.val .ptr ⟨5, 0, (0 : Int), 0, 0⟩)), (59, (.val T24 a0)), (60, (.val T2 (len a0))), (61, (.val T2 v15)), (109, (.val T4 (ilt y42 (0 : Int))))], [(0, .cells T22 a1), (1, .cells T22 a2), (2, .cells T22 ((iadd .i64 a1.1 a2.1), (iadd .i64 a1.2.1 a2.2.1), ())), (3, .cells T22 a2), (4, .cells T134 y36), (5, .cells T134 y40)]⟩
noncomputable def tourref2_Line.c4q (a0 : (List V22)) (a1 : V22) (a2 : V22) (v13 : Int) (v14 : Bool) (v15 : Int) (o : (List Int)) : SL := (fun v => ⟨[(0, (.val T24 a0)), (4, (.val .ptr ⟨0, 0, (0 : Int), 0, 0⟩)), (5, (.val .ptr ⟨1, 0, (0 : Int), 0, 0⟩)), (11, (.val .ptr ⟨2, 0, (0 : Int), 0, 0⟩)), (12, (.val T2 v13)), (13, (.val T4 v14)), (18, (.val .ptr ⟨3, 0, (0 : Int), 0, 0⟩)), (22, (.val .ptr ⟨4, 0, (0 : Int), 0, 0⟩)), (59, (.val T24 a0)), (60, (.val T2 (len a0))), (61, (.val T2 v15))], [(0, .cells T22 a1), (1, .cells T22 a2), (2, .cells T22 ((iadd .i64 a1.1 a2.1), (iadd .i64 a1.2.1 a2.2.1), ())), (3, .cells T22 a2), (4, .cells T134 v)]⟩) o
noncomputable def tourref2_Line.c4x (o : (List Int)) : Ex := (fun _ => .normal) o
noncomputable def tourref2_Line.c4n (o : (List Int)) : Nat := (fun _ => 5) o
theorem tourref2_Line.c4_ok (k : Nat) (a0 : (List V22)) (a1 : V22) (a2 : V22) (v13 : Int) (v14 : Bool) (v15 : Int) (y36 : (List Int)) (y40 : (List Int)) (y42 : Int) : Owp (tourref2_Line.c4 k y36 y40 y42) fun o => Triple PR (tourref2_Line.cx k) (sub tourref2_Line.code [1, 1, 1, 1, 1, 1, 0, 1, 0, 0, 1, 1, 0, 0, 1, 1, 1, 1, 1, 1, 0, 1, 0, 1, 0, 1]) 6 (tourref2_Line.c4p a0 a1 a2 v13 v14 v15 y36 y40 y42) (tourref2_Line.c4x o) (tourref2_Line.c4n o) (tourref2_Line.c4q a0 a1 a2 v13 v14 v15 o) := by
  unfold tourref2_Line.c4; exact
   Owp.bif (fun e44 =>
   Owp.some (triple_way (tourref2_Line.cok k) hmix [.dec true] [] [(0, 0), (1, 1), (2, 2), (3, 3), (4, 4)] (via (finP (And.intro trivial e44) .normal [(0, 0), (1, 1), (2, 2), (3, 3), (4, 4)] (tourref2_Line.c4q a0 a1 a2 v13 v14 v15 y40)) (by kernel_rfl)))) (fun e44 =>
   Owp.some (triple_way (tourref2_Line.cok k) hmix [.dec false] [] [(0, 0), (1, 1), (2, 2), (3, 3), (4, 4)] (via (finP (And.intro trivial e44) .normal [(0, 0), (1, 1), (2, 2), (3, 3), (4, 4)] (tourref2_Line.c4q a0 a1 a2 v13 v14 v15 y36)) (by kernel_rfl))))
noncomputable def tourref2_Line.c3p (a0 : (List V22)) (a1 : V22) (a2 : V22) (v13 : Int) (v14 : Bool) (v15 : Int) (y27 : (List Int)) (y29 : (List Int)) (y31 : Int) : SL := ⟨[(0, (.val T24 a0)), (4, (.val .ptr ⟨0, 0, (0 : Int), 0, 0⟩)), (5, (.val .ptr ⟨1, 0, (0 : Int), 0, 0⟩)), (11, (.val .ptr ⟨2, 0, (0 : Int), 0, 0⟩)), (12, (.val T2 v13)), (13, (.val T4 v14)), (15, (.val .ptr ⟨3, 0, (0 : Int), 0, 0⟩)), (16, (.val .ptr ⟨4, 0, (0 : Int), 0, 0⟩)), (18, (.val .ptr ⟨5, 0, (0 : Int), 0, 0⟩)), (19, (.val .ptr ⟨6, 0, (0 : Int), 0, 0⟩)), (20, (.val .ptr ⟨7, 0, (0 : Int), 0, 0⟩)), (59, (.val T24 a0)), (60, (.val T2 (len a0))), (61, (.val T2 v15)), (95, (.val T4 (ieq y31 (0 : Int))))], [(0, .cells T22 a1), (1, .cells T22 a2), (2, .cells T22 ((iadd .i64 a1.1 a2.1), (iadd .i64 a1.2.1 a2.2.1), ())), (3, .cells T22 (el Z22 a0 v15)), (4, .cells T22 (el Z22 a0 (irem (iadd .i64 v15 (1 : Int)) (len a0)))), (5, .cells T22 a2), (6, .cells T134 y27), (7, .cells T134 y29)]⟩
noncomputable def tourref2_Line.c3q (a0 : (List V22)) (a1 : V22) (a2 : V22) (v13 : Int) (v14 : Bool) (v15 : Int) (o : Int) : SL := (fun v => ⟨[(0, (.val T24 a0)), (4, (.val .ptr ⟨0, 0, (0 : Int), 0, 0⟩)), (5, (.val .ptr ⟨1, 0, (0 : Int), 0, 0⟩)), (11, (.val .ptr ⟨2, 0, (0 : Int), 0, 0⟩)), (12, (.val T2 v13)), (13, (.val T4 v14)), (21, (.val T2 v)), (59, (.val T24 a0)), (60, (.val T2 (len a0))), (61, (.val T2 v15))], [(0, .cells T22 a1), (1, .cells T22 a2), (2, .cells T22 ((iadd .i64 a1.1 a2.1), (iadd .i64 a1.2.1 a2.2.1), ()))]⟩) o
noncomputable def tourref2_Line.c3x (o : Int) : Ex := (fun _ => .normal) o
noncomputable def tourref2_Line.c3n (o : Int) : Nat := (fun _ => 3) o
theorem tourref2_Line.c3_ok (k : Nat) (a0 : (List V22)) (a1 : V22) (a2 : V22) (v13 : Int) (v14 : Bool) (v15 : Int) (y27 : (List Int)) (y29 : (List Int)) (y31 : Int) : Owp (tourref2_Line.c3 k a0 a1 a2 v15 y27 y29 y31) fun o => Triple PR (tourref2_Line.cx k) (sub tourref2_Line.code [1, 1, 1, 1, 1, 1, 0, 1, 0, 0, 1, 1, 0, 0, 1, 1, 1, 1, 1, 1, 0, 1]) 8 (tourref2_Line.c3p a0 a1 a2 v13 v14 v15 y27 y29 y31) (tourref2_Line.c3x o) (tourref2_Line.c3n o) (tourref2_Line.c3q a0 a1 a2 v13 v14 v15 o) := by
  unfold tourref2_Line.c3; exact
   Owp.bif (fun e33 =>
   Owp.bnd fun y34 e35 =>
    Owp.bnd fun y36 e37 =>
    Owp.bnd fun y38 e39 =>
    Owp.bnd fun y40 e41 =>
    Owp.bnd fun y42 e43 =>
    Owp.bnd fun o45 e46 =>
    Owp.bnd fun y47 e48 =>
    Owp.bnd fun y49 e50 =>
    Owp.some (triple_way (tourref2_Line.cok k) hmix [.dec true, .res (.one (.dp T22)) y34, .res (.one (.dp T134)) y36, .res (.one (.dp T22)) y38, .res (.one (.dp T134)) y40, .res (.one (.dp T2)) y42, .cut ⟨[], [(0, 0), (1, 1), (2, 2), (3, 5), (4, 18), (5, 19)], (tourref2_Line.c4p a0 a1 a2 v13 v14 v15 y36 y40 y42), 6, .normal, (tourref2_Line.c4q a0 a1 a2 v13 v14 v15 o45), 5⟩, .res (.one (.dp T134)) y47, .res (.one (.dp T2)) y49] [] [(0, 0), (1, 1), (2, 2)] (via (cutP (And.intro (And.intro (And.intro (And.intro (And.intro (And.intro trivial e33) e35) e37) e39) e41) e43) [(0, 0), (1, 1), (2, 2), (3, 5), (4, 18), (5, 19)] (tourref2_Line.c4p a0 a1 a2 v13 v14 v15 y36 y40 y42) (((tourref2_Line.c4_ok k a0 a1 a2 v13 v14 v15 y36 y40 y42).ap e46)) (finP (And.intro (And.intro trivial e48) e50) .normal [(0, 0), (1, 1), (2, 2)] (tourref2_Line.c3q a0 a1 a2 v13 v14 v15 y49))) (by kernel_rfl)))) (fun e33 =>
   Owp.bnd fun y51 e52 =>
    Owp.some (triple_way (tourref2_Line.cok k) hmix [.dec false, .res (.one (.dp T2)) y51] [] [(0, 0), (1, 1), (2, 2)] (via (finP (And.intro (And.intro trivial e33) e52) .normal [(0, 0), (1, 1), (2, 2)] (tourref2_Line.c3q a0 a1 a2 v13 v14 v15 y51)) (by kernel_rfl))))
noncomputable def tourref2_Line.c5p (a0 : (List V22)) (a1 : V22) (a2 : V22) (o53 : Int) (v13 : Int) (v14 : Bool) (v15 : Int) : SL := ⟨[(0, (.val T24 a0)), (4, (.val .ptr ⟨0, 0, (0 : Int), 0, 0⟩)), (5, (.val .ptr ⟨1, 0, (0 : Int), 0, 0⟩)), (11, (.val .ptr ⟨2, 0, (0 : Int), 0, 0⟩)), (12, (.val T2 v13)), (13, (.val T4 v14)), (21, (.val T2 o53)), (59, (.val T24 a0)), (60, (.val T2 (len a0))), (61, (.val T2 v15))], [(0, .cells T22 a1), (1, .cells T22 a2), (2, .cells T22 ((iadd .i64 a1.1 a2.1), (iadd .i64 a1.2.1 a2.2.1), ()))]⟩
noncomputable def tourref2_Line.c5q (a0 : (List V22)) (a1 : V22) (a2 : V22) (o53 : Int) (v13 : Int) (v14 : Bool) (v15 : Int) (o : Bool) : SL := (fun v => ⟨[(0, (.val T24 a0)), (4, (.val .ptr ⟨0, 0, (0 : Int), 0, 0⟩)), (5, (.val .ptr ⟨1, 0, (0 : Int), 0, 0⟩)), (11, (.val .ptr ⟨2, 0, (0 : Int), 0, 0⟩)), (12, (.val T2 v13)), (13, (.val T4 v14)), (21, (.val T2 o53)), (59, (.val T24 a0)), (60, (.val T2 (len a0))), (61, (.val T2 v15)), (125, (.val T4 v))], [(0, .cells T22 a1), (1, .cells T22 a2), (2, .cells T22 ((iadd .i64 a1.1 a2.1), (iadd .i64 a1.2.1 a2.2.1), ()))]⟩) o
noncomputable def tourref2_Line.c5x (o : Bool) : Ex := (fun _ => .normal) o
noncomputable def tourref2_Line.c5n (o : Bool) : Nat := (fun _ => 3) o
theorem tourref2_Line.c5_ok (k : Nat) (a0 : (List V22)) (a1 : V22) (a2 : V22) (o53 : Int) (v13 : Int) (v14 : Bool) (v15 : Int) : Owp (tourref2_Line.c5 k o53 v13 v14) fun o => Triple PR (tourref2_Line.cx k) (sub tourref2_Line.code [1, 1, 1, 1, 1, 1, 0, 1, 0, 0, 1, 1, 0, 0, 1, 1, 1, 1, 1, 1, 1, 0]) 3 (tourref2_Line.c5p a0 a1 a2 o53 v13 v14 v15) (tourref2_Line.c5x o) (tourref2_Line.c5n o) (tourref2_Line.c5q a0 a1 a2 o53 v13 v14 v15 o) := by
  unfold tourref2_Line.c5; exact
   Owp.bif (fun e55 =>
   Owp.some (triple_way (tourref2_Line.cok k) hmix [.dec false, .dec false, .dec false, .dec false] [] [(0, 0), (1, 1), (2, 2)] (via (finP (And.intro (And.intro (And.intro (And.intro trivial (congrArg not e55)) (congrArg not e55)) (congrArg not e55)) (congrArg not e55)) .normal [(0, 0), (1, 1), (2, 2)] (tourref2_Line.c5q a0 a1 a2 o53 v13 v14 v15 (ilt o53 v13))) (by kernel_rfl)))) (fun e55 =>
   Owp.some (triple_way (tourref2_Line.cok k) hmix [.dec true, .dec true, .dec true, .dec true] [] [(0, 0), (1, 1), (2, 2)] (via (finP (And.intro (And.intro (And.intro (And.intro trivial (congrArg not e55)) (congrArg not e55)) (congrArg not e55)) (congrArg not e55)) .normal [(0, 0), (1, 1), (2, 2)] (tourref2_Line.c5q a0 a1 a2 o53 v13 v14 v15 true)) (by kernel_rfl))))
noncomputable def tourref2_Line.c2p (a0 : (List V22)) (a1 : V22) (a2 : V22) (v13 : Int) (v14 : Bool) (v15 : Int) : SL := ⟨[(0, (.val T24 a0)), (4, (.val .ptr ⟨0, 0, (0 : Int), 0, 0⟩)), (5, (.val .ptr ⟨1, 0, (0 : Int), 0, 0⟩)), (11, (.val .ptr ⟨2, 0, (0 : Int), 0, 0⟩)), (12, (.val T2 v13)), (13, (.val T4 v14)), (59, (.val T24 a0)), (60, (.val T2 (len a0))), (61, (.val T2 v15))], [(0, .cells T22 a1), (1, .cells T22 a2), (2, .cells T22 ((iadd .i64 a1.1 a2.1), (iadd .i64 a1.2.1 a2.2.1), ()))]⟩
noncomputable def tourref2_Line.c2q (o : (Int × Bool)) : SL := (fun v => ⟨[(12, (.val T2 v.1)), (13, (.val T4 v.2))], []⟩) o
noncomputable def tourref2_Line.c2x (o : (Int × Bool)) : Ex := (fun _ => (.exit 2)) o
noncomputable def tourref2_Line.c2n (o : (Int × Bool)) : Nat := (fun _ => 0) o
theorem tourref2_Line.c2_ok (k : Nat) (a0 : (List V22)) (a1 : V22) (a2 : V22) : ∀ (n : Nat) (v13 : Int) (v14 : Bool) (v15 : Int), Owp (tourref2_Line.c2 k a0 a1 a2 n v13 v14 v15) fun o => LTriple PR (tourref2_Line.cx k) (sub tourref2_Line.code [1, 1, 1, 1, 1, 1, 0, 1, 0, 0]) 3 (tourref2_Line.c2p a0 a1 a2 v13 v14 v15) (tourref2_Line.c2x o) (tourref2_Line.c2n o) (tourref2_Line.c2q o)
  | 0, _, _, _ => fun _ h => nomatch h
  | n + 1, v13, v14, v15 => Owp.of (tourref2_Line.c2.eq_2 ..) (
   Owp.bif (fun e16 =>
   Owp.req fun h17 =>
    Owp.req fun h18 =>
    Owp.req fun h19 =>
    Owp.bnd fun y20 e21 =>
    Owp.bif (fun e22 =>
    Owp.bnd fun y23 e24 =>
     Owp.bnd fun y25 e26 =>
     Owp.bnd fun y27 e28 =>
     Owp.bnd fun y29 e30 =>
     Owp.bnd fun y31 e32 =>
     Owp.bnd fun o53 e54 =>
     Owp.bnd fun o56 e57 =>
     Owp.bif (fun e58 =>
     fun y hy => loop_back (tourref2_Line.cok k) hmix 3 (tourref2_Line.c2p a0 a1 a2 o53 true (iadd .i64 v15 (1 : Int))) [.dec true, .res (.one (.dp T4)) y20, .dec false, .res (.one (.dp T22)) y23, .res (.one (.dp T22)) y25, .res (.one (.dp T134)) y27, .res (.one (.dp T134)) y29, .res (.one (.dp T2)) y31, .cut ⟨[], [(0, 0), (1, 1), (2, 2), (3, 7), (4, 18), (5, 31), (6, 42), (7, 43)], (tourref2_Line.c3p a0 a1 a2 v13 v14 v15 y27 y29 y31), 8, .normal, (tourref2_Line.c3q a0 a1 a2 v13 v14 v15 o53), 3⟩, .cutR 25 ⟨[], [(0, 0), (1, 1), (2, 2)], (tourref2_Line.c5p a0 a1 a2 o53 v13 v14 v15), 3, .normal, (tourref2_Line.c5q a0 a1 a2 o53 v13 v14 v15 o56), 3⟩, .dec true] [] [(0, 0), (1, 1), (2, 2)] (via (cutP (And.intro (And.intro (And.intro (And.intro (And.intro (And.intro (And.intro (And.intro (And.intro (And.intro (And.intro trivial e16) h17) h18) h19) e21) (congrArg not e22)) e24) e26) e28) e30) e32) [(0, 0), (1, 1), (2, 2), (3, 7), (4, 18), (5, 31), (6, 42), (7, 43)] (tourref2_Line.c3p a0 a1 a2 v13 v14 v15 y27 y29 y31) (((tourref2_Line.c3_ok k a0 a1 a2 v13 v14 v15 y27 y29 y31).ap e54)) (cutP trivial [(0, 0), (1, 1), (2, 2)] (tourref2_Line.c5p a0 a1 a2 o53 v13 v14 v15) (((tourref2_Line.c5_ok k a0 a1 a2 o53 v13 v14 v15).ap e57)) (finP (And.intro trivial e58) .normal [(0, 0), (1, 1), (2, 2)] (tourref2_Line.c2p a0 a1 a2 o53 true (iadd .i64 v15 (1 : Int)))))) (by kernel_rfl)) ((tourref2_Line.c2_ok k a0 a1 a2 n o53 true (iadd .i64 v15 (1 : Int))).ap hy)) (fun e58 =>
     fun y hy => loop_back (tourref2_Line.cok k) hmix 3 (tourref2_Line.c2p a0 a1 a2 v13 v14 (iadd .i64 v15 (1 : Int))) [.dec true, .res (.one (.dp T4)) y20, .dec false, .res (.one (.dp T22)) y23, .res (.one (.dp T22)) y25, .res (.one (.dp T134)) y27, .res (.one (.dp T134)) y29, .res (.one (.dp T2)) y31, .cut ⟨[], [(0, 0), (1, 1), (2, 2), (3, 7), (4, 18), (5, 31), (6, 42), (7, 43)], (tourref2_Line.c3p a0 a1 a2 v13 v14 v15 y27 y29 y31), 8, .normal, (tourref2_Line.c3q a0 a1 a2 v13 v14 v15 o53), 3⟩, .cutR 25 ⟨[], [(0, 0), (1, 1), (2, 2)], (tourref2_Line.c5p a0 a1 a2 o53 v13 v14 v15), 3, .normal, (tourref2_Line.c5q a0 a1 a2 o53 v13 v14 v15 o56), 3⟩, .dec false] [] [(0, 0), (1, 1), (2, 2)] (via (cutP (And.intro (And.intro (And.intro (And.intro (And.intro (And.intro (And.intro (And.intro (And.intro (And.intro (And.intro trivial e16) h17) h18) h19) e21) (congrArg not e22)) e24) e26) e28) e30) e32) [(0, 0), (1, 1), (2, 2), (3, 7), (4, 18), (5, 31), (6, 42), (7, 43)] (tourref2_Line.c3p a0 a1 a2 v13 v14 v15 y27 y29 y31) (((tourref2_Line.c3_ok k a0 a1 a2 v13 v14 v15 y27 y29 y31).ap e54)) (cutP trivial [(0, 0), (1, 1), (2, 2)] (tourref2_Line.c5p a0 a1 a2 o53 v13 v14 v15) (((tourref2_Line.c5_ok k a0 a1 a2 o53 v13 v14 v15).ap e57)) (finP (And.intro trivial e58) .normal [(0, 0), (1, 1), (2, 2)] (tourref2_Line.c2p a0 a1 a2 v13 v14 (iadd .i64 v15 (1 : Int)))))) (by kernel_rfl)) ((tourref2_Line.c2_ok k a0 a1 a2 n v13 v14 (iadd .i64 v15 (1 : Int))).ap hy))) (fun e22 =>
    fun y hy => loop_back (tourref2_Line.cok k) hmix 3 (tourref2_Line.c2p a0 a1 a2 v13 v14 (iadd .i64 v15 (1 : Int))) [.dec true, .res (.one (.dp T4)) y20, .dec true] [] [(0, 0), (1, 1), (2, 2)] (via (finP (And.intro (And.intro (And.intro (And.intro (And.intro (And.intro trivial e16) h17) h18) h19) e21) (congrArg not e22)) .normal [(0, 0), (1, 1), (2, 2)] (tourref2_Line.c2p a0 a1 a2 v13 v14 (iadd .i64 v15 (1 : Int)))) (by kernel_rfl)) ((tourref2_Line.c2_ok k a0 a1 a2 n v13 v14 (iadd .i64 v15 (1 : Int))).ap hy))) (fun e16 =>
   Owp.some (loop_exit (tourref2_Line.cok k) hmix [.dec false] [] [] (exne 2) (via (finP (And.intro trivial e16) (.exit 2) [] (tourref2_Line.c2q (v13, v14))) (by kernel_rfl)))))
theorem tourref2_Line.way (k : Nat) (a0 : (List V22)) (a1 : V22) (a2 : V22) : Owp (tourref2_Line k a0 a1 a2) fun y => ∃ answers cmds, exec PR (tourref2_Line.cx k) tourref2_Line.code 0 (entry (.pair T24 T52) (a0, a1, a2, ())).st answers (Ret (tourref2_Line.cx k) Try.f53 cmds (.more (.dp T2) (.one (.dp T4))) y) := by
  unfold tourref2_Line; exact
   Owp.bnd fun o10 e11 =>
   Owp.bif (fun e12 =>
   Owp.some (⟨[.cut ⟨[], [(0, 0), (1, 1)], (tourref2_Line.c1p a0 a1 a2 true (0 : Int)), 2, (.exit 0), (tourref2_Line.c1q a0 a1 a2 o10), 2⟩, .dec true], [], via (cutP trivial [(0, 0), (1, 1)] (tourref2_Line.c1p a0 a1 a2 true (0 : Int)) (((tourref2_Line.c1_ok k a0 a1 a2 k true (0 : Int)).ap e11).triple) (retP (And.intro trivial e12) (.more (.dp T2) (.one (.dp T4))) (((0 : Int), true) : (Int × Bool)))) (by kernel_rfl)⟩)) (fun e12 =>
   Owp.bnd fun o59 e60 =>
    Owp.some (⟨[.cut ⟨[], [(0, 0), (1, 1)], (tourref2_Line.c1p a0 a1 a2 true (0 : Int)), 2, (.exit 0), (tourref2_Line.c1q a0 a1 a2 o10), 2⟩, .dec false, .cut ⟨[], [(0, 0), (1, 1), (2, 14)], (tourref2_Line.c2p a0 a1 a2 (0 : Int) false (0 : Int)), 3, (.exit 2), (tourref2_Line.c2q o59), 0⟩], [], via (cutP trivial [(0, 0), (1, 1)] (tourref2_Line.c1p a0 a1 a2 true (0 : Int)) (((tourref2_Line.c1_ok k a0 a1 a2 k true (0 : Int)).ap e11).triple) (cutP (And.intro trivial e12) [(0, 0), (1, 1), (2, 14)] (tourref2_Line.c2p a0 a1 a2 (0 : Int) false (0 : Int)) (((tourref2_Line.c2_ok k a0 a1 a2 k (0 : Int) false (0 : Int)).ap e60).triple) (retP trivial (.more (.dp T2) (.one (.dp T4))) ((o59.1, o59.2) : (Int × Bool))))) (by kernel_rfl)⟩))
theorem tourref2_Line.ok (k : Nat) : FnOk PR 53 (tourref2_Line.sp k) :=
  fn_ok (tourref2_Line.cok k) hmix Try.func53 (code := tourref2_Line.code) (by kernel_rfl) (by kernel_rfl) (by kernel_rfl) rfl rfl (by kernel_rfl) (by kernel_rfl) (by kernel_rfl) (fun x => Nat.le_of_ble_eq_true (by kernel_rfl)) fun x y hy => (tourref2_Line.way k x.1 x.2.1 x.2.2.1).ap hy

/-! tourney/tourref2.First -/
noncomputable def tourref2_First.code : Code := Func.cd Try.f54
def tourref2_First.c2 (k : Nat) (v2 : Int) (y8 : (Int × Bool)) : Option (Bool) :=
  bif' y8.2
  (bif' (ilt v2 0)
   (some true)
   (some (ile y8.1 v2)))
  (some false)
def tourref2_First.c3 (k : Nat) (o12 : Bool) (v1 : Int) (v2 : Int) (v3 : Int) (y8 : (Int × Bool)) : Option ((Int × Int)) :=
  bif' o12
  (some (v3, y8.1))
  (some (v1, v2))
def tourref2_First.c1 (k : Nat) (a0 : (List V25)) (a1 : (((List V22) × Unit) → Option (Int × Bool))) : Nat → Int → Int → Int → Option ((Int × Int))
  | 0, _, _, _ => none
  | n + 1, v1, v2, v3 =>
   bif' (ige v3 0)
   (req (inL v3 a0) <|
    bnd (tourref2_Placed k (el Z25 a0 v3)) fun y6 =>
    bnd (a1 (y6, ())) fun y8 =>
    bnd (tourref2_First.c2 k v2 y8) fun o12 =>
    bnd (tourref2_First.c3 k o12 v1 v2 v3 y8) fun o15 =>
    tourref2_First.c1 k a0 a1 n o15.1 o15.2 (isub .i64 v3 1))
   (some (v1, v2))
def tourref2_First (k : Nat) (a0 : (List V25)) (a1 : (((List V22) × Unit) → Option (Int × Bool))) : Option (Int × (Int × Int)) :=
  bnd (tourref2_First.c1 k a0 a1 k 0 (-1) (isub .i64 (len a0) 1)) fun o17 =>
  bif' (ilt o17.2 0)
  (some (0, 0, 4))
  (some (o17.1, o17.2, 0))
noncomputable def tourref2_First.sp (k : Nat) : Go.Sx.Spec := ⟨(.pair (.slice T25) (.pair (.fn2 (.pair T24 .unit) T2 T4) .unit)), (.more (.dp T2) (.more (.dp T2) (.one (.dp T2)))), fun x => tourref2_First k x.1 x.2.1, false⟩
noncomputable def tourref2_First.cx (k : Nat) : Go.Sx.Ctx := ⟨tys, [(44, tourref2_Placed.sp k)], eqs, 45, 0, [], false⟩
theorem tourref2_First.cok (k : Nat) : CtxOk PR (tourref2_First.cx k) := ctx_ok tysOk eqsOk (FnsOk.cons (tourref2_Placed.ok k) FnsOk.nil) HsOk.nil
noncomputable def tourref2_First.c2p (a0 : (List V25)) (a1 : (((List V22) × Unit) → Option (Int × Bool))) (v1 : Int) (v2 : Int) (v3 : Int) (y8 : (Int × Bool)) : SL := ⟨[(0, (.val (.slice T25) a0)), (1, (.val (.fn2 (.pair T24 .unit) T2 T4) a1)), (7, (.val T2 v1)), (8, (.val T2 v2)), (9, (.val T2 v3)), (10, (.val T2 y8.1)), (11, (.val T4 y8.2))], []⟩
noncomputable def tourref2_First.c2q (a0 : (List V25)) (a1 : (((List V22) × Unit) → Option (Int × Bool))) (v1 : Int) (v2 : Int) (v3 : Int) (y8 : (Int × Bool)) (o : Bool) : SL := (fun v => ⟨[(0, (.val (.slice T25) a0)), (1, (.val (.fn2 (.pair T24 .unit) T2 T4) a1)), (7, (.val T2 v1)), (8, (.val T2 v2)), (9, (.val T2 v3)), (10, (.val T2 y8.1)), (38, (.val T4 v))], []⟩) o
noncomputable def tourref2_First.c2x (o : Bool) : Ex := (fun _ => .normal) o
noncomputable def tourref2_First.c2n (o : Bool) : Nat := (fun _ => 0) o
theorem tourref2_First.c2_ok (k : Nat) (a0 : (List V25)) (a1 : (((List V22) × Unit) → Option (Int × Bool))) (v1 : Int) (v2 : Int) (v3 : Int) (y8 : (Int × Bool)) : Owp (tourref2_First.c2 k v2 y8) fun o => Triple PR (tourref2_First.cx k) (sub tourref2_First.code [1, 1, 0, 1, 0, 0, 1, 0, 0, 1, 0]) 0 (tourref2_First.c2p a0 a1 v1 v2 v3 y8) (tourref2_First.c2x o) (tourref2_First.c2n o) (tourref2_First.c2q a0 a1 v1 v2 v3 y8 o) := by
  unfold tourref2_First.c2; exact
   Owp.bif (fun e10 =>
   Owp.bif (fun e11 =>
    Owp.some (triple_way (tourref2_First.cok k) hmix [.dec true, .dec true, .dec true, .dec true, .dec true, .dec true, .dec true, .dec true, .dec true] [] [] (via (finP (And.intro (And.intro (And.intro (And.intro (And.intro (And.intro (And.intro (And.intro trivial e10) e10) e10) e11) e11) e11) (And.intro e10 e11)) e10) .normal [] (tourref2_First.c2q a0 a1 v1 v2 v3 y8 true)) (by kernel_rfl)))) (fun e11 =>
    Owp.some (triple_way (tourref2_First.cok k) hmix [.dec true, .dec true, .dec true, .dec false, .dec false, .dec false, .dec true, .dec false, .dec true] [] [] (via (finP (And.intro (And.intro (And.intro (And.intro (And.intro (And.intro (And.intro (And.intro trivial e10) e10) e10) e11) e11) e11) (And.intro e10 e11)) e10) .normal [] (tourref2_First.c2q a0 a1 v1 v2 v3 y8 (ile y8.1 v2))) (by kernel_rfl))))) (fun e10 =>
   Owp.some (triple_way (tourref2_First.cok k) hmix [.dec false, .dec false, .dec false, .dec true, .dec true, .dec true, .dec false, .dec true, .dec false] [] [] (via (finP (And.intro (And.intro (And.intro (And.intro (And.intro trivial e10) e10) e10) e10) e10) .normal [] (tourref2_First.c2q a0 a1 v1 v2 v3 y8 false)) (by kernel_rfl))))
noncomputable def tourref2_First.c3p (a0 : (List V25)) (a1 : (((List V22) × Unit) → Option (Int × Bool))) (o12 : Bool) (v1 : Int) (v2 : Int) (v3 : Int) (y8 : (Int × Bool)) : SL := ⟨[(0, (.val (.slice T25) a0)), (1, (.val (.fn2 (.pair T24 .unit) T2 T4) a1)), (7, (.val T2 v1)), (8, (.val T2 v2)), (9, (.val T2 v3)), (10, (.val T2 y8.1)), (38, (.val T4 o12))], []⟩
noncomputable def tourref2_First.c3q (a0 : (List V25)) (a1 : (((List V22) × Unit) → Option (Int × Bool))) (v3 : Int) (o : (Int × Int)) : SL := (fun v => ⟨[(0, (.val (.slice T25) a0)), (1, (.val (.fn2 (.pair T24 .unit) T2 T4) a1)), (7, (.val T2 v.1)), (8, (.val T2 v.2)), (9, (.val T2 v3))], []⟩) o
noncomputable def tourref2_First.c3x (o : (Int × Int)) : Ex := (fun _ => .normal) o
noncomputable def tourref2_First.c3n (o : (Int × Int)) : Nat := (fun _ => 0) o
theorem tourref2_First.c3_ok (k : Nat) (a0 : (List V25)) (a1 : (((List V22) × Unit) → Option (Int × Bool))) (o12 : Bool) (v1 : Int) (v2 : Int) (v3 : Int) (y8 : (Int × Bool)) : Owp (tourref2_First.c3 k o12 v1 v2 v3 y8) fun o => Triple PR (tourref2_First.cx k) (sub tourref2_First.code [1, 1, 0, 1, 0, 0, 1, 0, 0, 1, 1]) 0 (tourref2_First.c3p a0 a1 o12 v1 v2 v3 y8) (tourref2_First.c3x o) (tourref2_First.c3n o) (tourref2_First.c3q a0 a1 v3 o) := by
  unfold tourref2_First.c3; exact
   Owp.bif (fun e14 =>
   Owp.some (triple_way (tourref2_First.cok k) hmix [.dec true] [] [] (via (finP (And.intro trivial e14) .normal [] (tourref2_First.c3q a0 a1 v3 (v3, y8.1))) (by kernel_rfl)))) (fun e14 =>
   Owp.some (triple_way (tourref2_First.cok k) hmix [.dec false] [] [] (via (finP (And.intro trivial e14) .normal [] (tourref2_First.c3q a0 a1 v3 (v1, v2))) (by kernel_rfl))))
noncomputable def tourref2_First.c1p (a0 : (List V25)) (a1 : (((List V22) × Unit) → Option (Int × Bool))) (v1 : Int) (v2 : Int) (v3 : Int) : SL := ⟨[(0, (.val (.slice T25) a0)), (1, (.val (.fn2 (.pair T24 .unit) T2 T4) a1)), (7, (.val T2 v1)), (8, (.val T2 v2)), (9, (.val T2 v3))], []⟩
noncomputable def tourref2_First.c1q (o : (Int × Int)) : SL := (fun v => ⟨[(7, (.val T2 v.1)), (8, (.val T2 v.2))], []⟩) o
noncomputable def tourref2_First.c1x (o : (Int × Int)) : Ex := (fun _ => (.exit 0)) o
noncomputable def tourref2_First.c1n (o : (Int × Int)) : Nat := (fun _ => 0) o
theorem tourref2_First.c1_ok (k : Nat) (a0 : (List V25)) (a1 : (((List V22) × Unit) → Option (Int × Bool))) : ∀ (n : Nat) (v1 : Int) (v2 : Int) (v3 : Int), Owp (tourref2_First.c1 k a0 a1 n v1 v2 v3) fun o => LTriple PR (tourref2_First.cx k) (sub tourref2_First.code [1, 1, 0, 1, 0, 0]) 0 (tourref2_First.c1p a0 a1 v1 v2 v3) (tourref2_First.c1x o) (tourref2_First.c1n o) (tourref2_First.c1q o)
  | 0, _, _, _ => fun _ h => nomatch h
  | n + 1, v1, v2, v3 => Owp.of (tourref2_First.c1.eq_2 ..) (
   Owp.bif (fun e4 =>
   Owp.req fun h5 =>
    Owp.bnd fun y6 e7 =>
    Owp.bnd fun y8 e9 =>
    Owp.bnd fun o12 e13 =>
    Owp.bnd fun o15 e16 =>
    fun y hy => loop_back (tourref2_First.cok k) hmix 0 (tourref2_First.c1p a0 a1 o15.1 o15.2 (isub .i64 v3 (1 : Int))) [.dec true, .res (.one (.ow T22 23)) y6, .res (.more (.dp T2) (.one (.dp T4))) y8, .cutR 6 ⟨[], [], (tourref2_First.c2p a0 a1 v1 v2 v3 y8), 0, .normal, (tourref2_First.c2q a0 a1 v1 v2 v3 y8 o12), 0⟩, .cut ⟨[], [], (tourref2_First.c3p a0 a1 o12 v1 v2 v3 y8), 0, .normal, (tourref2_First.c3q a0 a1 v3 o15), 0⟩] [] [] (via (cutP (And.intro (And.intro (And.intro (And.intro trivial e4) h5) e7) e9) [] (tourref2_First.c2p a0 a1 v1 v2 v3 y8) (((tourref2_First.c2_ok k a0 a1 v1 v2 v3 y8).ap e13)) (cutP trivial [] (tourref2_First.c3p a0 a1 o12 v1 v2 v3 y8) (((tourref2_First.c3_ok k a0 a1 o12 v1 v2 v3 y8).ap e16)) (finP trivial .normal [] (tourref2_First.c1p a0 a1 o15.1 o15.2 (isub .i64 v3 (1 : Int)))))) (by kernel_rfl)) ((tourref2_First.c1_ok k a0 a1 n o15.1 o15.2 (isub .i64 v3 (1 : Int))).ap hy)) (fun e4 =>
   Owp.some (loop_exit (tourref2_First.cok k) hmix [.dec false] [] [] (exne 0) (via (finP (And.intro trivial e4) (.exit 0) [] (tourref2_First.c1q (v1, v2))) (by kernel_rfl)))))
theorem tourref2_First.way (k : Nat) (a0 : (List V25)) (a1 : (((List V22) × Unit) → Option (Int × Bool))) : Owp (tourref2_First k a0 a1) fun y => ∃ answers cmds, exec PR (tourref2_First.cx k) tourref2_First.code 0 (entry (.pair (.slice T25) (.pair (.fn2 (.pair T24 .unit) T2 T4) .unit)) (a0, a1, ())).st answers (Ret (tourref2_First.cx k) Try.f54 cmds (.more (.dp T2) (.more (.dp T2) (.one (.dp T2)))) y) := by
  unfold tourref2_First; exact
   Owp.bnd fun o17 e18 =>
   Owp.bif (fun e19 =>
   Owp.some (⟨[.cut ⟨[], [], (tourref2_First.c1p a0 a1 (0 : Int) (-1 : Int) (isub .i64 (len a0) (1 : Int))), 0, (.exit 0), (tourref2_First.c1q o17), 0⟩, .dec true], [], via (cutP trivial [] (tourref2_First.c1p a0 a1 (0 : Int) (-1 : Int) (isub .i64 (len a0) (1 : Int))) (((tourref2_First.c1_ok k a0 a1 k (0 : Int) (-1 : Int) (isub .i64 (len a0) (1 : Int))).ap e18).triple) (retP (And.intro trivial e19) (.more (.dp T2) (.more (.dp T2) (.one (.dp T2)))) (((0 : Int), (0 : Int), (4 : Int)) : (Int × (Int × Int))))) (by kernel_rfl)⟩)) (fun e19 =>
   Owp.some (⟨[.cut ⟨[], [], (tourref2_First.c1p a0 a1 (0 : Int) (-1 : Int) (isub .i64 (len a0) (1 : Int))), 0, (.exit 0), (tourref2_First.c1q o17), 0⟩, .dec false], [], via (cutP trivial [] (tourref2_First.c1p a0 a1 (0 : Int) (-1 : Int) (isub .i64 (len a0) (1 : Int))) (((tourref2_First.c1_ok k a0 a1 k (0 : Int) (-1 : Int) (isub .i64 (len a0) (1 : Int))).ap e18).triple) (retP (And.intro trivial e19) (.more (.dp T2) (.more (.dp T2) (.one (.dp T2)))) ((o17.1, o17.2, (0 : Int)) : (Int × (Int × Int))))) (by kernel_rfl)⟩))
theorem tourref2_First.ok (k : Nat) : FnOk PR 54 (tourref2_First.sp k) :=
  fn_ok (tourref2_First.cok k) hmix Try.func54 (code := tourref2_First.code) (by kernel_rfl) (by kernel_rfl) (by kernel_rfl) rfl rfl (by kernel_rfl) (by kernel_rfl) (by kernel_rfl) (fun x => Nat.le_of_ble_eq_true (by kernel_rfl)) fun x y hy => (tourref2_First.way k x.1 x.2.1).ap hy

/-! tourney/tourlaw2.RayCasts$1 -/
noncomputable def tourlaw2_RayCasts_1.code : Code := Func.cd Try.f55
def tourlaw2_RayCasts_1 (k : Nat) (a0 : (List V22)) (a1 : V22) (a2 : V22) : Option (Int × Bool) :=
  bnd (tourref2_Line k a0 a1 a2) fun y1 =>
  some (y1.1, y1.2)
noncomputable def tourlaw2_RayCasts_1.sp (k : Nat) : Go.Sx.Spec := ⟨(.pair T24 (.pair (.ref T22) (.pair (.ref T22) .unit))), (.more (.dp T2) (.one (.dp T4))), fun x => tourlaw2_RayCasts_1 k x.1 x.2.1 x.2.2.1, false⟩
noncomputable def tourlaw2_RayCasts_1.cx (k : Nat) : Go.Sx.Ctx := ⟨tys, [(53, tourref2_Line.sp k)], eqs, 12, 0, [], false⟩
theorem tourlaw2_RayCasts_1.cok (k : Nat) : CtxOk PR (tourlaw2_RayCasts_1.cx k) := ctx_ok tysOk eqsOk (FnsOk.cons (tourref2_Line.ok k) FnsOk.nil) HsOk.nil
theorem tourlaw2_RayCasts_1.way (k : Nat) (a0 : (List V22)) (a1 : V22) (a2 : V22) : Owp (tourlaw2_RayCasts_1 k a0 a1 a2) fun y => ∃ answers cmds, exec PR (tourlaw2_RayCasts_1.cx k) tourlaw2_RayCasts_1.code 0 (entry (.pair T24 (.pair (.ref T22) (.pair (.ref T22) .unit))) (a0, a1, a2, ())).st answers (Ret (tourlaw2_RayCasts_1.cx k) Try.f55 cmds (.more (.dp T2) (.one (.dp T4))) y) := by
  unfold tourlaw2_RayCasts_1; exact
   Owp.bnd fun y1 e2 =>
   Owp.some (⟨[.res (.more (.dp T2) (.one (.dp T4))) y1], [], via (retP (And.intro trivial e2) (.more (.dp T2) (.one (.dp T4))) ((y1.1, y1.2) : (Int × Bool))) (by kernel_rfl)⟩)
theorem tourlaw2_RayCasts_1.ok (k : Nat) : FnOk PR 55 (tourlaw2_RayCasts_1.sp k) :=
  fn_ok (tourlaw2_RayCasts_1.cok k) hmix Try.func55 (code := tourlaw2_RayCasts_1.code) (by kernel_rfl) (by kernel_rfl) (by kernel_rfl) rfl rfl (by kernel_rfl) (by kernel_rfl) (by kernel_rfl) (fun x => Nat.le_of_ble_eq_true (by kernel_rfl)) fun x y hy => (tourlaw2_RayCasts_1.way k x.1 x.2.1 x.2.2.1).ap hy

/-! tourney/tourlaw2.RayCasts -/
noncomputable def tourlaw2_RayCasts.code : Code := Func.cd Try.f7
def tourlaw2_RayCasts.c1 (k : Nat) (a2 : V22) (a3 : V22) (y8 : Int) : Option (Bool) :=
  bif' (ieq y8 0)
  (bnd (tourlaw2_near1000 k a2) fun y13 =>
   bif' y13
   (bnd (tourlaw2_near1000 k a3) fun y16 =>
    some (!y16))
   (some true))
  (some false)
def tourlaw2_RayCasts.c2 (k : Nat) (o18 : Bool) (y8 : Int) : Option (Int) :=
  bif' o18
  (some 1)
  (some y8)
def tourlaw2_RayCasts.c3 (k : Nat) (a1 : (List V22)) (a2 : V22) (a3 : V22) (o21 : Int) : Option ((Int × Int)) :=
  bif' (ieq o21 0)
  (bnd (tourref2_Line k a1 a2 a3) fun y24 =>
   bif' y24.2
   (some (o21, y24.1))
   (some (4, 0)))
  (some (o21, 0))
def tourlaw2_RayCasts.c4 (k : Nat) (o27 : (Int × Int)) (y4 : (Int × Int)) : Option (Bool) :=
  bif' (ine y4.2 o27.1)
  (some true)
  (some (ine y4.1 o27.2))
def tourlaw2_RayCasts.c5 (k : Nat) (a2 : V22) (a3 : V22) (y10 : Int) : Option (Bool) :=
  bif' (ieq y10 0)
  (bnd (tourlaw2_near1000 k a2) fun y34 =>
   bif' y34
   (bnd (tourlaw2_near1000 k a3) fun y37 =>
    some (!y37))
   (some true))
  (some false)
def tourlaw2_RayCasts.c6 (k : Nat) (o39 : Bool) (y10 : Int) : Option (Int) :=
  bif' o39
  (some 1)
  (some y10)
def tourlaw2_RayCasts.c7 (k : Nat) (o42 : Int) (y6 : (Int × (Int × Int))) : Option (Bool) :=
  bif' (ieq y6.2.2 o42)
  (bif' (ieq y6.1 0)
   (some (ieq y6.2.1 0))
   (some false))
  (some false)
def tourlaw2_RayCasts (k : Nat) (a0 : (List V25)) (a1 : (List V22)) (a2 : V22) (a3 : V22) : Option Bool :=
  bnd (tourlaw2_rayBegun k) fun y1 =>
  bif' y1
  (bnd (ray_Line k a1 a2 a3) fun y4 =>
   bnd (ray_Cast k a0 a2 a3) fun y6 =>
   bnd (tourref2_Poly k a1) fun y8 =>
   bnd (tourref2_Bodies k a0) fun y10 =>
   bnd (tourlaw2_RayCasts.c1 k a2 a3 y8) fun o18 =>
   bnd (tourlaw2_RayCasts.c2 k o18 y8) fun o21 =>
   bnd (tourlaw2_RayCasts.c3 k a1 a2 a3 o21) fun o27 =>
   bnd (tourlaw2_RayCasts.c4 k o27 y4) fun o30 =>
   bif' o30
   (some false)
   (bnd (tourlaw2_RayCasts.c5 k a2 a3 y10) fun o39 =>
    bnd (tourlaw2_RayCasts.c6 k o39 y10) fun o42 =>
    bif' (ine o42 0)
    (bnd (tourlaw2_RayCasts.c7 k o42 y6) fun o47 =>
     some o47)
    (bnd (tourref2_First k a0 (fun x : ((List V22) × Unit) => tourlaw2_RayCasts_1 k (x.1) a2 a3)) fun y49 =>
     bif' (ieq y6.1 y49.1)
     (bif' (ieq y6.2.1 y49.2.1)
      (some (ieq y6.2.2 y49.2.2))
      (some false))
     (some false))))
  (some false)
noncomputable def tourlaw2_RayCasts.sp (k : Nat) : Go.Sx.Spec := ⟨(.pair (.slice T25) (.pair T24 T52)), (.one (.dp T4)), fun x => tourlaw2_RayCasts k x.1 x.2.1 x.2.2.1 x.2.2.2.1, false⟩
noncomputable def tourlaw2_RayCasts.cx (k : Nat) : Go.Sx.Ctx := ⟨tys, [(47, tourlaw2_rayBegun.sp k), (48, ray_Line.sp k), (49, ray_Cast.sp k), (50, tourref2_Poly.sp k), (51, tourref2_Bodies.sp k), (52, tourlaw2_near1000.sp k), (53, tourref2_Line.sp k), (54, tourref2_First.sp k), (55, tourlaw2_RayCasts_1.sp k)], eqs, 118, 0, [], false⟩
theorem tourlaw2_RayCasts.cok (k : Nat) : CtxOk PR (tourlaw2_RayCasts.cx k) := ctx_ok tysOk eqsOk (FnsOk.cons (tourlaw2_rayBegun.ok k) (FnsOk.cons (ray_Line.ok k) (FnsOk.cons (ray_Cast.ok k) (FnsOk.cons (tourref2_Poly.ok k) (FnsOk.cons (tourref2_Bodies.ok k) (FnsOk.cons (tourlaw2_near1000.ok k) (FnsOk.cons (tourref2_Line.ok k) (FnsOk.cons (tourref2_First.ok k) (FnsOk.cons (tourlaw2_RayCasts_1.ok k) FnsOk.nil))))))))) HsOk.nil
noncomputable def tourlaw2_RayCasts.c1p (a0 : (List V25)) (a1 : (List V22)) (a2 : V22) (a3 : V22) (y4 : (Int × Int)) (y6 : (Int × (Int × Int))) (y8 : Int) (y10 : Int) : SL := ⟨[(0, (.val (.slice T25) a0)), (1, (.val T24 a1)), (6, (.val .ptr ⟨0, 0, (0 : Int), 0, 0⟩)), (7, (.val .ptr ⟨1, 0, (0 : Int), 0, 0⟩)), (9, (.val T2 y4.1)), (10, (.val T2 y4.2)), (11, (.val T2 y6.1)), (12, (.val T2 y6.2.1)), (13, (.val T2 y6.2.2)), (14, (.val T2 y8)), (15, (.val T2 y10))], [(0, .cells T22 a2), (1, .cells T22 a3)]⟩
noncomputable def tourlaw2_RayCasts.c1q (a0 : (List V25)) (a1 : (List V22)) (a2 : V22) (a3 : V22) (y4 : (Int × Int)) (y6 : (Int × (Int × Int))) (y8 : Int) (y10 : Int) (o : Bool) : SL := (fun v => ⟨[(0, (.val (.slice T25) a0)), (1, (.val T24 a1)), (6, (.val .ptr ⟨0, 0, (0 : Int), 0, 0⟩)), (7, (.val .ptr ⟨1, 0, (0 : Int), 0, 0⟩)), (9, (.val T2 y4.1)), (10, (.val T2 y4.2)), (11, (.val T2 y6.1)), (12, (.val T2 y6.2.1)), (13, (.val T2 y6.2.2)), (14, (.val T2 y8)), (15, (.val T2 y10)), (53, (.val T4 v))], [(0, .cells T22 a2), (1, .cells T22 a3)]⟩) o
noncomputable def tourlaw2_RayCasts.c1x (o : Bool) : Ex := (fun _ => .normal) o
noncomputable def tourlaw2_RayCasts.c1n (o : Bool) : Nat := (fun _ => 2) o
theorem tourlaw2_RayCasts.c1_ok (k : Nat) (a0 : (List V25)) (a1 : (List V22)) (a2 : V22) (a3 : V22) (y4 : (Int × Int)) (y6 : (Int × (Int × Int))) (y8 : Int) (y10 : Int) : Owp (tourlaw2_RayCasts.c1 k a2 a3 y8) fun o => Triple PR (tourlaw2_RayCasts.cx k) (sub tourlaw2_RayCasts.code [1, 1, 1, 1, 1, 0, 0]) 2 (tourlaw2_RayCasts.c1p a0 a1 a2 a3 y4 y6 y8 y10) (tourlaw2_RayCasts.c1x o) (tourlaw2_RayCasts.c1n o) (tourlaw2_RayCasts.c1q a0 a1 a2 a3 y4 y6 y8 y10 o) := by
  unfold tourlaw2_RayCasts.c1; exact
   Owp.bif (fun e12 =>
   Owp.bnd fun y13 e14 =>
    Owp.bif (fun e15 =>
    Owp.bnd fun y16 e17 =>
     Owp.some (triple_way (tourlaw2_RayCasts.cok k) hmix [.dec true, .dec true, .res (.one (.dp T4)) y13, .dec true, .dec true, .dec false, .dec false, .res (.one (.dp T4)) y16, .dec false, .dec true, .dec false, .dec true] [] [(0, 0), (1, 1)] (via (finP (And.intro (And.intro (And.intro (And.intro (And.intro (And.intro (And.intro (And.intro (And.intro trivial e12) (And.intro e12 e14)) e12) e12) (congrArg not e15)) (And.intro (congrArg not e15) e17)) (congrArg not e15)) (And.intro e12 (congrArg not e15))) e12) .normal [(0, 0), (1, 1)] (tourlaw2_RayCasts.c1q a0 a1 a2 a3 y4 y6 y8 y10 (!y16))) (by kernel_rfl)))) (fun e15 =>
    Owp.some (triple_way (tourlaw2_RayCasts.cok k) hmix [.dec true, .dec true, .res (.one (.dp T4)) y13, .dec true, .dec true, .dec true, .dec true, .dec true, .dec true, .dec true, .dec true, .dec true] [] [(0, 0), (1, 1)] (via (finP (And.intro (And.intro (And.intro (And.intro (And.intro (And.intro (And.intro (And.intro (And.intro trivial e12) (And.intro e12 e14)) e12) e12) (congrArg not e15)) (congrArg not e15)) (congrArg not e15)) (And.intro e12 (congrArg not e15))) e12) .normal [(0, 0), (1, 1)] (tourlaw2_RayCasts.c1q a0 a1 a2 a3 y4 y6 y8 y10 true)) (by kernel_rfl))))) (fun e12 =>
   Owp.some (triple_way (tourlaw2_RayCasts.cok k) hmix [.dec false, .dec false, .dec true, .dec false, .dec false, .dec true, .dec true, .dec true, .dec true, .dec false, .dec true, .dec false] [] [(0, 0), (1, 1)] (via (finP (And.intro (And.intro (And.intro (And.intro (And.intro (And.intro trivial e12) e12) e12) e12) e12) e12) .normal [(0, 0), (1, 1)] (tourlaw2_RayCasts.c1q a0 a1 a2 a3 y4 y6 y8 y10 false)) (by kernel_rfl))))
noncomputable def tourlaw2_RayCasts.c2p (a0 : (List V25)) (a1 : (List V22)) (a2 : V22) (a3 : V22) (o18 : Bool) (y4 : (Int × Int)) (y6 : (Int × (Int × Int))) (y8 : Int) (y10 : Int) : SL := ⟨[(0, (.val (.slice T25) a0)), (1, (.val T24 a1)), (6, (.val .ptr ⟨0, 0, (0 : Int), 0, 0⟩)), (7, (.val .ptr ⟨1, 0, (0 : Int), 0, 0⟩)), (9, (.val T2 y4.1)), (10, (.val T2 y4.2)), (11, (.val T2 y6.1)), (12, (.val T2 y6.2.1)), (13, (.val T2 y6.2.2)), (14, (.val T2 y8)), (15, (.val T2 y10)), (53, (.val T4 o18))], [(0, .cells T22 a2), (1, .cells T22 a3)]⟩
noncomputable def tourlaw2_RayCasts.c2q (a0 : (List V25)) (a1 : (List V22)) (a2 : V22) (a3 : V22) (y4 : (Int × Int)) (y6 : (Int × (Int × Int))) (y10 : Int) (o : Int) : SL := (fun v => ⟨[(0, (.val (.slice T25) a0)), (1, (.val T24 a1)), (6, (.val .ptr ⟨0, 0, (0 : Int), 0, 0⟩)), (7, (.val .ptr ⟨1, 0, (0 : Int), 0, 0⟩)), (9, (.val T2 y4.1)), (10, (.val T2 y4.2)), (11, (.val T2 y6.1)), (12, (.val T2 y6.2.1)), (13, (.val T2 y6.2.2)), (14, (.val T2 v)), (15, (.val T2 y10))], [(0, .cells T22 a2), (1, .cells T22 a3)]⟩) o
noncomputable def tourlaw2_RayCasts.c2x (o : Int) : Ex := (fun _ => .normal) o
noncomputable def tourlaw2_RayCasts.c2n (o : Int) : Nat := (fun _ => 2) o
theorem tourlaw2_RayCasts.c2_ok (k : Nat) (a0 : (List V25)) (a1 : (List V22)) (a2 : V22) (a3 : V22) (o18 : Bool) (y4 : (Int × Int)) (y6 : (Int × (Int × Int))) (y8 : Int) (y10 : Int) : Owp (tourlaw2_RayCasts.c2 k o18 y8) fun o => Triple PR (tourlaw2_RayCasts.cx k) (sub tourlaw2_RayCasts.code [1, 1, 1, 1, 1, 0, 1]) 2 (tourlaw2_RayCasts.c2p a0 a1 a2 a3 o18 y4 y6 y8 y10) (tourlaw2_RayCasts.c2x o) (tourlaw2_RayCasts.c2n o) (tourlaw2_RayCasts.c2q a0 a1 a2 a3 y4 y6 y10 o) := by
  unfold tourlaw2_RayCasts.c2; exact
   Owp.bif (fun e20 =>
   Owp.some (triple_way (tourlaw2_RayCasts.cok k) hmix [.dec true] [] [(0, 0), (1, 1)] (via (finP (And.intro trivial e20) .normal [(0, 0), (1, 1)] (tourlaw2_RayCasts.c2q a0 a1 a2 a3 y4 y6 y10 (1 : Int))) (by kernel_rfl)))) (fun e20 =>
   Owp.some (triple_way (tourlaw2_RayCasts.cok k) hmix [.dec false] [] [(0, 0), (1, 1)] (via (finP (And.intro trivial e20) .normal [(0, 0), (1, 1)] (tourlaw2_RayCasts.c2q a0 a1 a2 a3 y4 y6 y10 y8)) (by kernel_rfl))))
noncomputable def tourlaw2_RayCasts.c3p (a0 : (List V25)) (a1 : (List V22)) (a2 : V22) (a3 : V22) (o21 : Int) (y4 : (Int × Int)) (y6 : (Int × (Int × Int))) (y10 : Int) : SL := ⟨[(0, (.val (.slice T25) a0)), (1, (.val T24 a1)), (6, (.val .ptr ⟨0, 0, (0 : Int), 0, 0⟩)), (7, (.val .ptr ⟨1, 0, (0 : Int), 0, 0⟩)), (9, (.val T2 y4.1)), (10, (.val T2 y4.2)), (11, (.val T2 y6.1)), (12, (.val T2 y6.2.1)), (13, (.val T2 y6.2.2)), (14, (.val T2 o21)), (15, (.val T2 y10)), (16, (.val T2 (0 : Int))), (55, (.val T4 (ieq o21 (0 : Int))))], [(0, .cells T22 a2), (1, .cells T22 a3)]⟩
noncomputable def tourlaw2_RayCasts.c3q (a0 : (List V25)) (a2 : V22) (a3 : V22) (y4 : (Int × Int)) (y6 : (Int × (Int × Int))) (y10 : Int) (o : (Int × Int)) : SL := (fun v => ⟨[(0, (.val (.slice T25) a0)), (6, (.val .ptr ⟨0, 0, (0 : Int), 0, 0⟩)), (7, (.val .ptr ⟨1, 0, (0 : Int), 0, 0⟩)), (9, (.val T2 y4.1)), (10, (.val T2 y4.2)), (11, (.val T2 y6.1)), (12, (.val T2 y6.2.1)), (13, (.val T2 y6.2.2)), (14, (.val T2 v.1)), (15, (.val T2 y10)), (16, (.val T2 v.2))], [(0, .cells T22 a2), (1, .cells T22 a3)]⟩) o
noncomputable def tourlaw2_RayCasts.c3x (o : (Int × Int)) : Ex := (fun _ => .normal) o
noncomputable def tourlaw2_RayCasts.c3n (o : (Int × Int)) : Nat := (fun _ => 2) o
theorem tourlaw2_RayCasts.c3_ok (k : Nat) (a0 : (List V25)) (a1 : (List V22)) (a2 : V22) (a3 : V22) (o21 : Int) (y4 : (Int × Int)) (y6 : (Int × (Int × Int))) (y10 : Int) : Owp (tourlaw2_RayCasts.c3 k a1 a2 a3 o21) fun o => Triple PR (tourlaw2_RayCasts.cx k) (sub tourlaw2_RayCasts.code [1, 1, 1, 1, 1, 1, 1, 0, 1]) 2 (tourlaw2_RayCasts.c3p a0 a1 a2 a3 o21 y4 y6 y10) (tourlaw2_RayCasts.c3x o) (tourlaw2_RayCasts.c3n o) (tourlaw2_RayCasts.c3q a0 a2 a3 y4 y6 y10 o) := by
  unfold tourlaw2_RayCasts.c3; exact
   Owp.bif (fun e23 =>
   Owp.bnd fun y24 e25 =>
    Owp.bif (fun e26 =>
    Owp.some (triple_way (tourlaw2_RayCasts.cok k) hmix [.dec true, .res (.more (.dp T2) (.one (.dp T4))) y24, .dec false] [] [(0, 0), (1, 1)] (via (finP (And.intro (And.intro (And.intro trivial e23) e25) (congrArg not e26)) .normal [(0, 0), (1, 1)] (tourlaw2_RayCasts.c3q a0 a2 a3 y4 y6 y10 (o21, y24.1))) (by kernel_rfl)))) (fun e26 =>
    Owp.some (triple_way (tourlaw2_RayCasts.cok k) hmix [.dec true, .res (.more (.dp T2) (.one (.dp T4))) y24, .dec true] [] [(0, 0), (1, 1)] (via (finP (And.intro (And.intro (And.intro trivial e23) e25) (congrArg not e26)) .normal [(0, 0), (1, 1)] (tourlaw2_RayCasts.c3q a0 a2 a3 y4 y6 y10 ((4 : Int), (0 : Int)))) (by kernel_rfl))))) (fun e23 =>
   Owp.some (triple_way (tourlaw2_RayCasts.cok k) hmix [.dec false] [] [(0, 0), (1, 1)] (via (finP (And.intro trivial e23) .normal [(0, 0), (1, 1)] (tourlaw2_RayCasts.c3q a0 a2 a3 y4 y6 y10 (o21, (0 : Int)))) (by kernel_rfl))))
noncomputable def tourlaw2_RayCasts.c4p (a0 : (List V25)) (a2 : V22) (a3 : V22) (o27 : (Int × Int)) (y4 : (Int × Int)) (y6 : (Int × (Int × Int))) (y10 : Int) : SL := ⟨[(0, (.val (.slice T25) a0)), (6, (.val .ptr ⟨0, 0, (0 : Int), 0, 0⟩)), (7, (.val .ptr ⟨1, 0, (0 : Int), 0, 0⟩)), (9, (.val T2 y4.1)), (10, (.val T2 y4.2)), (11, (.val T2 y6.1)), (12, (.val T2 y6.2.1)), (13, (.val T2 y6.2.2)), (14, (.val T2 o27.1)), (15, (.val T2 y10)), (16, (.val T2 o27.2))], [(0, .cells T22 a2), (1, .cells T22 a3)]⟩
noncomputable def tourlaw2_RayCasts.c4q (a0 : (List V25)) (a2 : V22) (a3 : V22) (y6 : (Int × (Int × Int))) (y10 : Int) (o : Bool) : SL := (fun v => ⟨[(0, (.val (.slice T25) a0)), (6, (.val .ptr ⟨0, 0, (0 : Int), 0, 0⟩)), (7, (.val .ptr ⟨1, 0, (0 : Int), 0, 0⟩)), (11, (.val T2 y6.1)), (12, (.val T2 y6.2.1)), (13, (.val T2 y6.2.2)), (15, (.val T2 y10)), (72, (.val T4 v))], [(0, .cells T22 a2), (1, .cells T22 a3)]⟩) o
noncomputable def tourlaw2_RayCasts.c4x (o : Bool) : Ex := (fun _ => .normal) o
noncomputable def tourlaw2_RayCasts.c4n (o : Bool) : Nat := (fun _ => 2) o
theorem tourlaw2_RayCasts.c4_ok (k : Nat) (a0 : (List V25)) (a2 : V22) (a3 : V22) (o27 : (Int × Int)) (y4 : (Int × Int)) (y6 : (Int × (Int × Int))) (y10 : Int) : Owp (tourlaw2_RayCasts.c4 k o27 y4) fun o => Triple PR (tourlaw2_RayCasts.cx k) (sub tourlaw2_RayCasts.code [1, 1, 1, 1, 1, 1, 1, 1, 0, 0]) 2 (tourlaw2_RayCasts.c4p a0 a2 a3 o27 y4 y6 y10) (tourlaw2_RayCasts.c4x o) (tourlaw2_RayCasts.c4n o) (tourlaw2_RayCasts.c4q a0 a2 a3 y6 y10 o) := by
  unfold tourlaw2_RayCasts.c4; exact
   Owp.bif (fun e29 =>
   Owp.some (triple_way (tourlaw2_RayCasts.cok k) hmix [.dec true, .dec true, .dec true, .dec true] [] [(0, 0), (1, 1)] (via (finP (And.intro (And.intro (And.intro (And.intro trivial e29) e29) e29) e29) .normal [(0, 0), (1, 1)] (tourlaw2_RayCasts.c4q a0 a2 a3 y6 y10 true)) (by kernel_rfl)))) (fun e29 =>
   Owp.some (triple_way (tourlaw2_RayCasts.cok k) hmix [.dec false, .dec false, .dec false, .dec false] [] [(0, 0), (1, 1)] (via (finP (And.intro (And.intro (And.intro (And.intro trivial e29) e29) e29) e29) .normal [(0, 0), (1, 1)] (tourlaw2_RayCasts.c4q a0 a2 a3 y6 y10 (ine y4.1 o27.2))) (by kernel_rfl))))
noncomputable def tourlaw2_RayCasts.c5p (a0 : (List V25)) (a2 : V22) (a3 : V22) (y6 : (Int × (Int × Int))) (y10 : Int) : SL := ⟨[(0, (.val (.slice T25) a0)), (6, (.val .ptr ⟨0, 0, (0 : Int), 0, 0⟩)), (7, (.val .ptr ⟨1, 0, (0 : Int), 0, 0⟩)), (11, (.val T2 y6.1)), (12, (.val T2 y6.2.1)), (13, (.val T2 y6.2.2)), (15, (.val T2 y10))], [(0, .cells T22 a2), (1, .cells T22 a3)]⟩
noncomputable def tourlaw2_RayCasts.c5q (a0 : (List V25)) (a2 : V22) (a3 : V22) (y6 : (Int × (Int × Int))) (y10 : Int) (o : Bool) : SL := (fun v => ⟨[(0, (.val (.slice T25) a0)), (6, (.val .ptr ⟨0, 0, (0 : Int), 0, 0⟩)), (7, (.val .ptr ⟨1, 0, (0 : Int), 0, 0⟩)), (11, (.val T2 y6.1)), (12, (.val T2 y6.2.1)), (13, (.val T2 y6.2.2)), (15, (.val T2 y10)), (84, (.val T4 v))], [(0, .cells T22 a2), (1, .cells T22 a3)]⟩) o
noncomputable def tourlaw2_RayCasts.c5x (o : Bool) : Ex := (fun _ => .normal) o
noncomputable def tourlaw2_RayCasts.c5n (o : Bool) : Nat := (fun _ => 2) o
theorem tourlaw2_RayCasts.c5_ok (k : Nat) (a0 : (List V25)) (a2 : V22) (a3 : V22) (y6 : (Int × (Int × Int))) (y10 : Int) : Owp (tourlaw2_RayCasts.c5 k a2 a3 y10) fun o => Triple PR (tourlaw2_RayCasts.cx k) (sub tourlaw2_RayCasts.code [1, 1, 1, 1, 1, 1, 1, 1, 1, 0, 0]) 2 (tourlaw2_RayCasts.c5p a0 a2 a3 y6 y10) (tourlaw2_RayCasts.c5x o) (tourlaw2_RayCasts.c5n o) (tourlaw2_RayCasts.c5q a0 a2 a3 y6 y10 o) := by
  unfold tourlaw2_RayCasts.c5; exact
   Owp.bif (fun e33 =>
   Owp.bnd fun y34 e35 =>
    Owp.bif (fun e36 =>
    Owp.bnd fun y37 e38 =>
     Owp.some (triple_way (tourlaw2_RayCasts.cok k) hmix [.dec true, .dec true, .res (.one (.dp T4)) y34, .dec true, .dec true, .dec false, .dec false, .res (.one (.dp T4)) y37, .dec false, .dec true, .dec false, .dec true] [] [(0, 0), (1, 1)] (via (finP (And.intro (And.intro (And.intro (And.intro (And.intro (And.intro (And.intro (And.intro (And.intro trivial e33) (And.intro e33 e35)) e33) e33) (congrArg not e36)) (And.intro (congrArg not e36) e38)) (congrArg not e36)) (And.intro e33 (congrArg not e36))) e33) .normal [(0, 0), (1, 1)] (tourlaw2_RayCasts.c5q a0 a2 a3 y6 y10 (!y37))) (by kernel_rfl)))) (fun e36 =>
    Owp.some (triple_way (tourlaw2_RayCasts.cok k) hmix [.dec true, .dec true, .res (.one (.dp T4)) y34, .dec true, .dec true, .dec true, .dec true, .dec true, .dec true, .dec true, .dec true, .dec true] [] [(0, 0), (1, 1)] (via (finP (And.intro (And.intro (And.intro (And.intro (And.intro (And.intro (And.intro (And.intro (And.intro trivial e33) (And.intro e33 e35)) e33) e33) (congrArg not e36)) (congrArg not e36)) (congrArg not e36)) (And.intro e33 (congrArg not e36))) e33) .normal [(0, 0), (1, 1)] (tourlaw2_RayCasts.c5q a0 a2 a3 y6 y10 true)) (by kernel_rfl))))) (fun e33 =>
   Owp.some (triple_way (tourlaw2_RayCasts.cok k) hmix [.dec false, .dec false, .dec true, .dec false, .dec false, .dec true, .dec true, .dec true, .dec true, .dec false, .dec true, .dec false] [] [(0, 0), (1, 1)] (via (finP (And.intro (And.intro (And.intro (And.intro (And.intro (And.intro trivial e33) e33) e33) e33) e33) e33) .normal [(0, 0), (1, 1)] (tourlaw2_RayCasts.c5q a0 a2 a3 y6 y10 false)) (by kernel_rfl))))
noncomputable def tourlaw2_RayCasts.c6p (a0 : (List V25)) (a2 : V22) (a3 : V22) (o39 : Bool) (y6 : (Int × (Int × Int))) (y10 : Int) : SL := ⟨[(0, (.val (.slice T25) a0)), (6, (.val .ptr ⟨0, 0, (0 : Int), 0, 0⟩)), (7, (.val .ptr ⟨1, 0, (0 : Int), 0, 0⟩)), (11, (.val T2 y6.1)), (12, (.val T2 y6.2.1)), (13, (.val T2 y6.2.2)), (15, (.val T2 y10)), (84, (.val T4 o39))], [(0, .cells T22 a2), (1, .cells T22 a3)]⟩
noncomputable def tourlaw2_RayCasts.c6q (a0 : (List V25)) (a2 : V22) (a3 : V22) (y6 : (Int × (Int × Int))) (o : Int) : SL := (fun v => ⟨[(0, (.val (.slice T25) a0)), (6, (.val .ptr ⟨0, 0, (0 : Int), 0, 0⟩)), (7, (.val .ptr ⟨1, 0, (0 : Int), 0, 0⟩)), (11, (.val T2 y6.1)), (12, (.val T2 y6.2.1)), (13, (.val T2 y6.2.2)), (15, (.val T2 v))], [(0, .cells T22 a2), (1, .cells T22 a3)]⟩) o
noncomputable def tourlaw2_RayCasts.c6x (o : Int) : Ex := (fun _ => .normal) o
noncomputable def tourlaw2_RayCasts.c6n (o : Int) : Nat := (fun _ => 2) o
theorem tourlaw2_RayCasts.c6_ok (k : Nat) (a0 : (List V25)) (a2 : V22) (a3 : V22) (o39 : Bool) (y6 : (Int × (Int × Int))) (y10 : Int) : Owp (tourlaw2_RayCasts.c6 k o39 y10) fun o => Triple PR (tourlaw2_RayCasts.cx k) (sub tourlaw2_RayCasts.code [1, 1, 1, 1, 1, 1, 1, 1, 1, 0, 1]) 2 (tourlaw2_RayCasts.c6p a0 a2 a3 o39 y6 y10) (tourlaw2_RayCasts.c6x o) (tourlaw2_RayCasts.c6n o) (tourlaw2_RayCasts.c6q a0 a2 a3 y6 o) := by
  unfold tourlaw2_RayCasts.c6; exact
   Owp.bif (fun e41 =>
   Owp.some (triple_way (tourlaw2_RayCasts.cok k) hmix [.dec true] [] [(0, 0), (1, 1)] (via (finP (And.intro trivial e41) .normal [(0, 0), (1, 1)] (tourlaw2_RayCasts.c6q a0 a2 a3 y6 (1 : Int))) (by kernel_rfl)))) (fun e41 =>
   Owp.some (triple_way (tourlaw2_RayCasts.cok k) hmix [.dec false] [] [(0, 0), (1, 1)] (via (finP (And.intro trivial e41) .normal [(0, 0), (1, 1)] (tourlaw2_RayCasts.c6q a0 a2 a3 y6 y10)) (by kernel_rfl))))
noncomputable def tourlaw2_RayCasts.c7p (o42 : Int) (y6 : (Int × (Int × Int))) : SL := ⟨[(11, (.val T2 y6.1)), (12, (.val T2 y6.2.1)), (13, (.val T2 y6.2.2)), (15, (.val T2 o42))], []⟩
noncomputable def tourlaw2_RayCasts.c7q (o : Bool) : SL := (fun v => ⟨[(8, (.val T4 v))], []⟩) o
noncomputable def tourlaw2_RayCasts.c7x (o : Bool) : Ex := (fun _ => .normal) o
noncomputable def tourlaw2_RayCasts.c7n (o : Bool) : Nat := (fun _ => 0) o
theorem tourlaw2_RayCasts.c7_ok (k : Nat) (o42 : Int) (y6 : (Int × (Int × Int))) : Owp (tourlaw2_RayCasts.c7 k o42 y6) fun o => Triple PR (tourlaw2_RayCasts.cx k) (sub tourlaw2_RayCasts.code [1, 1, 1, 1, 1, 1, 1, 1, 1, 1, 0, 1, 0, 0]) 0 (tourlaw2_RayCasts.c7p o42 y6) (tourlaw2_RayCasts.c7x o) (tourlaw2_RayCasts.c7n o) (tourlaw2_RayCasts.c7q o) := by
  unfold tourlaw2_RayCasts.c7; exact
   Owp.bif (fun e45 =>
   Owp.bif (fun e46 =>
    Owp.some (triple_way (tourlaw2_RayCasts.cok k) hmix [.dec true, .dec true, .dec true, .dec true, .dec true, .dec true] [] [] (via (finP (And.intro (And.intro (And.intro (And.intro (And.intro (And.intro trivial e45) e45) e45) e46) e46) e46) .normal [] (tourlaw2_RayCasts.c7q (ieq y6.2.1 (0 : Int)))) (by kernel_rfl)))) (fun e46 =>
    Owp.some (triple_way (tourlaw2_RayCasts.cok k) hmix [.dec true, .dec true, .dec true, .dec false, .dec false, .dec false] [] [] (via (finP (And.intro (And.intro (And.intro (And.intro (And.intro (And.intro trivial e45) e45) e45) e46) e46) e46) .normal [] (tourlaw2_RayCasts.c7q false)) (by kernel_rfl))))) (fun e45 =>
   Owp.some (triple_way (tourlaw2_RayCasts.cok k) hmix [.dec false, .dec false, .dec false, .dec false, .dec false, .dec false] [] [] (via (finP (And.intro (And.intro (And.intro (And.intro (And.intro (And.intro trivial e45) e45) e45) ff) ff) ff) .normal [] (tourlaw2_RayCasts.c7q false)) (by kernel_rfl))))
theorem tourlaw2_RayCasts.way (k : Nat) (a0 : (List V25)) (a1 : (List V22)) (a2 : V22) (a3 : V22) : Owp (tourlaw2_RayCasts k a0 a1 a2 a3) fun y => ∃ answers cmds, exec PR (tourlaw2_RayCasts.cx k) tourlaw2_RayCasts.code 0 (entry (.pair (.slice T25) (.pair T24 T52)) (a0, a1, a2, a3, ())).st answers (Ret (tourlaw2_RayCasts.cx k) Try.f7 cmds (.one (.dp T4)) y) := by
  unfold tourlaw2_RayCasts; exact
   Owp.bnd fun y1 e2 =>
   Owp.bif (fun e3 =>
   Owp.bnd fun y4 e5 =>
    Owp.bnd fun y6 e7 =>
    Owp.bnd fun y8 e9 =>
    Owp.bnd fun y10 e11 =>
    Owp.bnd fun o18 e19 =>
    Owp.bnd fun o21 e22 =>
    Owp.bnd fun o27 e28 =>
    Owp.bnd fun o30 e31 =>
    Owp.bif (fun e32 =>
    Owp.some (⟨[.res (.one (.dp T4)) y1, .dec false, .res (.more (.dp T2) (.one (.dp T2))) y4, .res (.more (.dp T2) (.more (.dp T2) (.one (.dp T2)))) y6, .res (.one (.dp T2)) y8, .res (.one (.dp T2)) y10, .cutR 6 ⟨[], [(0, 0), (1, 1)], (tourlaw2_RayCasts.c1p a0 a1 a2 a3 y4 y6 y8 y10), 2, .normal, (tourlaw2_RayCasts.c1q a0 a1 a2 a3 y4 y6 y8 y10 o18), 2⟩, .cut ⟨[], [(0, 0), (1, 1)], (tourlaw2_RayCasts.c2p a0 a1 a2 a3 o18 y4 y6 y8 y10), 2, .normal, (tourlaw2_RayCasts.c2q a0 a1 a2 a3 y4 y6 y10 o21), 2⟩, .cut ⟨[], [(0, 0), (1, 1)], (tourlaw2_RayCasts.c3p a0 a1 a2 a3 o21 y4 y6 y10), 2, .normal, (tourlaw2_RayCasts.c3q a0 a2 a3 y4 y6 y10 o27), 2⟩, .cutR 14 ⟨[], [(0, 0), (1, 1)], (tourlaw2_RayCasts.c4p a0 a2 a3 o27 y4 y6 y10), 2, .normal, (tourlaw2_RayCasts.c4q a0 a2 a3 y6 y10 o30), 2⟩, .dec true], [], via (cutP (And.intro (And.intro (And.intro (And.intro (And.intro (And.intro trivial e2) (congrArg not e3)) e5) e7) e9) e11) [(0, 0), (1, 1)] (tourlaw2_RayCasts.c1p a0 a1 a2 a3 y4 y6 y8 y10) (((tourlaw2_RayCasts.c1_ok k a0 a1 a2 a3 y4 y6 y8 y10).ap e19)) (cutP trivial [(0, 0), (1, 1)] (tourlaw2_RayCasts.c2p a0 a1 a2 a3 o18 y4 y6 y8 y10) (((tourlaw2_RayCasts.c2_ok k a0 a1 a2 a3 o18 y4 y6 y8 y10).ap e22)) (cutP trivial [(0, 0), (1, 1)] (tourlaw2_RayCasts.c3p a0 a1 a2 a3 o21 y4 y6 y10) (((tourlaw2_RayCasts.c3_ok k a0 a1 a2 a3 o21 y4 y6 y10).ap e28)) (cutP trivial [(0, 0), (1, 1)] (tourlaw2_RayCasts.c4p a0 a2 a3 o27 y4 y6 y10) (((tourlaw2_RayCasts.c4_ok k a0 a2 a3 o27 y4 y6 y10).ap e31)) (retP (And.intro trivial e32) (.one (.dp T4)) (false : Bool)))))) (by kernel_rfl)⟩)) (fun e32 =>
    Owp.bnd fun o39 e40 =>
     Owp.bnd fun o42 e43 =>
     Owp.bif (fun e44 =>
     Owp.bnd fun o47 e48 =>
      Owp.some (⟨[.res (.one (.dp T4)) y1, .dec false, .res (.more (.dp T2) (.one (.dp T2))) y4, .res (.more (.dp T2) (.more (.dp T2) (.one (.dp T2)))) y6, .res (.one (.dp T2)) y8, .res (.one (.dp T2)) y10, .cutR 6 ⟨[], [(0, 0), (1, 1)], (tourlaw2_RayCasts.c1p a0 a1 a2 a3 y4 y6 y8 y10), 2, .normal, (tourlaw2_RayCasts.c1q a0 a1 a2 a3 y4 y6 y8 y10 o18), 2⟩, .cut ⟨[], [(0, 0), (1, 1)], (tourlaw2_RayCasts.c2p a0 a1 a2 a3 o18 y4 y6 y8 y10), 2, .normal, (tourlaw2_RayCasts.c2q a0 a1 a2 a3 y4 y6 y10 o21), 2⟩, .cut ⟨[], [(0, 0), (1, 1)], (tourlaw2_RayCasts.c3p a0 a1 a2 a3 o21 y4 y6 y10), 2, .normal, (tourlaw2_RayCasts.c3q a0 a2 a3 y4 y6 y10 o27), 2⟩, .cutR 14 ⟨[], [(0, 0), (1, 1)], (tourlaw2_RayCasts.c4p a0 a2 a3 o27 y4 y6 y10), 2, .normal, (tourlaw2_RayCasts.c4q a0 a2 a3 y6 y10 o30), 2⟩, .dec false, .cutR 16 ⟨[], [(0, 0), (1, 1)], (tourlaw2_RayCasts.c5p a0 a2 a3 y6 y10), 2, .normal, (tourlaw2_RayCasts.c5q a0 a2 a3 y6 y10 o39), 2⟩, .cut ⟨[], [(0, 0), (1, 1)], (tourlaw2_RayCasts.c6p a0 a2 a3 o39 y6 y10), 2, .normal, (tourlaw2_RayCasts.c6q a0 a2 a3 y6 o42), 2⟩, .dec true, .cutR 19 ⟨[], [], (tourlaw2_RayCasts.c7p o42 y6), 0, .normal, (tourlaw2_RayCasts.c7q o47), 0⟩], [], via (cutP (And.intro (And.intro (And.intro (And.intro (And.intro (And.intro trivial e2) (congrArg not e3)) e5) e7) e9) e11) [(0, 0), (1, 1)] (tourlaw2_RayCasts.c1p a0 a1 a2 a3 y4 y6 y8 y10) (((tourlaw2_RayCasts.c1_ok k a0 a1 a2 a3 y4 y6 y8 y10).ap e19)) (cutP trivial [(0, 0), (1, 1)] (tourlaw2_RayCasts.c2p a0 a1 a2 a3 o18 y4 y6 y8 y10) (((tourlaw2_RayCasts.c2_ok k a0 a1 a2 a3 o18 y4 y6 y8 y10).ap e22)) (cutP trivial [(0, 0), (1, 1)] (tourlaw2_RayCasts.c3p a0 a1 a2 a3 o21 y4 y6 y10) (((tourlaw2_RayCasts.c3_ok k a0 a1 a2 a3 o21 y4 y6 y10).ap e28)) (cutP trivial [(0, 0), (1, 1)] (tourlaw2_RayCasts.c4p a0 a2 a3 o27 y4 y6 y10) (((tourlaw2_RayCasts.c4_ok k a0 a2 a3 o27 y4 y6 y10).ap e31)) (cutP (And.intro trivial e32) [(0, 0), (1, 1)] (tourlaw2_RayCasts.c5p a0 a2 a3 y6 y10) (((tourlaw2_RayCasts.c5_ok k a0 a2 a3 y6 y10).ap e40)) (cutP trivial [(0, 0), (1, 1)] (tourlaw2_RayCasts.c6p a0 a2 a3 o39 y6 y10) (((tourlaw2_RayCasts.c6_ok k a0 a2 a3 o39 y6 y10).ap e43)) (cutP (And.intro trivial e44) [] (tourlaw2_RayCasts.c7p o42 y6) (((tourlaw2_RayCasts.c7_ok k o42 y6).ap e48)) (retP trivial (.one (.dp T4)) (o47 : Bool))))))))) (by kernel_rfl)⟩)) (fun e44 =>
     Owp.bnd fun y49 e50 =>
      Owp.bif (fun e51 =>
      Owp.bif (fun e52 =>
       Owp.some (⟨[.res (.one (.dp T4)) y1, .dec false, .res (.more (.dp T2) (.one (.dp T2))) y4, .res (.more (.dp T2) (.more (.dp T2) (.one (.dp T2)))) y6, .res (.one (.dp T2)) y8, .res (.one (.dp T2)) y10, .cutR 6 ⟨[], [(0, 0), (1, 1)], (tourlaw2_RayCasts.c1p a0 a1 a2 a3 y4 y6 y8 y10), 2, .normal, (tourlaw2_RayCasts.c1q a0 a1 a2 a3 y4 y6 y8 y10 o18), 2⟩, .cut ⟨[], [(0, 0), (1, 1)], (tourlaw2_RayCasts.c2p a0 a1 a2 a3 o18 y4 y6 y8 y10), 2, .normal, (tourlaw2_RayCasts.c2q a0 a1 a2 a3 y4 y6 y10 o21), 2⟩, .cut ⟨[], [(0, 0), (1, 1)], (tourlaw2_RayCasts.c3p a0 a1 a2 a3 o21 y4 y6 y10), 2, .normal, (tourlaw2_RayCasts.c3q a0 a2 a3 y4 y6 y10 o27), 2⟩, .cutR 14 ⟨[], [(0, 0), (1, 1)], (tourlaw2_RayCasts.c4p a0 a2 a3 o27 y4 y6 y10), 2, .normal, (tourlaw2_RayCasts.c4q a0 a2 a3 y6 y10 o30), 2⟩, .dec false, .cutR 16 ⟨[], [(0, 0), (1, 1)], (tourlaw2_RayCasts.c5p a0 a2 a3 y6 y10), 2, .normal, (tourlaw2_RayCasts.c5q a0 a2 a3 y6 y10 o39), 2⟩, .cut ⟨[], [(0, 0), (1, 1)], (tourlaw2_RayCasts.c6p a0 a2 a3 o39 y6 y10), 2, .normal, (tourlaw2_RayCasts.c6q a0 a2 a3 y6 o42), 2⟩, .dec false, .res (.more (.dp T2) (.more (.dp T2) (.one (.dp T2)))) y49, .dec true, .dec true, .dec true, .dec true, .dec true, .dec true, .dec true, .dec true], [], via (cutP (And.intro (And.intro (And.intro (And.intro (And.intro (And.intro trivial e2) (congrArg not e3)) e5) e7) e9) e11) [(0, 0), (1, 1)] (tourlaw2_RayCasts.c1p a0 a1 a2 a3 y4 y6 y8 y10) (((tourlaw2_RayCasts.c1_ok k a0 a1 a2 a3 y4 y6 y8 y10).ap e19)) (cutP trivial [(0, 0), (1, 1)] (tourlaw2_RayCasts.c2p a0 a1 a2 a3 o18 y4 y6 y8 y10) (((tourlaw2_RayCasts.c2_ok k a0 a1 a2 a3 o18 y4 y6 y8 y10).ap e22)) (cutP trivial [(0, 0), (1, 1)] (tourlaw2_RayCasts.c3p a0 a1 a2 a3 o21 y4 y6 y10) (((tourlaw2_RayCasts.c3_ok k a0 a1 a2 a3 o21 y4 y6 y10).ap e28)) (cutP trivial [(0, 0), (1, 1)] (tourlaw2_RayCasts.c4p a0 a2 a3 o27 y4 y6 y10) (((tourlaw2_RayCasts.c4_ok k a0 a2 a3 o27 y4 y6 y10).ap e31)) (cutP (And.intro trivial e32) [(0, 0), (1, 1)] (tourlaw2_RayCasts.c5p a0 a2 a3 y6 y10) (((tourlaw2_RayCasts.c5_ok k a0 a2 a3 y6 y10).ap e40)) (cutP trivial [(0, 0), (1, 1)] (tourlaw2_RayCasts.c6p a0 a2 a3 o39 y6 y10) (((tourlaw2_RayCasts.c6_ok k a0 a2 a3 o39 y6 y10).ap e43)) (retP (And.intro (And.intro (And.intro (And.intro (And.intro (And.intro (And.intro (And.intro (And.intro (And.intro trivial e44) e50) e51) e51) e51) e51) e52) e52) e52) e52) (.one (.dp T4)) ((ieq y6.2.2 y49.2.2) : Bool)))))))) (by kernel_rfl)⟩)) (fun e52 =>
       Owp.some (⟨[.res (.one (.dp T4)) y1, .dec false, .res (.more (.dp T2) (.one (.dp T2))) y4, .res (.more (.dp T2) (.more (.dp T2) (.one (.dp T2)))) y6, .res (.one (.dp T2)) y8, .res (.one (.dp T2)) y10, .cutR 6 ⟨[], [(0, 0), (1, 1)], (tourlaw2_RayCasts.c1p a0 a1 a2 a3 y4 y6 y8 y10), 2, .normal, (tourlaw2_RayCasts.c1q a0 a1 a2 a3 y4 y6 y8 y10 o18), 2⟩, .cut ⟨[], [(0, 0), (1, 1)], (tourlaw2_RayCasts.c2p a0 a1 a2 a3 o18 y4 y6 y8 y10), 2, .normal, (tourlaw2_RayCasts.c2q a0 a1 a2 a3 y4 y6 y10 o21), 2⟩, .cut ⟨[], [(0, 0), (1, 1)], (tourlaw2_RayCasts.c3p a0 a1 a2 a3 o21 y4 y6 y10), 2, .normal, (tourlaw2_RayCasts.c3q a0 a2 a3 y4 y6 y10 o27), 2⟩, .cutR 14 ⟨[], [(0, 0), (1, 1)], (tourlaw2_RayCasts.c4p a0 a2 a3 o27 y4 y6 y10), 2, .normal, (tourlaw2_RayCasts.c4q a0 a2 a3 y6 y10 o30), 2⟩, .dec false, .cutR 16 ⟨[], [(0, 0), (1, 1)], (tourlaw2_RayCasts.c5p a0 a2 a3 y6 y10), 2, .normal, (tourlaw2_RayCasts.c5q a0 a2 a3 y6 y10 o39), 2⟩, .cut ⟨[], [(0, 0), (1, 1)], (tourlaw2_RayCasts.c6p a0 a2 a3 o39 y6 y10), 2, .normal, (tourlaw2_RayCasts.c6q a0 a2 a3 y6 o42), 2⟩, .dec false, .res (.more (.dp T2) (.more (.dp T2) (.one (.dp T2)))) y49, .dec true, .dec true, .dec true, .dec true, .dec false, .dec false, .dec false, .dec false], [], via (cutP (And.intro (And.intro (And.intro (And.intro (And.intro (And.intro trivial e2) (congrArg not e3)) e5) e7) e9) e11) [(0, 0), (1, 1)] (tourlaw2_RayCasts.c1p a0 a1 a2 a3 y4 y6 y8 y10) (((tourlaw2_RayCasts.c1_ok k a0 a1 a2 a3 y4 y6 y8 y10).ap e19)) (cutP trivial [(0, 0), (1, 1)] (tourlaw2_RayCasts.c2p a0 a1 a2 a3 o18 y4 y6 y8 y10) (((tourlaw2_RayCasts.c2_ok k a0 a1 a2 a3 o18 y4 y6 y8 y10).ap e22)) (cutP trivial [(0, 0), (1, 1)] (tourlaw2_RayCasts.c3p a0 a1 a2 a3 o21 y4 y6 y10) (((tourlaw2_RayCasts.c3_ok k a0 a1 a2 a3 o21 y4 y6 y10).ap e28)) (cutP trivial [(0, 0), (1, 1)] (tourlaw2_RayCasts.c4p a0 a2 a3 o27 y4 y6 y10) (((tourlaw2_RayCasts.c4_ok k a0 a2 a3 o27 y4 y6 y10).ap e31)) (cutP (And.intro trivial e32) [(0, 0), (1, 1)] (tourlaw2_RayCasts.c5p a0 a2 a3 y6 y10) (((tourlaw2_RayCasts.c5_ok k a0 a2 a3 y6 y10).ap e40)) (cutP trivial [(0, 0), (1, 1)] (tourlaw2_RayCasts.c6p a0 a2 a3 o39 y6 y10) (((tourlaw2_RayCasts.c6_ok k a0 a2 a3 o39 y6 y10).ap e43)) (retP (And.intro (And.intro (And.intro (And.intro (And.intro (And.intro (And.intro (And.intro (And.intro (And.intro trivial e44) e50) e51) e51) e51) e51) e52) e52) e52) e52) (.one (.dp T4)) (false : Bool)))))))) (by kernel_rfl)⟩))) (fun e51 =>
      Owp.some (⟨[.res (.one (.dp T4)) y1, .dec false, .res (.more (.dp T2) (.one (.dp T2))) y4, .res (.more (.dp T2) (.more (.dp T2) (.one (.dp T2)))) y6, .res (.one (.dp T2)) y8, .res (.one (.dp T2)) y10, .cutR 6 ⟨[], [(0, 0), (1, 1)], (tourlaw2_RayCasts.c1p a0 a1 a2 a3 y4 y6 y8 y10), 2, .normal, (tourlaw2_RayCasts.c1q a0 a1 a2 a3 y4 y6 y8 y10 o18), 2⟩, .cut ⟨[], [(0, 0), (1, 1)], (tourlaw2_RayCasts.c2p a0 a1 a2 a3 o18 y4 y6 y8 y10), 2, .normal, (tourlaw2_RayCasts.c2q a0 a1 a2 a3 y4 y6 y10 o21), 2⟩, .cut ⟨[], [(0, 0), (1, 1)], (tourlaw2_RayCasts.c3p a0 a1 a2 a3 o21 y4 y6 y10), 2, .normal, (tourlaw2_RayCasts.c3q a0 a2 a3 y4 y6 y10 o27), 2⟩, .cutR 14 ⟨[], [(0, 0), (1, 1)], (tourlaw2_RayCasts.c4p a0 a2 a3 o27 y4 y6 y10), 2, .normal, (tourlaw2_RayCasts.c4q a0 a2 a3 y6 y10 o30), 2⟩, .dec false, .cutR 16 ⟨[], [(0, 0), (1, 1)], (tourlaw2_RayCasts.c5p a0 a2 a3 y6 y10), 2, .normal, (tourlaw2_RayCasts.c5q a0 a2 a3 y6 y10 o39), 2⟩, .cut ⟨[], [(0, 0), (1, 1)], (tourlaw2_RayCasts.c6p a0 a2 a3 o39 y6 y10), 2, .normal, (tourlaw2_RayCasts.c6q a0 a2 a3 y6 o42), 2⟩, .dec false, .res (.more (.dp T2) (.more (.dp T2) (.one (.dp T2)))) y49, .dec false, .dec false, .dec false, .dec false, .dec false, .dec false, .dec false, .dec false], [], via (cutP (And.intro (And.intro (And.intro (And.intro (And.intro (And.intro trivial e2) (congrArg not e3)) e5) e7) e9) e11) [(0, 0), (1, 1)] (tourlaw2_RayCasts.c1p a0 a1 a2 a3 y4 y6 y8 y10) (((tourlaw2_RayCasts.c1_ok k a0 a1 a2 a3 y4 y6 y8 y10).ap e19)) (cutP trivial [(0, 0), (1, 1)] (tourlaw2_RayCasts.c2p a0 a1 a2 a3 o18 y4 y6 y8 y10) (((tourlaw2_RayCasts.c2_ok k a0 a1 a2 a3 o18 y4 y6 y8 y10).ap e22)) (cutP trivial [(0, 0), (1, 1)] (tourlaw2_RayCasts.c3p a0 a1 a2 a3 o21 y4 y6 y10) (((tourlaw2_RayCasts.c3_ok k a0 a1 a2 a3 o21 y4 y6 y10).ap e28)) (cutP trivial [(0, 0), (1, 1)] (tourlaw2_RayCasts.c4p a0 a2 a3 o27 y4 y6 y10) (((tourlaw2_RayCasts.c4_ok k a0 a2 a3 o27 y4 y6 y10).ap e31)) (cutP (And.intro trivial e32) [(0, 0), (1, 1)] (tourlaw2_RayCasts.c5p a0 a2 a3 y6 y10) (((tourlaw2_RayCasts.c5_ok k a0 a2 a3 y6 y10).ap e40)) (cutP trivial [(0, 0), (1, 1)] (tourlaw2_RayCasts.c6p a0 a2 a3 o39 y6 y10) (((tourlaw2_RayCasts.c6_ok k a0 a2 a3 o39 y6 y10).ap e43)) (retP (And.intro (And.intro (And.intro (And.intro (And.intro (And.intro (And.intro (And.intro (And.intro (And.intro trivial e44) e50) e51) e51) e51) e51) ff) ff) ff) ff) (.one (.dp T4)) (false : Bool)))))))) (by kernel_rfl)⟩))))) (fun e3 =>
   Owp.some (⟨[.res (.one (.dp T4)) y1, .dec true], [], via (retP (And.intro (And.intro trivial e2) (congrArg not e3)) (.one (.dp T4)) (false : Bool)) (by kernel_rfl)⟩))
theorem tourlaw2_RayCasts.ok (k : Nat) : FnOk PR 7 (tourlaw2_RayCasts.sp k) :=
  fn_ok (tourlaw2_RayCasts.cok k) hmix Try.func7 (code := tourlaw2_RayCasts.code) (by kernel_rfl) (by kernel_rfl) (by kernel_rfl) rfl rfl (by kernel_rfl) (by kernel_rfl) (by kernel_rfl) (fun x => Nat.le_of_ble_eq_true (by kernel_rfl)) fun x y hy => (tourlaw2_RayCasts.way k x.1 x.2.1 x.2.2.1 x.2.2.2.1).ap hy

end Go.Proofs.T1
