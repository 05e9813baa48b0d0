import Derived.Test.YtokhmieofiaidaaG2
namespace Go.Proofs.T1
open Go Go.Sx Go.Proofs
set_option maxRecDepth 100000
set_option linter.unusedVariables false
/-! (tourney/tourref2.Big).Floor -/
noncomputable def tourref2_Big_Floor.code : Code := Func.cd Try.f85
def tourref2_Big_Floor.c1 (k : Nat) (a0 : (List Int)) (y1 : Bool) : Option ((List Int)) :=
  bif' y1
  (bnd (tourref2_Big_Neg k a0) fun y4 =>
   bnd (tourref2_Of k 1) fun y6 =>
   bnd (tourref2_Big_Sub k y4 y6) fun y8 =>
   some y8)
  (some a0)
def tourref2_Big_Floor.c3 (k : Nat) (o10 : (List Int)) (v14 : Int) (y12 : (List Int)) (y18 : (List Int)) (y20 : (List Int)) (y24 : Int) : Option (((List Int) × (List Int))) :=
  bif' (ige y24 0)
  (bnd (tourref2_Big_Sub k (st y18 0 (ibits .or .u32 (el 0 y18 0) (ibits .and .u32 (ishr .u32 (el 0 o10 (iquo .i64 v14 16)) (irem v14 16)) 1))) y12) fun y27 =>
   bnd (tourref2_Of k 1) fun y29 =>
   bnd (tourref2_Big_Add k y20 y29) fun y31 =>
   some (y31, y27))
  (some (y20, (st y18 0 (ibits .or .u32 (el 0 y18 0) (ibits .and .u32 (ishr .u32 (el 0 o10 (iquo .i64 v14 16)) (irem v14 16)) 1)))))
def tourref2_Big_Floor.c2 (k : Nat) (o10 : (List Int)) (y12 : (List Int)) : Nat → Int → (List Int) → (List Int) → Option ((List Int))
  | 0, _, _, _ => none
  | n + 1, v14, v15, v16 =>
   bif' (ige v14 0)
   (bnd (tourref2_Big_twice k v16) fun y18 =>
    bnd (tourref2_Big_twice k v15) fun y20 =>
    req (inR (iquo .i64 v14 16) 8) <|
    req (ng (irem v14 16)) <|
    bnd (tourref2_Big_Cmp k (st y18 0 (ibits .or .u32 (el 0 y18 0) (ibits .and .u32 (ishr .u32 (el 0 o10 (iquo .i64 v14 16)) (irem v14 16)) 1))) y12) fun y24 =>
    bnd (tourref2_Big_Floor.c3 k o10 v14 y12 y18 y20 y24) fun o33 =>
    tourref2_Big_Floor.c2 k o10 y12 n (isub .i64 v14 1) o33.1 o33.2)
   (some v15)
def tourref2_Big_Floor (k : Nat) (a0 : (List Int)) (a1 : Int) : Option (Int × Bool) :=
  bnd (tourref2_Big_Below k a0) fun y1 =>
  bnd (tourref2_Big_Floor.c1 k a0 y1) fun o10 =>
  bnd (tourref2_Of k a1) fun y12 =>
  bnd (tourref2_Big_Floor.c2 k o10 y12 k 127 (List.replicate 8 0) (List.replicate 8 0)) fun o35 =>
  bnd (tourref2_Of k 4611686018427387904) fun y37 =>
  bnd (tourref2_Big_twice k y37) fun y39 =>
  bnd (tourref2_Big_Cmp k o35 y39) fun y41 =>
  bif' (ige y41 0)
  (some (0, false))
  (bnd (tourref2_Big_Wide k o35) fun y44 =>
   bif' y1
   (some ((isub .i64 (ineg .i64 (icv .i64 y44.2.1)) 1), true))
   (some ((icv .i64 y44.2.1), true)))
noncomputable def tourref2_Big_Floor.sp (k : Nat) : Go.Sx.Spec := ⟨(.pair T52 (.pair T3 .unit)), (.more (.dp T3) (.one (.dp T4))), fun x => tourref2_Big_Floor k x.1 x.2.1, false⟩
noncomputable def tourref2_Big_Floor.cx (k : Nat) : Go.Sx.Ctx := ⟨tys, [(83, tourref2_Big_Below.sp k), (82, tourref2_Big_Neg.sp k), (36, tourref2_Of.sp k), (40, tourref2_Big_Sub.sp k), (84, tourref2_Big_twice.sp k), (41, tourref2_Big_Cmp.sp k), (39, tourref2_Big_Add.sp k), (38, tourref2_Big_Wide.sp k)], eqs, 65, false⟩
theorem tourref2_Big_Floor.cok (k : Nat) : CtxOk PR (tourref2_Big_Floor.cx k) := ctx_ok tysOk eqsOk (FnsOk.cons (tourref2_Big_Below.ok k) (FnsOk.cons (tourref2_Big_Neg.ok k) (FnsOk.cons (tourref2_Of.ok k) (FnsOk.cons (tourref2_Big_Sub.ok k) (FnsOk.cons (tourref2_Big_twice.ok k) (FnsOk.cons (tourref2_Big_Cmp.ok k) (FnsOk.cons (tourref2_Big_Add.ok k) (FnsOk.cons (tourref2_Big_Wide.ok k) FnsOk.nil))))))))
noncomputable def tourref2_Big_Floor.c1p (a0 : (List Int)) (a1 : Int) (y1 : Bool) : SL := ⟨[(1, (.val T3 a1)), (2, (.val .ptr ⟨0, 0, (0 : Int), 0, 0⟩)), (6, (.val T4 y1)), (14, (.val T4 y1))], [(0, .cells T52 a0)]⟩
noncomputable def tourref2_Big_Floor.c1q (a1 : Int) (y1 : Bool) (o : (List Int)) : SL := (fun v => ⟨[(1, (.val T3 a1)), (2, (.val .ptr ⟨0, 0, (0 : Int), 0, 0⟩)), (6, (.val T4 y1))], [(0, .cells T52 v)]⟩) o
noncomputable def tourref2_Big_Floor.c1x (o : (List Int)) : Ex := (fun _ => .normal) o
noncomputable def tourref2_Big_Floor.c1n (o : (List Int)) : Nat := (fun _ => 1) o
theorem tourref2_Big_Floor.c1_ok (k : Nat) (a0 : (List Int)) (a1 : Int) (y1 : Bool) : Owp (tourref2_Big_Floor.c1 k a0 y1) fun o => Triple PR (tourref2_Big_Floor.cx k) (sub tourref2_Big_Floor.code [1, 1, 0, 1]) 1 (tourref2_Big_Floor.c1p a0 a1 y1) (tourref2_Big_Floor.c1x o) (tourref2_Big_Floor.c1n o) (tourref2_Big_Floor.c1q a1 y1 o) := by
  unfold tourref2_Big_Floor.c1; exact
   Owp.bif (fun e3 =>
   Owp.bnd fun y4 e5 =>
    Owp.bnd fun y6 e7 =>
    Owp.bnd fun y8 e9 =>
    Owp.some (triple_way (tourref2_Big_Floor.cok k) hmix [.dec true, .res (.one (.dp T52)) y4, .res (.one (.dp T52)) y6, .res (.one (.dp T52)) y8] [] [(0, 0)] (via (finP (And.intro (And.intro (And.intro (And.intro trivial e3) e5) e7) e9) .normal [(0, 0)] (tourref2_Big_Floor.c1q a1 y1 y8)) (by kernel_rfl)))) (fun e3 =>
   Owp.some (triple_way (tourref2_Big_Floor.cok k) hmix [.dec false] [] [(0, 0)] (via (finP (And.intro trivial e3) .normal [(0, 0)] (tourref2_Big_Floor.c1q a1 y1 a0)) (by kernel_rfl))))
noncomputable def tourref2_Big_Floor.c3p (o10 : (List Int)) (v14 : Int) (y1 : Bool) (y12 : (List Int)) (y18 : (List Int)) (y20 : (List Int)) (y24 : Int) : SL := ⟨[(2, (.val .ptr ⟨0, 0, (0 : Int), 0, 0⟩)), (6, (.val T4 y1)), (7, (.val .ptr ⟨1, 0, (0 : Int), 0, 0⟩)), (8, (.val .ptr ⟨2, 0, (0 : Int), 0, 0⟩)), (9, (.val .ptr ⟨3, 0, (0 : Int), 0, 0⟩)), (10, (.val T3 v14)), (44, (.val T4 (ige y24 (0 : Int))))], [(0, .cells T52 o10), (1, .cells T52 y20), (2, .cells T52 (st y18 (0 : Int) (ibits .or .u32 (el (0 : Int) y18 (0 : Int)) (ibits .and .u32 (ishr .u32 (el (0 : Int) o10 (iquo .i64 v14 (16 : Int))) (irem v14 (16 : Int))) (1 : Int))))), (3, .cells T52 y12)]⟩
noncomputable def tourref2_Big_Floor.c3q (o10 : (List Int)) (v14 : Int) (y1 : Bool) (y12 : (List Int)) (o : ((List Int) × (List Int))) : SL := (fun v => ⟨[(2, (.val .ptr ⟨0, 0, (0 : Int), 0, 0⟩)), (6, (.val T4 y1)), (7, (.val .ptr ⟨1, 0, (0 : Int), 0, 0⟩)), (8, (.val .ptr ⟨2, 0, (0 : Int), 0, 0⟩)), (9, (.val .ptr ⟨3, 0, (0 : Int), 0, 0⟩)), (10, (.val T3 v14))], [(0, .cells T52 o10), (1, .cells T52 v.1), (2, .cells T52 v.2), (3, .cells T52 y12)]⟩) o
noncomputable def tourref2_Big_Floor.c3x (o : ((List Int) × (List Int))) : Ex := (fun _ => .normal) o
noncomputable def tourref2_Big_Floor.c3n (o : ((List Int) × (List Int))) : Nat := (fun _ => 4) o
theorem tourref2_Big_Floor.c3_ok (k : Nat) (o10 : (List Int)) (v14 : Int) (y1 : Bool) (y12 : (List Int)) (y18 : (List Int)) (y20 : (List Int)) (y24 : Int) : Owp (tourref2_Big_Floor.c3 k o10 v14 y12 y18 y20 y24) fun o => Triple PR (tourref2_Big_Floor.cx k) (sub tourref2_Big_Floor.code [1, 1, 1, 1, 1, 0, 1, 0, 0, 1, 0, 0, 1, 1, 1]) 4 (tourref2_Big_Floor.c3p o10 v14 y1 y12 y18 y20 y24) (tourref2_Big_Floor.c3x o) (tourref2_Big_Floor.c3n o) (tourref2_Big_Floor.c3q o10 v14 y1 y12 o) := by
  unfold tourref2_Big_Floor.c3; exact
   Owp.bif (fun e26 =>
   Owp.bnd fun y27 e28 =>
    Owp.bnd fun y29 e30 =>
    Owp.bnd fun y31 e32 =>
    Owp.some (triple_way (tourref2_Big_Floor.cok k) hmix [.dec true, .res (.one (.dp T52)) y27, .res (.one (.dp T52)) y29, .res (.one (.dp T52)) y31] [] [(0, 0), (1, 1), (2, 2), (3, 3)] (via (finP (And.intro (And.intro (And.intro (And.intro trivial e26) e28) e30) e32) .normal [(0, 0), (1, 1), (2, 2), (3, 3)] (tourref2_Big_Floor.c3q o10 v14 y1 y12 (y31, y27))) (by kernel_rfl)))) (fun e26 =>
   Owp.some (triple_way (tourref2_Big_Floor.cok k) hmix [.dec false] [] [(0, 0), (1, 1), (2, 2), (3, 3)] (via (finP (And.intro trivial e26) .normal [(0, 0), (1, 1), (2, 2), (3, 3)] (tourref2_Big_Floor.c3q o10 v14 y1 y12 (y20, (st y18 (0 : Int) (ibits .or .u32 (el (0 : Int) y18 (0 : Int)) (ibits .and .u32 (ishr .u32 (el (0 : Int) o10 (iquo .i64 v14 (16 : Int))) (irem v14 (16 : Int))) (1 : Int))))))) (by kernel_rfl))))
noncomputable def tourref2_Big_Floor.c2p (o10 : (List Int)) (y1 : Bool) (y12 : (List Int)) (v14 : Int) (v15 : (List Int)) (v16 : (List Int)) : SL := ⟨[(2, (.val .ptr ⟨0, 0, (0 : Int), 0, 0⟩)), (6, (.val T4 y1)), (7, (.val .ptr ⟨1, 0, (0 : Int), 0, 0⟩)), (8, (.val .ptr ⟨2, 0, (0 : Int), 0, 0⟩)), (9, (.val .ptr ⟨3, 0, (0 : Int), 0, 0⟩)), (10, (.val T3 v14))], [(0, .cells T52 o10), (1, .cells T52 v15), (2, .cells T52 v16), (3, .cells T52 y12)]⟩
noncomputable def tourref2_Big_Floor.c2q (y1 : Bool) (o : (List Int)) : SL := (fun v => ⟨[(6, (.val T4 y1)), (7, (.val .ptr ⟨0, 0, (0 : Int), 0, 0⟩))], [(0, .cells T52 v)]⟩) o
noncomputable def tourref2_Big_Floor.c2x (o : (List Int)) : Ex := (fun _ => (.exit 0)) o
noncomputable def tourref2_Big_Floor.c2n (o : (List Int)) : Nat := (fun _ => 1) o
theorem tourref2_Big_Floor.c2_ok (k : Nat) (o10 : (List Int)) (y1 : Bool) (y12 : (List Int)) : ∀ (n : Nat) (v14 : Int) (v15 : (List Int)) (v16 : (List Int)), Owp (tourref2_Big_Floor.c2 k o10 y12 n v14 v15 v16) fun o => LTriple PR (tourref2_Big_Floor.cx k) (sub tourref2_Big_Floor.code [1, 1, 1, 1, 1, 0, 1, 0, 0]) 4 (tourref2_Big_Floor.c2p o10 y1 y12 v14 v15 v16) (tourref2_Big_Floor.c2x o) (tourref2_Big_Floor.c2n o) (tourref2_Big_Floor.c2q y1 o)
  | 0, _, _, _ => fun _ h => nomatch h
  | n + 1, v14, v15, v16 => Owp.of (tourref2_Big_Floor.c2.eq_2 ..) (
   Owp.bif (fun e17 =>
   Owp.bnd fun y18 e19 =>
    Owp.bnd fun y20 e21 =>
    Owp.req fun h22 =>
    Owp.req fun h23 =>
    Owp.bnd fun y24 e25 =>
    Owp.bnd fun o33 e34 =>
    fun y hy => loop_back (tourref2_Big_Floor.cok k) hmix 4 (tourref2_Big_Floor.c2p o10 y1 y12 (isub .i64 v14 (1 : Int)) o33.1 o33.2) [.dec true, .res (.one (.dp T52)) y18, .res (.one (.dp T52)) y20, .res (.one (.dp T3)) y24, .cut ⟨[], [(0, 0), (1, 1), (2, 2), (3, 3)], (tourref2_Big_Floor.c3p o10 v14 y1 y12 y18 y20 y24), 4, .normal, (tourref2_Big_Floor.c3q o10 v14 y1 y12 o33), 4⟩] [] [(0, 0), (1, 1), (2, 2), (3, 3)] (via (cutP (And.intro (And.intro (And.intro (And.intro (And.intro (And.intro (And.intro (And.intro (And.intro (And.intro (And.intro (And.intro (And.intro trivial e17) e19) e21) (by decide : inR (0 : Int) 8)) (by decide : inR (0 : Int) 8)) (by decide : nz (16 : Int))) h22) h22) (by decide : nz (16 : Int))) h23) (by decide : inR (0 : Int) 8)) (by decide : inR (0 : Int) 8)) e25) [(0, 0), (1, 1), (2, 2), (3, 3)] (tourref2_Big_Floor.c3p o10 v14 y1 y12 y18 y20 y24) (((tourref2_Big_Floor.c3_ok k o10 v14 y1 y12 y18 y20 y24).ap e34)) (finP trivial .normal [(0, 0), (1, 1), (2, 2), (3, 3)] (tourref2_Big_Floor.c2p o10 y1 y12 (isub .i64 v14 (1 : Int)) o33.1 o33.2))) (by kernel_rfl)) ((tourref2_Big_Floor.c2_ok k o10 y1 y12 n (isub .i64 v14 (1 : Int)) o33.1 o33.2).ap hy)) (fun e17 =>
   Owp.some (loop_exit (tourref2_Big_Floor.cok k) hmix [.dec false] [] [(0, 1)] (exne 0) (via (finP (And.intro trivial e17) (.exit 0) [(0, 1)] (tourref2_Big_Floor.c2q y1 v15)) (by kernel_rfl)))))
theorem tourref2_Big_Floor.way (k : Nat) (a0 : (List Int)) (a1 : Int) : Owp (tourref2_Big_Floor k a0 a1) fun y => ∃ answers cmds, exec PR (tourref2_Big_Floor.cx k) tourref2_Big_Floor.code 0 (entry (.pair T52 (.pair T3 .unit)) (a0, a1, ())).st answers (Ret (tourref2_Big_Floor.cx k) Try.f85 cmds (.more (.dp T3) (.one (.dp T4))) y) := by
  unfold tourref2_Big_Floor; exact
   Owp.bnd fun y1 e2 =>
   Owp.bnd fun o10 e11 =>
   Owp.bnd fun y12 e13 =>
   Owp.bnd fun o35 e36 =>
   Owp.bnd fun y37 e38 =>
   Owp.bnd fun y39 e40 =>
   Owp.bnd fun y41 e42 =>
   Owp.bif (fun e43 =>
   Owp.some (⟨[.res (.one (.dp T4)) y1, .cut ⟨[], [(0, 0)], (tourref2_Big_Floor.c1p a0 a1 y1), 1, .normal, (tourref2_Big_Floor.c1q a1 y1 o10), 1⟩, .res (.one (.dp T52)) y12, .cut ⟨[], [(0, 0), (1, 1), (2, 2), (3, 5)], (tourref2_Big_Floor.c2p o10 y1 y12 (127 : Int) (List.replicate 8 (0 : Int)) (List.replicate 8 (0 : Int))), 4, (.exit 0), (tourref2_Big_Floor.c2q y1 o35), 1⟩, .res (.one (.dp T52)) y37, .res (.one (.dp T52)) y39, .res (.one (.dp T3)) y41, .dec true], [], via (cutP (And.intro trivial e2) [(0, 0)] (tourref2_Big_Floor.c1p a0 a1 y1) (((tourref2_Big_Floor.c1_ok k a0 a1 y1).ap e11)) (cutP (And.intro trivial e13) [(0, 0), (1, 1), (2, 2), (3, 5)] (tourref2_Big_Floor.c2p o10 y1 y12 (127 : Int) (List.replicate 8 (0 : Int)) (List.replicate 8 (0 : Int))) (((tourref2_Big_Floor.c2_ok k o10 y1 y12 k (127 : Int) (List.replicate 8 (0 : Int)) (List.replicate 8 (0 : Int))).ap e36).triple) (retP (And.intro (And.intro (And.intro (And.intro trivial e38) e40) e42) e43) (.more (.dp T3) (.one (.dp T4))) (((0 : Int), false) : (Int × Bool))))) (by kernel_rfl)⟩)) (fun e43 =>
   Owp.bnd fun y44 e45 =>
    Owp.bif (fun e46 =>
    Owp.some (⟨[.res (.one (.dp T4)) y1, .cut ⟨[], [(0, 0)], (tourref2_Big_Floor.c1p a0 a1 y1), 1, .normal, (tourref2_Big_Floor.c1q a1 y1 o10), 1⟩, .res (.one (.dp T52)) y12, .cut ⟨[], [(0, 0), (1, 1), (2, 2), (3, 5)], (tourref2_Big_Floor.c2p o10 y1 y12 (127 : Int) (List.replicate 8 (0 : Int)) (List.replicate 8 (0 : Int))), 4, (.exit 0), (tourref2_Big_Floor.c2q y1 o35), 1⟩, .res (.one (.dp T52)) y37, .res (.one (.dp T52)) y39, .res (.one (.dp T3)) y41, .dec false, .res (.one (.dp T40)) y44, .dec true], [], via (cutP (And.intro trivial e2) [(0, 0)] (tourref2_Big_Floor.c1p a0 a1 y1) (((tourref2_Big_Floor.c1_ok k a0 a1 y1).ap e11)) (cutP (And.intro trivial e13) [(0, 0), (1, 1), (2, 2), (3, 5)] (tourref2_Big_Floor.c2p o10 y1 y12 (127 : Int) (List.replicate 8 (0 : Int)) (List.replicate 8 (0 : Int))) (((tourref2_Big_Floor.c2_ok k o10 y1 y12 k (127 : Int) (List.replicate 8 (0 : Int)) (List.replicate 8 (0 : Int))).ap e36).triple) (retP (And.intro (And.intro (And.intro (And.intro (And.intro (And.intro trivial e38) e40) e42) e43) e45) e46) (.more (.dp T3) (.one (.dp T4))) (((isub .i64 (ineg .i64 (icv .i64 y44.2.1)) (1 : Int)), true) : (Int × Bool))))) (by kernel_rfl)⟩)) (fun e46 =>
    Owp.some (⟨[.res (.one (.dp T4)) y1, .cut ⟨[], [(0, 0)], (tourref2_Big_Floor.c1p a0 a1 y1), 1, .normal, (tourref2_Big_Floor.c1q a1 y1 o10), 1⟩, .res (.one (.dp T52)) y12, .cut ⟨[], [(0, 0), (1, 1), (2, 2), (3, 5)], (tourref2_Big_Floor.c2p o10 y1 y12 (127 : Int) (List.replicate 8 (0 : Int)) (List.replicate 8 (0 : Int))), 4, (.exit 0), (tourref2_Big_Floor.c2q y1 o35), 1⟩, .res (.one (.dp T52)) y37, .res (.one (.dp T52)) y39, .res (.one (.dp T3)) y41, .dec false, .res (.one (.dp T40)) y44, .dec false], [], via (cutP (And.intro trivial e2) [(0, 0)] (tourref2_Big_Floor.c1p a0 a1 y1) (((tourref2_Big_Floor.c1_ok k a0 a1 y1).ap e11)) (cutP (And.intro trivial e13) [(0, 0), (1, 1), (2, 2), (3, 5)] (tourref2_Big_Floor.c2p o10 y1 y12 (127 : Int) (List.replicate 8 (0 : Int)) (List.replicate 8 (0 : Int))) (((tourref2_Big_Floor.c2_ok k o10 y1 y12 k (127 : Int) (List.replicate 8 (0 : Int)) (List.replicate 8 (0 : Int))).ap e36).triple) (retP (And.intro (And.intro (And.intro (And.intro (And.intro (And.intro trivial e38) e40) e42) e43) e45) e46) (.more (.dp T3) (.one (.dp T4))) (((icv .i64 y44.2.1), true) : (Int × Bool))))) (by kernel_rfl)⟩)))
theorem tourref2_Big_Floor.ok (k : Nat) : FnOk PR 85 (tourref2_Big_Floor.sp k) :=
  fn_ok (tourref2_Big_Floor.cok k) hmix Try.func85 (code := tourref2_Big_Floor.code) (by kernel_rfl) (by kernel_rfl) (by kernel_rfl) rfl (by kernel_rfl) (by kernel_rfl) (by kernel_rfl) (fun x => Nat.le_of_ble_eq_true (by kernel_rfl)) fun x y hy => (tourref2_Big_Floor.way k x.1 x.2.1).ap hy

/-! (tourney/tourref2.Big).Over -/
noncomputable def tourref2_Big_Over.code : Code := Func.cd Try.f45
def tourref2_Big_Over.c1 (k : Nat) (a0 : (List Int)) (a1 : Int) : Option ((Int × (List Int))) :=
  bif' (ilt a1 0)
  (bnd (tourref2_Big_Neg k a0) fun y3 =>
   some ((ineg .i64 a1), y3))
  (some (a1, a0))
def tourref2_Big_Over (k : Nat) (a0 : (List Int)) (a1 : Int) : Option (Int × Int) :=
  bif' (ieq a1 0)
  (some (0, 17))
  (bnd (tourref2_Big_Over.c1 k a0 a1) fun o5 =>
   bnd (tourref2_Big_twice k o5.2) fun y7 =>
   bnd (tourref2_Of k o5.1) fun y9 =>
   bnd (tourref2_Big_Add k y7 y9) fun y11 =>
   bnd (tourref2_Big_Floor k y11 (imul .i64 2 o5.1)) fun y13 =>
   bif' y13.2
   (some (y13.1, 0))
   (some (0, 2)))
noncomputable def tourref2_Big_Over.sp (k : Nat) : Go.Sx.Spec := ⟨(.pair T52 (.pair T3 .unit)), (.more (.dp T3) (.one (.dp T3))), fun x => tourref2_Big_Over k x.1 x.2.1, false⟩
noncomputable def tourref2_Big_Over.cx (k : Nat) : Go.Sx.Ctx := ⟨tys, [(82, tourref2_Big_Neg.sp k), (84, tourref2_Big_twice.sp k), (36, tourref2_Of.sp k), (39, tourref2_Big_Add.sp k), (85, tourref2_Big_Floor.sp k)], eqs, 30, false⟩
theorem tourref2_Big_Over.cok (k : Nat) : CtxOk PR (tourref2_Big_Over.cx k) := ctx_ok tysOk eqsOk (FnsOk.cons (tourref2_Big_Neg.ok k) (FnsOk.cons (tourref2_Big_twice.ok k) (FnsOk.cons (tourref2_Of.ok k) (FnsOk.cons (tourref2_Big_Add.ok k) (FnsOk.cons (tourref2_Big_Floor.ok k) FnsOk.nil)))))
noncomputable def tourref2_Big_Over.c1p (a0 : (List Int)) (a1 : Int) : SL := ⟨[(1, (.val T3 a1)), (2, (.val .ptr ⟨0, 0, (0 : Int), 0, 0⟩)), (11, (.val T4 (ilt a1 (0 : Int))))], [(0, .cells T52 a0)]⟩
noncomputable def tourref2_Big_Over.c1q (o : (Int × (List Int))) : SL := (fun v => ⟨[(1, (.val T3 v.1)), (2, (.val .ptr ⟨0, 0, (0 : Int), 0, 0⟩))], [(0, .cells T52 v.2)]⟩) o
noncomputable def tourref2_Big_Over.c1x (o : (Int × (List Int))) : Ex := (fun _ => .normal) o
noncomputable def tourref2_Big_Over.c1n (o : (Int × (List Int))) : Nat := (fun _ => 1) o
theorem tourref2_Big_Over.c1_ok (k : Nat) (a0 : (List Int)) (a1 : Int) : Owp (tourref2_Big_Over.c1 k a0 a1) fun o => Triple PR (tourref2_Big_Over.cx k) (sub tourref2_Big_Over.code [1, 1, 0, 1]) 1 (tourref2_Big_Over.c1p a0 a1) (tourref2_Big_Over.c1x o) (tourref2_Big_Over.c1n o) (tourref2_Big_Over.c1q o) := by
  unfold tourref2_Big_Over.c1; exact
   Owp.bif (fun e2 =>
   Owp.bnd fun y3 e4 =>
    Owp.some (triple_way (tourref2_Big_Over.cok k) hmix [.dec true, .res (.one (.dp T52)) y3] [] [(0, 0)] (via (finP (And.intro (And.intro trivial e2) e4) .normal [(0, 0)] (tourref2_Big_Over.c1q ((ineg .i64 a1), y3))) (by kernel_rfl)))) (fun e2 =>
   Owp.some (triple_way (tourref2_Big_Over.cok k) hmix [.dec false] [] [(0, 0)] (via (finP (And.intro trivial e2) .normal [(0, 0)] (tourref2_Big_Over.c1q (a1, a0))) (by kernel_rfl))))
theorem tourref2_Big_Over.way (k : Nat) (a0 : (List Int)) (a1 : Int) : Owp (tourref2_Big_Over k a0 a1) fun y => ∃ answers cmds, exec PR (tourref2_Big_Over.cx k) tourref2_Big_Over.code 0 (entry (.pair T52 (.pair T3 .unit)) (a0, a1, ())).st answers (Ret (tourref2_Big_Over.cx k) Try.f45 cmds (.more (.dp T3) (.one (.dp T3))) y) := by
  unfold tourref2_Big_Over; exact
   Owp.bif (fun e1 =>
   Owp.some (⟨[.dec true], [], via (retP (And.intro trivial e1) (.more (.dp T3) (.one (.dp T3))) (((0 : Int), (17 : Int)) : (Int × Int))) (by kernel_rfl)⟩)) (fun e1 =>
   Owp.bnd fun o5 e6 =>
    Owp.bnd fun y7 e8 =>
    Owp.bnd fun y9 e10 =>
    Owp.bnd fun y11 e12 =>
    Owp.bnd fun y13 e14 =>
    Owp.bif (fun e15 =>
    Owp.some (⟨[.dec false, .cut ⟨[], [(0, 0)], (tourref2_Big_Over.c1p a0 a1), 1, .normal, (tourref2_Big_Over.c1q o5), 1⟩, .res (.one (.dp T52)) y7, .res (.one (.dp T52)) y9, .res (.one (.dp T52)) y11, .res (.more (.dp T3) (.one (.dp T4))) y13, .dec false], [], via (cutP (And.intro trivial e1) [(0, 0)] (tourref2_Big_Over.c1p a0 a1) (((tourref2_Big_Over.c1_ok k a0 a1).ap e6)) (retP (And.intro (And.intro (And.intro (And.intro (And.intro trivial e8) e10) e12) e14) (congrArg not e15)) (.more (.dp T3) (.one (.dp T3))) ((y13.1, (0 : Int)) : (Int × Int)))) (by kernel_rfl)⟩)) (fun e15 =>
    Owp.some (⟨[.dec false, .cut ⟨[], [(0, 0)], (tourref2_Big_Over.c1p a0 a1), 1, .normal, (tourref2_Big_Over.c1q o5), 1⟩, .res (.one (.dp T52)) y7, .res (.one (.dp T52)) y9, .res (.one (.dp T52)) y11, .res (.more (.dp T3) (.one (.dp T4))) y13, .dec true], [], via (cutP (And.intro trivial e1) [(0, 0)] (tourref2_Big_Over.c1p a0 a1) (((tourref2_Big_Over.c1_ok k a0 a1).ap e6)) (retP (And.intro (And.intro (And.intro (And.intro (And.intro trivial e8) e10) e12) e14) (congrArg not e15)) (.more (.dp T3) (.one (.dp T3))) (((0 : Int), (2 : Int)) : (Int × Int)))) (by kernel_rfl)⟩)))
theorem tourref2_Big_Over.ok (k : Nat) : FnOk PR 45 (tourref2_Big_Over.sp k) :=
  fn_ok (tourref2_Big_Over.cok k) hmix Try.func45 (code := tourref2_Big_Over.code) (by kernel_rfl) (by kernel_rfl) (by kernel_rfl) rfl (by kernel_rfl) (by kernel_rfl) (by kernel_rfl) (fun x => Nat.le_of_ble_eq_true (by kernel_rfl)) fun x y hy => (tourref2_Big_Over.way k x.1 x.2.1).ap hy

/-! tourney/fix.Clamp -/
noncomputable def fix_Clamp.code : Code := Func.cd Try.f122
def fix_Clamp (k : Nat) (a0 : Int) : Option Int :=
  some (imin (imax a0 (-1099511627776)) 1099511627776)
noncomputable def fix_Clamp.sp (k : Nat) : Go.Sx.Spec := ⟨(.pair T3 .unit), (.one (.dp T3)), fun x => fix_Clamp k x.1, false⟩
noncomputable def fix_Clamp.cx (k : Nat) : Go.Sx.Ctx := ⟨tys, [], eqs, 6, false⟩
theorem fix_Clamp.cok (k : Nat) : CtxOk PR (fix_Clamp.cx k) := ctx_ok tysOk eqsOk FnsOk.nil
theorem fix_Clamp.way (k : Nat) (a0 : Int) : Owp (fix_Clamp k a0) fun y => ∃ answers cmds, exec PR (fix_Clamp.cx k) fix_Clamp.code 0 (entry (.pair T3 .unit) (a0, ())).st answers (Ret (fix_Clamp.cx k) Try.f122 cmds (.one (.dp T3)) y) := by
  unfold fix_Clamp; exact
   Owp.some (⟨[], [], via (retP trivial (.one (.dp T3)) ((imin (imax a0 (-1099511627776 : Int)) (1099511627776 : Int)) : Int)) (by kernel_rfl)⟩)
theorem fix_Clamp.ok (k : Nat) : FnOk PR 122 (fix_Clamp.sp k) :=
  fn_ok (fix_Clamp.cok k) hmix Try.func122 (code := fix_Clamp.code) (by kernel_rfl) (by kernel_rfl) (by kernel_rfl) rfl (by kernel_rfl) (by kernel_rfl) (by kernel_rfl) (fun x => Nat.le_of_ble_eq_true (by kernel_rfl)) fun x y hy => (fix_Clamp.way k x.1).ap hy

/-! tourney/fix.Add -/
noncomputable def fix_Add.code : Code := Func.cd Try.f105
def fix_Add (k : Nat) (a0 : Int) (a1 : Int) : Option Int :=
  bnd (fix_Clamp k a0) fun y1 =>
  bnd (fix_Clamp k a1) fun y3 =>
  bnd (fix_Clamp k (iadd .i64 y1 y3)) fun y5 =>
  some y5
noncomputable def fix_Add.sp (k : Nat) : Go.Sx.Spec := ⟨T24, (.one (.dp T3)), fun x => fix_Add k x.1 x.2.1, false⟩
noncomputable def fix_Add.cx (k : Nat) : Go.Sx.Ctx := ⟨tys, [(122, fix_Clamp.sp k)], eqs, 11, false⟩
theorem fix_Add.cok (k : Nat) : CtxOk PR (fix_Add.cx k) := ctx_ok tysOk eqsOk (FnsOk.cons (fix_Clamp.ok k) FnsOk.nil)
theorem fix_Add.way (k : Nat) (a0 : Int) (a1 : Int) : Owp (fix_Add k a0 a1) fun y => ∃ answers cmds, exec PR (fix_Add.cx k) fix_Add.code 0 (entry T24 (a0, a1, ())).st answers (Ret (fix_Add.cx k) Try.f105 cmds (.one (.dp T3)) y) := by
  unfold fix_Add; exact
   Owp.bnd fun y1 e2 =>
   Owp.bnd fun y3 e4 =>
   Owp.bnd fun y5 e6 =>
   Owp.some (⟨[.res (.one (.dp T3)) y1, .res (.one (.dp T3)) y3, .res (.one (.dp T3)) y5], [], via (retP (And.intro (And.intro (And.intro trivial e2) e4) e6) (.one (.dp T3)) (y5 : Int)) (by kernel_rfl)⟩)
theorem fix_Add.ok (k : Nat) : FnOk PR 105 (fix_Add.sp k) :=
  fn_ok (fix_Add.cok k) hmix Try.func105 (code := fix_Add.code) (by kernel_rfl) (by kernel_rfl) (by kernel_rfl) rfl (by kernel_rfl) (by kernel_rfl) (by kernel_rfl) (fun x => Nat.le_of_ble_eq_true (by kernel_rfl)) fun x y hy => (fix_Add.way k x.1 x.2.1).ap hy

/-! tourney/fix.mag -/
noncomputable def fix_mag.code : Code := Func.cd Try.f127
def fix_mag (k : Nat) (a0 : Int) : Option Int :=
  bif' (ilt a0 0)
  (some (icv .u64 (ineg .i64 a0)))
  (some (icv .u64 a0))
noncomputable def fix_mag.sp (k : Nat) : Go.Sx.Spec := ⟨(.pair T3 .unit), (.one (.dp T38)), fun x => fix_mag k x.1, false⟩
noncomputable def fix_mag.cx (k : Nat) : Go.Sx.Ctx := ⟨tys, [], eqs, 10, false⟩
theorem fix_mag.cok (k : Nat) : CtxOk PR (fix_mag.cx k) := ctx_ok tysOk eqsOk FnsOk.nil
theorem fix_mag.way (k : Nat) (a0 : Int) : Owp (fix_mag k a0) fun y => ∃ answers cmds, exec PR (fix_mag.cx k) fix_mag.code 0 (entry (.pair T3 .unit) (a0, ())).st answers (Ret (fix_mag.cx k) Try.f127 cmds (.one (.dp T38)) y) := by
  unfold fix_mag; exact
   Owp.bif (fun e1 =>
   Owp.some (⟨[.dec true], [], via (retP (And.intro trivial e1) (.one (.dp T38)) ((icv .u64 (ineg .i64 a0)) : Int)) (by kernel_rfl)⟩)) (fun e1 =>
   Owp.some (⟨[.dec false], [], via (retP (And.intro trivial e1) (.one (.dp T38)) ((icv .u64 a0) : Int)) (by kernel_rfl)⟩))
theorem fix_mag.ok (k : Nat) : FnOk PR 127 (fix_mag.sp k) :=
  fn_ok (fix_mag.cok k) hmix Try.func127 (code := fix_mag.code) (by kernel_rfl) (by kernel_rfl) (by kernel_rfl) rfl (by kernel_rfl) (by kernel_rfl) (by kernel_rfl) (fun x => Nat.le_of_ble_eq_true (by kernel_rfl)) fun x y hy => (fix_mag.way k x.1).ap hy

/-! tourney/fix.MulDiv -/
noncomputable def fix_MulDiv.code : Code := Func.cd Try.f123
def fix_MulDiv.c1 (k : Nat) (y1 : Int) (y3 : Int) : Option (Bool) :=
  bif' (ilt y3 0)
  (some (!(ilt y1 0)))
  (some (ilt y1 0))
def fix_MulDiv.c2 (k : Nat) (o9 : Bool) (y5 : Int) : Option (Bool) :=
  bif' (ilt y5 0)
  (some (!o9))
  (some o9)
def fix_MulDiv.c3 (k : Nat) (y24 : (Int × Int)) : Option ((Int × Int)) :=
  bif' (igt y24.1 1099511627776)
  (some (1099511627777, 0))
  (some (y24.1, y24.2))
def fix_MulDiv.c4 (k : Nat) (o27 : (Int × Int)) (y14 : Int) : Option (Int) :=
  bif' (igt o27.2 (isub .u64 y14 o27.2))
  (some (iadd .i64 (icv .i64 o27.1) 1))
  (some (icv .i64 o27.1))
def fix_MulDiv.c5 (k : Nat) (o27 : (Int × Int)) (y14 : Int) : Option (Int) :=
  bif' (ige o27.2 (isub .u64 y14 o27.2))
  (some (iadd .i64 (icv .i64 o27.1) 1))
  (some (icv .i64 o27.1))
def fix_MulDiv (k : Nat) (a0 : Int) (a1 : Int) (a2 : Int) : Option Int :=
  bnd (fix_Clamp k a0) fun y1 =>
  bnd (fix_Clamp k a1) fun y3 =>
  bnd (fix_Clamp k a2) fun y5 =>
  bif' (ieq y5 0)
  (some 0)
  (bnd (fix_MulDiv.c1 k y1 y3) fun o9 =>
   bnd (fix_MulDiv.c2 k o9 y5) fun o12 =>
   bnd (fix_mag k y5) fun y14 =>
   bnd (fix_mag k y1) fun y16 =>
   bnd (fix_mag k y3) fun y18 =>
   bnd (bits_Mul64 k y16 y18) fun y20 =>
   bif' (ige y20.1 y14)
   (bif' o12
    (some (-1099511627776))
    (some 1099511627776))
   (bnd (bits_Div64 k y20.1 y20.2 y14) fun y24 =>
    bnd (fix_MulDiv.c3 k y24) fun o27 =>
    bif' o12
    (bnd (fix_MulDiv.c4 k o27 y14) fun o31 =>
     bnd (fix_Clamp k (ineg .i64 o31)) fun y33 =>
     some y33)
    (bnd (fix_MulDiv.c5 k o27 y14) fun o36 =>
     bnd (fix_Clamp k o36) fun y38 =>
     some y38)))
noncomputable def fix_MulDiv.sp (k : Nat) : Go.Sx.Spec := ⟨(.pair T3 T24), (.one (.dp T3)), fun x => fix_MulDiv k x.1 x.2.1 x.2.2.1, false⟩
noncomputable def fix_MulDiv.cx (k : Nat) : Go.Sx.Ctx := ⟨tys, [(122, fix_Clamp.sp k), (127, fix_mag.sp k), (78, bits_Mul64.sp k), (81, bits_Div64.sp k)], eqs, 78, false⟩
theorem fix_MulDiv.cok (k : Nat) : CtxOk PR (fix_MulDiv.cx k) := ctx_ok tysOk eqsOk (FnsOk.cons (fix_Clamp.ok k) (FnsOk.cons (fix_mag.ok k) (FnsOk.cons (bits_Mul64.ok k) (FnsOk.cons (bits_Div64.ok k) FnsOk.nil))))
noncomputable def fix_MulDiv.c1p (y1 : Int) (y3 : Int) (y5 : Int) : SL := ⟨[(0, (.val T3 y1)), (1, (.val T3 y3)), (2, (.val T3 y5)), (7, (.val T4 (ilt y1 (0 : Int)))), (25, (.val T4 (ilt y3 (0 : Int))))], []⟩
noncomputable def fix_MulDiv.c1q (y1 : Int) (y3 : Int) (y5 : Int) (o : Bool) : SL := (fun v => ⟨[(0, (.val T3 y1)), (1, (.val T3 y3)), (2, (.val T3 y5)), (7, (.val T4 v))], []⟩) o
noncomputable def fix_MulDiv.c1x (o : Bool) : Ex := (fun _ => .normal) o
noncomputable def fix_MulDiv.c1n (o : Bool) : Nat := (fun _ => 0) o
theorem fix_MulDiv.c1_ok (k : Nat) (y1 : Int) (y3 : Int) (y5 : Int) : Owp (fix_MulDiv.c1 k y1 y3) fun o => Triple PR (fix_MulDiv.cx k) (sub fix_MulDiv.code [1, 1, 1, 1, 0, 1]) 0 (fix_MulDiv.c1p y1 y3 y5) (fix_MulDiv.c1x o) (fix_MulDiv.c1n o) (fix_MulDiv.c1q y1 y3 y5 o) := by
  unfold fix_MulDiv.c1; exact
   Owp.bif (fun e8 =>
   Owp.some (triple_way (fix_MulDiv.cok k) hmix [.dec true] [] [] (via (finP (And.intro trivial e8) .normal [] (fix_MulDiv.c1q y1 y3 y5 (!(ilt y1 (0 : Int))))) (by kernel_rfl)))) (fun e8 =>
   Owp.some (triple_way (fix_MulDiv.cok k) hmix [.dec false] [] [] (via (finP (And.intro trivial e8) .normal [] (fix_MulDiv.c1q y1 y3 y5 (ilt y1 (0 : Int)))) (by kernel_rfl))))
noncomputable def fix_MulDiv.c2p (o9 : Bool) (y1 : Int) (y3 : Int) (y5 : Int) : SL := ⟨[(0, (.val T3 y1)), (1, (.val T3 y3)), (2, (.val T3 y5)), (7, (.val T4 o9)), (29, (.val T4 (ilt y5 (0 : Int))))], []⟩
noncomputable def fix_MulDiv.c2q (y1 : Int) (y3 : Int) (y5 : Int) (o : Bool) : SL := (fun v => ⟨[(0, (.val T3 y1)), (1, (.val T3 y3)), (2, (.val T3 y5)), (7, (.val T4 v))], []⟩) o
noncomputable def fix_MulDiv.c2x (o : Bool) : Ex := (fun _ => .normal) o
noncomputable def fix_MulDiv.c2n (o : Bool) : Nat := (fun _ => 0) o
theorem fix_MulDiv.c2_ok (k : Nat) (o9 : Bool) (y1 : Int) (y3 : Int) (y5 : Int) : Owp (fix_MulDiv.c2 k o9 y5) fun o => Triple PR (fix_MulDiv.cx k) (sub fix_MulDiv.code [1, 1, 1, 1, 1, 0, 1]) 0 (fix_MulDiv.c2p o9 y1 y3 y5) (fix_MulDiv.c2x o) (fix_MulDiv.c2n o) (fix_MulDiv.c2q y1 y3 y5 o) := by
  unfold fix_MulDiv.c2; exact
   Owp.bif (fun e11 =>
   Owp.some (triple_way (fix_MulDiv.cok k) hmix [.dec true] [] [] (via (finP (And.intro trivial e11) .normal [] (fix_MulDiv.c2q y1 y3 y5 (!o9))) (by kernel_rfl)))) (fun e11 =>
   Owp.some (triple_way (fix_MulDiv.cok k) hmix [.dec false] [] [] (via (finP (And.intro trivial e11) .normal [] (fix_MulDiv.c2q y1 y3 y5 o9)) (by kernel_rfl))))
noncomputable def fix_MulDiv.c3p (o12 : Bool) (y14 : Int) (y24 : (Int × Int)) : SL := ⟨[(7, (.val T4 o12)), (8, (.val T38 y14)), (11, (.val T38 y24.1)), (12, (.val T38 y24.2)), (54, (.val T4 (igt y24.1 (1099511627776 : Int))))], []⟩
noncomputable def fix_MulDiv.c3q (o12 : Bool) (y14 : Int) (o : (Int × Int)) : SL := (fun v => ⟨[(7, (.val T4 o12)), (8, (.val T38 y14)), (11, (.val T38 v.1)), (12, (.val T38 v.2))], []⟩) o
noncomputable def fix_MulDiv.c3x (o : (Int × Int)) : Ex := (fun _ => .normal) o
noncomputable def fix_MulDiv.c3n (o : (Int × Int)) : Nat := (fun _ => 0) o
theorem fix_MulDiv.c3_ok (k : Nat) (o12 : Bool) (y14 : Int) (y24 : (Int × Int)) : Owp (fix_MulDiv.c3 k y24) fun o => Triple PR (fix_MulDiv.cx k) (sub fix_MulDiv.code [1, 1, 1, 1, 1, 1, 1, 1, 1, 1, 0, 1]) 0 (fix_MulDiv.c3p o12 y14 y24) (fix_MulDiv.c3x o) (fix_MulDiv.c3n o) (fix_MulDiv.c3q o12 y14 o) := by
  unfold fix_MulDiv.c3; exact
   Owp.bif (fun e26 =>
   Owp.some (triple_way (fix_MulDiv.cok k) hmix [.dec true] [] [] (via (finP (And.intro trivial e26) .normal [] (fix_MulDiv.c3q o12 y14 ((1099511627777 : Int), (0 : Int)))) (by kernel_rfl)))) (fun e26 =>
   Owp.some (triple_way (fix_MulDiv.cok k) hmix [.dec false] [] [] (via (finP (And.intro trivial e26) .normal [] (fix_MulDiv.c3q o12 y14 (y24.1, y24.2))) (by kernel_rfl))))
noncomputable def fix_MulDiv.c4p (o27 : (Int × Int)) (y14 : Int) : SL := ⟨[(13, (.val T3 (icv .i64 o27.1))), (72, (.val T4 (igt o27.2 (isub .u64 y14 o27.2))))], []⟩
noncomputable def fix_MulDiv.c4q (o : Int) : SL := (fun v => ⟨[(13, (.val T3 v))], []⟩) o
noncomputable def fix_MulDiv.c4x (o : Int) : Ex := (fun _ => .normal) o
noncomputable def fix_MulDiv.c4n (o : Int) : Nat := (fun _ => 0) o
theorem fix_MulDiv.c4_ok (k : Nat) (o27 : (Int × Int)) (y14 : Int) : Owp (fix_MulDiv.c4 k o27 y14) fun o => Triple PR (fix_MulDiv.cx k) (sub fix_MulDiv.code [1, 1, 1, 1, 1, 1, 1, 1, 1, 1, 1, 1, 1, 0, 1]) 0 (fix_MulDiv.c4p o27 y14) (fix_MulDiv.c4x o) (fix_MulDiv.c4n o) (fix_MulDiv.c4q o) := by
  unfold fix_MulDiv.c4; exact
   Owp.bif (fun e30 =>
   Owp.some (triple_way (fix_MulDiv.cok k) hmix [.dec true] [] [] (via (finP (And.intro trivial e30) .normal [] (fix_MulDiv.c4q (iadd .i64 (icv .i64 o27.1) (1 : Int)))) (by kernel_rfl)))) (fun e30 =>
   Owp.some (triple_way (fix_MulDiv.cok k) hmix [.dec false] [] [] (via (finP (And.intro trivial e30) .normal [] (fix_MulDiv.c4q (icv .i64 o27.1))) (by kernel_rfl))))
noncomputable def fix_MulDiv.c5p (o27 : (Int × Int)) (y14 : Int) : SL := ⟨[(13, (.val T3 (icv .i64 o27.1))), (63, (.val T4 (ige o27.2 (isub .u64 y14 o27.2))))], []⟩
noncomputable def fix_MulDiv.c5q (o : Int) : SL := (fun v => ⟨[(13, (.val T3 v))], []⟩) o
noncomputable def fix_MulDiv.c5x (o : Int) : Ex := (fun _ => .normal) o
noncomputable def fix_MulDiv.c5n (o : Int) : Nat := (fun _ => 0) o
theorem fix_MulDiv.c5_ok (k : Nat) (o27 : (Int × Int)) (y14 : Int) : Owp (fix_MulDiv.c5 k o27 y14) fun o => Triple PR (fix_MulDiv.cx k) (sub fix_MulDiv.code [1, 1, 1, 1, 1, 1, 1, 1, 1, 1, 1, 1, 0, 1, 0, 0, 1]) 0 (fix_MulDiv.c5p o27 y14) (fix_MulDiv.c5x o) (fix_MulDiv.c5n o) (fix_MulDiv.c5q o) := by
  unfold fix_MulDiv.c5; exact
   Owp.bif (fun e35 =>
   Owp.some (triple_way (fix_MulDiv.cok k) hmix [.dec true] [] [] (via (finP (And.intro trivial e35) .normal [] (fix_MulDiv.c5q (iadd .i64 (icv .i64 o27.1) (1 : Int)))) (by kernel_rfl)))) (fun e35 =>
   Owp.some (triple_way (fix_MulDiv.cok k) hmix [.dec false] [] [] (via (finP (And.intro trivial e35) .normal [] (fix_MulDiv.c5q (icv .i64 o27.1))) (by kernel_rfl))))
theorem fix_MulDiv.way (k : Nat) (a0 : Int) (a1 : Int) (a2 : Int) : Owp (fix_MulDiv k a0 a1 a2) fun y => ∃ answers cmds, exec PR (fix_MulDiv.cx k) fix_MulDiv.code 0 (entry (.pair T3 T24) (a0, a1, a2, ())).st answers (Ret (fix_MulDiv.cx k) Try.f123 cmds (.one (.dp T3)) y) := by
  unfold fix_MulDiv; exact
   Owp.bnd fun y1 e2 =>
   Owp.bnd fun y3 e4 =>
   Owp.bnd fun y5 e6 =>
   Owp.bif (fun e7 =>
   Owp.some (⟨[.res (.one (.dp T3)) y1, .res (.one (.dp T3)) y3, .res (.one (.dp T3)) y5, .dec true], [], via (retP (And.intro (And.intro (And.intro (And.intro trivial e2) e4) e6) e7) (.one (.dp T3)) ((0 : Int) : Int)) (by kernel_rfl)⟩)) (fun e7 =>
   Owp.bnd fun o9 e10 =>
    Owp.bnd fun o12 e13 =>
    Owp.bnd fun y14 e15 =>
    Owp.bnd fun y16 e17 =>
    Owp.bnd fun y18 e19 =>
    Owp.bnd fun y20 e21 =>
    Owp.bif (fun e22 =>
    Owp.bif (fun e23 =>
     Owp.some (⟨[.res (.one (.dp T3)) y1, .res (.one (.dp T3)) y3, .res (.one (.dp T3)) y5, .dec false, .cut ⟨[], [], (fix_MulDiv.c1p y1 y3 y5), 0, .normal, (fix_MulDiv.c1q y1 y3 y5 o9), 0⟩, .cut ⟨[], [], (fix_MulDiv.c2p o9 y1 y3 y5), 0, .normal, (fix_MulDiv.c2q y1 y3 y5 o12), 0⟩, .res (.one (.dp T38)) y14, .res (.one (.dp T38)) y16, .res (.one (.dp T38)) y18, .res (.more (.dp T38) (.one (.dp T38))) y20, .dec true, .dec true], [], via (cutP (And.intro (And.intro (And.intro (And.intro trivial e2) e4) e6) e7) [] (fix_MulDiv.c1p y1 y3 y5) (((fix_MulDiv.c1_ok k y1 y3 y5).ap e10)) (cutP trivial [] (fix_MulDiv.c2p o9 y1 y3 y5) (((fix_MulDiv.c2_ok k o9 y1 y3 y5).ap e13)) (retP (And.intro (And.intro (And.intro (And.intro (And.intro (And.intro trivial e15) e17) e19) e21) e22) e23) (.one (.dp T3)) ((-1099511627776 : Int) : Int)))) (by kernel_rfl)⟩)) (fun e23 =>
     Owp.some (⟨[.res (.one (.dp T3)) y1, .res (.one (.dp T3)) y3, .res (.one (.dp T3)) y5, .dec false, .cut ⟨[], [], (fix_MulDiv.c1p y1 y3 y5), 0, .normal, (fix_MulDiv.c1q y1 y3 y5 o9), 0⟩, .cut ⟨[], [], (fix_MulDiv.c2p o9 y1 y3 y5), 0, .normal, (fix_MulDiv.c2q y1 y3 y5 o12), 0⟩, .res (.one (.dp T38)) y14, .res (.one (.dp T38)) y16, .res (.one (.dp T38)) y18, .res (.more (.dp T38) (.one (.dp T38))) y20, .dec true, .dec false], [], via (cutP (And.intro (And.intro (And.intro (And.intro trivial e2) e4) e6) e7) [] (fix_MulDiv.c1p y1 y3 y5) (((fix_MulDiv.c1_ok k y1 y3 y5).ap e10)) (cutP trivial [] (fix_MulDiv.c2p o9 y1 y3 y5) (((fix_MulDiv.c2_ok k o9 y1 y3 y5).ap e13)) (retP (And.intro (And.intro (And.intro (And.intro (And.intro (And.intro trivial e15) e17) e19) e21) e22) e23) (.one (.dp T3)) ((1099511627776 : Int) : Int)))) (by kernel_rfl)⟩))) (fun e22 =>
    Owp.bnd fun y24 e25 =>
     Owp.bnd fun o27 e28 =>
     Owp.bif (fun e29 =>
     Owp.bnd fun o31 e32 =>
      Owp.bnd fun y33 e34 =>
      Owp.some (⟨[.res (.one (.dp T3)) y1, .res (.one (.dp T3)) y3, .res (.one (.dp T3)) y5, .dec false, .cut ⟨[], [], (fix_MulDiv.c1p y1 y3 y5), 0, .normal, (fix_MulDiv.c1q y1 y3 y5 o9), 0⟩, .cut ⟨[], [], (fix_MulDiv.c2p o9 y1 y3 y5), 0, .normal, (fix_MulDiv.c2q y1 y3 y5 o12), 0⟩, .res (.one (.dp T38)) y14, .res (.one (.dp T38)) y16, .res (.one (.dp T38)) y18, .res (.more (.dp T38) (.one (.dp T38))) y20, .dec false, .res (.more (.dp T38) (.one (.dp T38))) y24, .cut ⟨[], [], (fix_MulDiv.c3p o12 y14 y24), 0, .normal, (fix_MulDiv.c3q o12 y14 o27), 0⟩, .dec false, .cut ⟨[], [], (fix_MulDiv.c4p o27 y14), 0, .normal, (fix_MulDiv.c4q o31), 0⟩, .res (.one (.dp T3)) y33], [], via (cutP (And.intro (And.intro (And.intro (And.intro trivial e2) e4) e6) e7) [] (fix_MulDiv.c1p y1 y3 y5) (((fix_MulDiv.c1_ok k y1 y3 y5).ap e10)) (cutP trivial [] (fix_MulDiv.c2p o9 y1 y3 y5) (((fix_MulDiv.c2_ok k o9 y1 y3 y5).ap e13)) (cutP (And.intro (And.intro (And.intro (And.intro (And.intro (And.intro trivial e15) e17) e19) e21) e22) e25) [] (fix_MulDiv.c3p o12 y14 y24) (((fix_MulDiv.c3_ok k o12 y14 y24).ap e28)) (cutP (And.intro trivial (congrArg not e29)) [] (fix_MulDiv.c4p o27 y14) (((fix_MulDiv.c4_ok k o27 y14).ap e32)) (retP (And.intro trivial e34) (.one (.dp T3)) (y33 : Int)))))) (by kernel_rfl)⟩)) (fun e29 =>
     Owp.bnd fun o36 e37 =>
      Owp.bnd fun y38 e39 =>
      Owp.some (⟨[.res (.one (.dp T3)) y1, .res (.one (.dp T3)) y3, .res (.one (.dp T3)) y5, .dec false, .cut ⟨[], [], (fix_MulDiv.c1p y1 y3 y5), 0, .normal, (fix_MulDiv.c1q y1 y3 y5 o9), 0⟩, .cut ⟨[], [], (fix_MulDiv.c2p o9 y1 y3 y5), 0, .normal, (fix_MulDiv.c2q y1 y3 y5 o12), 0⟩, .res (.one (.dp T38)) y14, .res (.one (.dp T38)) y16, .res (.one (.dp T38)) y18, .res (.more (.dp T38) (.one (.dp T38))) y20, .dec false, .res (.more (.dp T38) (.one (.dp T38))) y24, .cut ⟨[], [], (fix_MulDiv.c3p o12 y14 y24), 0, .normal, (fix_MulDiv.c3q o12 y14 o27), 0⟩, .dec true, .cut ⟨[], [], (fix_MulDiv.c5p o27 y14), 0, .normal, (fix_MulDiv.c5q o36), 0⟩, .res (.one (.dp T3)) y38], [], via (cutP (And.intro (And.intro (And.intro (And.intro trivial e2) e4) e6) e7) [] (fix_MulDiv.c1p y1 y3 y5) (((fix_MulDiv.c1_ok k y1 y3 y5).ap e10)) (cutP trivial [] (fix_MulDiv.c2p o9 y1 y3 y5) (((fix_MulDiv.c2_ok k o9 y1 y3 y5).ap e13)) (cutP (And.intro (And.intro (And.intro (And.intro (And.intro (And.intro trivial e15) e17) e19) e21) e22) e25) [] (fix_MulDiv.c3p o12 y14 y24) (((fix_MulDiv.c3_ok k o12 y14 y24).ap e28)) (cutP (And.intro trivial (congrArg not e29)) [] (fix_MulDiv.c5p o27 y14) (((fix_MulDiv.c5_ok k o27 y14).ap e37)) (retP (And.intro trivial e39) (.one (.dp T3)) (y38 : Int)))))) (by kernel_rfl)⟩))))
theorem fix_MulDiv.ok (k : Nat) : FnOk PR 123 (fix_MulDiv.sp k) :=
  fn_ok (fix_MulDiv.cok k) hmix Try.func123 (code := fix_MulDiv.code) (by kernel_rfl) (by kernel_rfl) (by kernel_rfl) rfl (by kernel_rfl) (by kernel_rfl) (by kernel_rfl) (fun x => Nat.le_of_ble_eq_true (by kernel_rfl)) fun x y hy => (fix_MulDiv.way k x.1 x.2.1 x.2.2.1).ap hy

/-! tourney/fix.Mul -/
noncomputable def fix_Mul.code : Code := Func.cd Try.f106
def fix_Mul (k : Nat) (a0 : Int) (a1 : Int) : Option Int :=
  bnd (fix_MulDiv k a0 a1 65536) fun y1 =>
  some y1
noncomputable def fix_Mul.sp (k : Nat) : Go.Sx.Spec := ⟨T24, (.one (.dp T3)), fun x => fix_Mul k x.1 x.2.1, false⟩
noncomputable def fix_Mul.cx (k : Nat) : Go.Sx.Ctx := ⟨tys, [(123, fix_MulDiv.sp k)], eqs, 8, false⟩
theorem fix_Mul.cok (k : Nat) : CtxOk PR (fix_Mul.cx k) := ctx_ok tysOk eqsOk (FnsOk.cons (fix_MulDiv.ok k) FnsOk.nil)
theorem fix_Mul.way (k : Nat) (a0 : Int) (a1 : Int) : Owp (fix_Mul k a0 a1) fun y => ∃ answers cmds, exec PR (fix_Mul.cx k) fix_Mul.code 0 (entry T24 (a0, a1, ())).st answers (Ret (fix_Mul.cx k) Try.f106 cmds (.one (.dp T3)) y) := by
  unfold fix_Mul; exact
   Owp.bnd fun y1 e2 =>
   Owp.some (⟨[.res (.one (.dp T3)) y1], [], via (retP (And.intro trivial e2) (.one (.dp T3)) (y1 : Int)) (by kernel_rfl)⟩)
theorem fix_Mul.ok (k : Nat) : FnOk PR 106 (fix_Mul.sp k) :=
  fn_ok (fix_Mul.cok k) hmix Try.func106 (code := fix_Mul.code) (by kernel_rfl) (by kernel_rfl) (by kernel_rfl) rfl (by kernel_rfl) (by kernel_rfl) (by kernel_rfl) (fun x => Nat.le_of_ble_eq_true (by kernel_rfl)) fun x y hy => (fix_Mul.way k x.1 x.2.1).ap hy

/-! tourney/fix.Sub -/
noncomputable def fix_Sub.code : Code := Func.cd Try.f107
def fix_Sub (k : Nat) (a0 : Int) (a1 : Int) : Option Int :=
  bnd (fix_Clamp k a0) fun y1 =>
  bnd (fix_Clamp k a1) fun y3 =>
  bnd (fix_Clamp k (isub .i64 y1 y3)) fun y5 =>
  some y5
noncomputable def fix_Sub.sp (k : Nat) : Go.Sx.Spec := ⟨T24, (.one (.dp T3)), fun x => fix_Sub k x.1 x.2.1, false⟩
noncomputable def fix_Sub.cx (k : Nat) : Go.Sx.Ctx := ⟨tys, [(122, fix_Clamp.sp k)], eqs, 11, false⟩
theorem fix_Sub.cok (k : Nat) : CtxOk PR (fix_Sub.cx k) := ctx_ok tysOk eqsOk (FnsOk.cons (fix_Clamp.ok k) FnsOk.nil)
theorem fix_Sub.way (k : Nat) (a0 : Int) (a1 : Int) : Owp (fix_Sub k a0 a1) fun y => ∃ answers cmds, exec PR (fix_Sub.cx k) fix_Sub.code 0 (entry T24 (a0, a1, ())).st answers (Ret (fix_Sub.cx k) Try.f107 cmds (.one (.dp T3)) y) := by
  unfold fix_Sub; exact
   Owp.bnd fun y1 e2 =>
   Owp.bnd fun y3 e4 =>
   Owp.bnd fun y5 e6 =>
   Owp.some (⟨[.res (.one (.dp T3)) y1, .res (.one (.dp T3)) y3, .res (.one (.dp T3)) y5], [], via (retP (And.intro (And.intro (And.intro trivial e2) e4) e6) (.one (.dp T3)) (y5 : Int)) (by kernel_rfl)⟩)
theorem fix_Sub.ok (k : Nat) : FnOk PR 107 (fix_Sub.sp k) :=
  fn_ok (fix_Sub.cok k) hmix Try.func107 (code := fix_Sub.code) (by kernel_rfl) (by kernel_rfl) (by kernel_rfl) rfl (by kernel_rfl) (by kernel_rfl) (by kernel_rfl) (fun x => Nat.le_of_ble_eq_true (by kernel_rfl)) fun x y hy => (fix_Sub.way k x.1 x.2.1).ap hy

/-! tourney/fix.Div -/
noncomputable def fix_Div.code : Code := Func.cd Try.f121
def fix_Div (k : Nat) (a0 : Int) (a1 : Int) : Option (Int × Int) :=
  bif' (ieq a1 0)
  (some (0, 17))
  (bnd (fix_MulDiv k a0 65536 a1) fun y2 =>
   some (y2, 0))
noncomputable def fix_Div.sp (k : Nat) : Go.Sx.Spec := ⟨T24, (.more (.dp T3) (.one (.dp T3))), fun x => fix_Div k x.1 x.2.1, false⟩
noncomputable def fix_Div.cx (k : Nat) : Go.Sx.Ctx := ⟨tys, [(123, fix_MulDiv.sp k)], eqs, 11, false⟩
theorem fix_Div.cok (k : Nat) : CtxOk PR (fix_Div.cx k) := ctx_ok tysOk eqsOk (FnsOk.cons (fix_MulDiv.ok k) FnsOk.nil)
theorem fix_Div.way (k : Nat) (a0 : Int) (a1 : Int) : Owp (fix_Div k a0 a1) fun y => ∃ answers cmds, exec PR (fix_Div.cx k) fix_Div.code 0 (entry T24 (a0, a1, ())).st answers (Ret (fix_Div.cx k) Try.f121 cmds (.more (.dp T3) (.one (.dp T3))) y) := by
  unfold fix_Div; exact
   Owp.bif (fun e1 =>
   Owp.some (⟨[.dec true], [], via (retP (And.intro trivial e1) (.more (.dp T3) (.one (.dp T3))) (((0 : Int), (17 : Int)) : (Int × Int))) (by kernel_rfl)⟩)) (fun e1 =>
   Owp.bnd fun y2 e3 =>
    Owp.some (⟨[.dec false, .res (.one (.dp T3)) y2], [], via (retP (And.intro (And.intro trivial e1) e3) (.more (.dp T3) (.one (.dp T3))) ((y2, (0 : Int)) : (Int × Int))) (by kernel_rfl)⟩))
theorem fix_Div.ok (k : Nat) : FnOk PR 121 (fix_Div.sp k) :=
  fn_ok (fix_Div.cok k) hmix Try.func121 (code := fix_Div.code) (by kernel_rfl) (by kernel_rfl) (by kernel_rfl) rfl (by kernel_rfl) (by kernel_rfl) (by kernel_rfl) (fun x => Nat.le_of_ble_eq_true (by kernel_rfl)) fun x y hy => (fix_Div.way k x.1 x.2.1).ap hy

/-! tourney/vec.Add -/
noncomputable def vec_Add.code : Code := Func.cd Try.f66
def vec_Add (k : Nat) (a0 : V24) (a1 : V24) : Option V24 :=
  bnd (fix_Add k a0.1 a1.1) fun y1 =>
  bnd (fix_Add k a0.2.1 a1.2.1) fun y3 =>
  some (y1, y3, ())
noncomputable def vec_Add.sp (k : Nat) : Go.Sx.Spec := ⟨(.pair T24 (.pair T24 .unit)), (.one (.dp T24)), fun x => vec_Add k x.1 x.2.1, false⟩
noncomputable def vec_Add.cx (k : Nat) : Go.Sx.Ctx := ⟨tys, [(105, fix_Add.sp k)], eqs, 16, false⟩
theorem vec_Add.cok (k : Nat) : CtxOk PR (vec_Add.cx k) := ctx_ok tysOk eqsOk (FnsOk.cons (fix_Add.ok k) FnsOk.nil)
theorem vec_Add.way (k : Nat) (a0 : V24) (a1 : V24) : Owp (vec_Add k a0 a1) fun y => ∃ answers cmds, exec PR (vec_Add.cx k) vec_Add.code 0 (entry (.pair T24 (.pair T24 .unit)) (a0, a1, ())).st answers (Ret (vec_Add.cx k) Try.f66 cmds (.one (.dp T24)) y) := by
  unfold vec_Add; exact
   Owp.bnd fun y1 e2 =>
   Owp.bnd fun y3 e4 =>
   Owp.some (⟨[.res (.one (.dp T3)) y1, .res (.one (.dp T3)) y3], [], via (retP (And.intro (And.intro trivial e2) e4) (.one (.dp T24)) ((y1, y3, ()) : V24)) (by kernel_rfl)⟩)
theorem vec_Add.ok (k : Nat) : FnOk PR 66 (vec_Add.sp k) :=
  fn_ok (vec_Add.cok k) hmix Try.func66 (code := vec_Add.code) (by kernel_rfl) (by kernel_rfl) (by kernel_rfl) rfl (by kernel_rfl) (by kernel_rfl) (by kernel_rfl) (fun x => Nat.le_of_ble_eq_true (by kernel_rfl)) fun x y hy => (vec_Add.way k x.1 x.2.1).ap hy

/-! tourney/vec.Sub -/
noncomputable def vec_Sub.code : Code := Func.cd Try.f67
def vec_Sub (k : Nat) (a0 : V24) (a1 : V24) : Option V24 :=
  bnd (fix_Sub k a0.1 a1.1) fun y1 =>
  bnd (fix_Sub k a0.2.1 a1.2.1) fun y3 =>
  some (y1, y3, ())
noncomputable def vec_Sub.sp (k : Nat) : Go.Sx.Spec := ⟨(.pair T24 (.pair T24 .unit)), (.one (.dp T24)), fun x => vec_Sub k x.1 x.2.1, false⟩
noncomputable def vec_Sub.cx (k : Nat) : Go.Sx.Ctx := ⟨tys, [(107, fix_Sub.sp k)], eqs, 16, false⟩
theorem vec_Sub.cok (k : Nat) : CtxOk PR (vec_Sub.cx k) := ctx_ok tysOk eqsOk (FnsOk.cons (fix_Sub.ok k) FnsOk.nil)
theorem vec_Sub.way (k : Nat) (a0 : V24) (a1 : V24) : Owp (vec_Sub k a0 a1) fun y => ∃ answers cmds, exec PR (vec_Sub.cx k) vec_Sub.code 0 (entry (.pair T24 (.pair T24 .unit)) (a0, a1, ())).st answers (Ret (vec_Sub.cx k) Try.f67 cmds (.one (.dp T24)) y) := by
  unfold vec_Sub; exact
   Owp.bnd fun y1 e2 =>
   Owp.bnd fun y3 e4 =>
   Owp.some (⟨[.res (.one (.dp T3)) y1, .res (.one (.dp T3)) y3], [], via (retP (And.intro (And.intro trivial e2) e4) (.one (.dp T24)) ((y1, y3, ()) : V24)) (by kernel_rfl)⟩)
theorem vec_Sub.ok (k : Nat) : FnOk PR 67 (vec_Sub.sp k) :=
  fn_ok (vec_Sub.cok k) hmix Try.func67 (code := vec_Sub.code) (by kernel_rfl) (by kernel_rfl) (by kernel_rfl) rfl (by kernel_rfl) (by kernel_rfl) (by kernel_rfl) (fun x => Nat.le_of_ble_eq_true (by kernel_rfl)) fun x y hy => (vec_Sub.way k x.1 x.2.1).ap hy

/-! tourney/vec.Cross -/
noncomputable def vec_Cross.code : Code := Func.cd Try.f103
def vec_Cross (k : Nat) (a0 : V24) (a1 : V24) : Option Int :=
  bnd (fix_Mul k a0.1 a1.2.1) fun y1 =>
  bnd (fix_Mul k a0.2.1 a1.1) fun y3 =>
  bnd (fix_Sub k y1 y3) fun y5 =>
  some y5
noncomputable def vec_Cross.sp (k : Nat) : Go.Sx.Spec := ⟨(.pair T24 (.pair T24 .unit)), (.one (.dp T3)), fun x => vec_Cross k x.1 x.2.1, false⟩
noncomputable def vec_Cross.cx (k : Nat) : Go.Sx.Ctx := ⟨tys, [(106, fix_Mul.sp k), (107, fix_Sub.sp k)], eqs, 16, false⟩
theorem vec_Cross.cok (k : Nat) : CtxOk PR (vec_Cross.cx k) := ctx_ok tysOk eqsOk (FnsOk.cons (fix_Mul.ok k) (FnsOk.cons (fix_Sub.ok k) FnsOk.nil))
theorem vec_Cross.way (k : Nat) (a0 : V24) (a1 : V24) : Owp (vec_Cross k a0 a1) fun y => ∃ answers cmds, exec PR (vec_Cross.cx k) vec_Cross.code 0 (entry (.pair T24 (.pair T24 .unit)) (a0, a1, ())).st answers (Ret (vec_Cross.cx k) Try.f103 cmds (.one (.dp T3)) y) := by
  unfold vec_Cross; exact
   Owp.bnd fun y1 e2 =>
   Owp.bnd fun y3 e4 =>
   Owp.bnd fun y5 e6 =>
   Owp.some (⟨[.res (.one (.dp T3)) y1, .res (.one (.dp T3)) y3, .res (.one (.dp T3)) y5], [], via (retP (And.intro (And.intro (And.intro trivial e2) e4) e6) (.one (.dp T3)) (y5 : Int)) (by kernel_rfl)⟩)
theorem vec_Cross.ok (k : Nat) : FnOk PR 103 (vec_Cross.sp k) :=
  fn_ok (vec_Cross.cok k) hmix Try.func103 (code := vec_Cross.code) (by kernel_rfl) (by kernel_rfl) (by kernel_rfl) rfl (by kernel_rfl) (by kernel_rfl) (by kernel_rfl) (fun x => Nat.le_of_ble_eq_true (by kernel_rfl)) fun x y hy => (vec_Cross.way k x.1 x.2.1).ap hy

/-! tourney/tourlaw2.square -/
noncomputable def tourlaw2_square.code : Code := Func.cd Try.f47
def tourlaw2_square (k : Nat) (a0 : Int) (a1 : Int) (a2 : Int) : Option (List V24) :=
  some [((imul .i64 a0 65536), (imul .i64 a1 65536), ()), ((iadd .i64 (imul .i64 a0 65536) (imul .i64 a2 65536)), (imul .i64 a1 65536), ()), ((iadd .i64 (imul .i64 a0 65536) (imul .i64 a2 65536)), (iadd .i64 (imul .i64 a1 65536) (imul .i64 a2 65536)), ()), ((imul .i64 a0 65536), (iadd .i64 (imul .i64 a1 65536) (imul .i64 a2 65536)), ())]
noncomputable def tourlaw2_square.sp (k : Nat) : Go.Sx.Spec := ⟨(.pair T3 T24), (.one (.ow T24 24)), fun x => tourlaw2_square k x.1 x.2.1 x.2.2.1, false⟩
noncomputable def tourlaw2_square.cx (k : Nat) : Go.Sx.Ctx := ⟨tys, [], eqs, 34, false⟩
theorem tourlaw2_square.cok (k : Nat) : CtxOk PR (tourlaw2_square.cx k) := ctx_ok tysOk eqsOk FnsOk.nil
theorem tourlaw2_square.way (k : Nat) (a0 : Int) (a1 : Int) (a2 : Int) : Owp (tourlaw2_square k a0 a1 a2) fun y => ∃ answers cmds, exec PR (tourlaw2_square.cx k) tourlaw2_square.code 0 (entry (.pair T3 T24) (a0, a1, a2, ())).st answers (Ret (tourlaw2_square.cx k) Try.f47 cmds (.one (.ow T24 24)) y) := by
  unfold tourlaw2_square; exact
   Owp.some (⟨[.dec true], [], via (retP trivial (.one (.ow T24 24)) ([((imul .i64 a0 (65536 : Int)), (imul .i64 a1 (65536 : Int)), ()), ((iadd .i64 (imul .i64 a0 (65536 : Int)) (imul .i64 a2 (65536 : Int))), (imul .i64 a1 (65536 : Int)), ()), ((iadd .i64 (imul .i64 a0 (65536 : Int)) (imul .i64 a2 (65536 : Int))), (iadd .i64 (imul .i64 a1 (65536 : Int)) (imul .i64 a2 (65536 : Int))), ()), ((imul .i64 a0 (65536 : Int)), (iadd .i64 (imul .i64 a1 (65536 : Int)) (imul .i64 a2 (65536 : Int))), ())] : (List V24))) (by kernel_rfl)⟩)
theorem tourlaw2_square.ok (k : Nat) : FnOk PR 47 (tourlaw2_square.sp k) :=
  fn_ok (tourlaw2_square.cok k) hmix Try.func47 (code := tourlaw2_square.code) (by kernel_rfl) (by kernel_rfl) (by kernel_rfl) rfl (by kernel_rfl) (by kernel_rfl) (by kernel_rfl) (fun x => Nat.le_of_ble_eq_true (by kernel_rfl)) fun x y hy => (tourlaw2_square.way k x.1 x.2.1 x.2.2.1).ap hy

/-! tourney/tourlaw2.polyBegun -/
noncomputable def tourlaw2_polyBegun.code : Code := Func.cd Try.f15
def tourlaw2_polyBegun (k : Nat) : Option Bool :=
  bnd (tourlaw2_square k 0 0 2) fun y1 =>
  bnd (poly_Area k y1) fun y3 =>
  bif' (ieq y3.2 0)
  (bif' (ieq y3.1 34359738368)
   (bnd (poly_Check k [(0, 0, ())]) fun y7 =>
    bif' (ieq y7 3)
    (bnd (tourlaw2_square k 0 0 2) fun y10 =>
     bnd (poly_Support k y10 (1, 1, ())) fun y12 =>
     some (ieq y12 2))
    (some false))
   (some false))
  (some false)
noncomputable def tourlaw2_polyBegun.sp (k : Nat) : Go.Sx.Spec := ⟨.unit, (.one (.dp T4)), fun x => tourlaw2_polyBegun k, false⟩
noncomputable def tourlaw2_polyBegun.cx (k : Nat) : Go.Sx.Ctx := ⟨tys, [(47, tourlaw2_square.sp k), (17, poly_Area.sp k), (18, poly_Check.sp k), (20, poly_Support.sp k)], eqs, 26, false⟩
theorem tourlaw2_polyBegun.cok (k : Nat) : CtxOk PR (tourlaw2_polyBegun.cx k) := ctx_ok tysOk eqsOk (FnsOk.cons (tourlaw2_square.ok k) (FnsOk.cons (poly_Area.ok k) (FnsOk.cons (poly_Check.ok k) (FnsOk.cons (poly_Support.ok k) FnsOk.nil))))
theorem tourlaw2_polyBegun.way (k : Nat) : Owp (tourlaw2_polyBegun k) fun y => ∃ answers cmds, exec PR (tourlaw2_polyBegun.cx k) tourlaw2_polyBegun.code 0 (entry .unit ()).st answers (Ret (tourlaw2_polyBegun.cx k) Try.f15 cmds (.one (.dp T4)) y) := by
  unfold tourlaw2_polyBegun; exact
   Owp.bnd fun y1 e2 =>
   Owp.bnd fun y3 e4 =>
   Owp.bif (fun e5 =>
   Owp.bif (fun e6 =>
    Owp.bnd fun y7 e8 =>
     Owp.bif (fun e9 =>
     Owp.bnd fun y10 e11 =>
      Owp.bnd fun y12 e13 =>
      Owp.some (⟨[.res (.one (.ow T24 24)) y1, .res (.more (.dp T3) (.one (.dp T3))) y3, .dec true, .dec true, .dec true, .dec true, .dec true, .dec true, .dec true, .res (.one (.dp T3)) y7, .dec true, .dec true, .dec true, .res (.one (.ow T24 24)) y10, .dec true, .dec true, .res (.one (.dp T3)) y12, .dec true, .dec true], [], via (retP (And.intro (And.intro (And.intro (And.intro (And.intro (And.intro (And.intro (And.intro (And.intro (And.intro (And.intro (And.intro (And.intro (And.intro (And.intro trivial e2) e4) e5) e5) e5) e6) e6) (And.intro e6 e8)) e6) e6) (And.intro e9 e11)) e9) (And.intro e9 e13)) e9) e9) (.one (.dp T4)) ((ieq y12 (2 : Int)) : Bool)) (by kernel_rfl)⟩)) (fun e9 =>
     Owp.some (⟨[.res (.one (.ow T24 24)) y1, .res (.more (.dp T3) (.one (.dp T3))) y3, .dec true, .dec true, .dec true, .dec true, .dec true, .dec true, .dec true, .res (.one (.dp T3)) y7, .dec true, .dec true, .dec false, .dec true, .dec false, .dec false, .dec true, .dec false, .dec false], [], via (retP (And.intro (And.intro (And.intro (And.intro (And.intro (And.intro (And.intro (And.intro (And.intro (And.intro (And.intro (And.intro (And.intro (And.intro (And.intro trivial e2) e4) e5) e5) e5) e6) e6) (And.intro e6 e8)) e6) e6) e9) e9) e9) e9) e9) (.one (.dp T4)) (false : Bool)) (by kernel_rfl)⟩))) (fun e6 =>
    Owp.some (⟨[.res (.one (.ow T24 24)) y1, .res (.more (.dp T3) (.one (.dp T3))) y3, .dec true, .dec true, .dec true, .dec false, .dec false, .dec true, .dec false, .dec true, .dec false, .dec false, .dec false, .dec true, .dec false, .dec false, .dec true, .dec false, .dec false], [], via (retP (And.intro (And.intro (And.intro (And.intro (And.intro (And.intro (And.intro (And.intro (And.intro (And.intro (And.intro (And.intro (And.intro (And.intro (And.intro trivial e2) e4) e5) e5) e5) e6) e6) e6) e6) e6) ff) ff) ff) ff) ff) (.one (.dp T4)) (false : Bool)) (by kernel_rfl)⟩))) (fun e5 =>
   Owp.some (⟨[.res (.one (.ow T24 24)) y1, .res (.more (.dp T3) (.one (.dp T3))) y3, .dec false, .dec false, .dec false, .dec false, .dec false, .dec true, .dec false, .dec true, .dec false, .dec false, .dec false, .dec true, .dec false, .dec false, .dec true, .dec false, .dec false], [], via (retP (And.intro (And.intro (And.intro (And.intro (And.intro (And.intro (And.intro (And.intro (And.intro (And.intro (And.intro (And.intro (And.intro (And.intro (And.intro trivial e2) e4) e5) e5) e5) ff) ff) ff) ff) ff) ff) ff) ff) ff) ff) (.one (.dp T4)) (false : Bool)) (by kernel_rfl)⟩))
theorem tourlaw2_polyBegun.ok (k : Nat) : FnOk PR 15 (tourlaw2_polyBegun.sp k) :=
  fn_ok (tourlaw2_polyBegun.cok k) hmix Try.func15 (code := tourlaw2_polyBegun.code) (by kernel_rfl) (by kernel_rfl) (by kernel_rfl) rfl (by kernel_rfl) (by kernel_rfl) (by kernel_rfl) (fun x => Nat.le_of_ble_eq_true (by kernel_rfl)) fun x y hy => (tourlaw2_polyBegun.way k).ap hy

/-! tourney/tourref2.coord -/
noncomputable def tourref2_coord.code : Code := Func.cd Try.f70
def tourref2_coord (k : Nat) (a0 : V24) (a1 : Int) : Option Bool :=
  bif' (ige a0.1 (ineg .i64 a1))
  (bif' (ile a0.1 a1)
   (bif' (ige a0.2.1 (ineg .i64 a1))
    (some (ile a0.2.1 a1))
    (some false))
   (some false))
  (some false)
noncomputable def tourref2_coord.sp (k : Nat) : Go.Sx.Spec := ⟨(.pair T24 (.pair T3 .unit)), (.one (.dp T4)), fun x => tourref2_coord k x.1 x.2.1, false⟩
noncomputable def tourref2_coord.cx (k : Nat) : Go.Sx.Ctx := ⟨tys, [], eqs, 29, false⟩
theorem tourref2_coord.cok (k : Nat) : CtxOk PR (tourref2_coord.cx k) := ctx_ok tysOk eqsOk FnsOk.nil
theorem tourref2_coord.way (k : Nat) (a0 : V24) (a1 : Int) : Owp (tourref2_coord k a0 a1) fun y => ∃ answers cmds, exec PR (tourref2_coord.cx k) tourref2_coord.code 0 (entry (.pair T24 (.pair T3 .unit)) (a0, a1, ())).st answers (Ret (tourref2_coord.cx k) Try.f70 cmds (.one (.dp T4)) y) := by
  unfold tourref2_coord; exact
   Owp.bif (fun e1 =>
   Owp.bif (fun e2 =>
    Owp.bif (fun e3 =>
     Owp.some (⟨[.dec true, .dec true, .dec true, .dec true, .dec true, .dec true, .dec true, .dec true, .dec true, .dec true, .dec true, .dec true, .dec true, .dec true, .dec true, .dec true], [], via (retP (And.intro (And.intro (And.intro (And.intro (And.intro (And.intro (And.intro (And.intro (And.intro (And.intro (And.intro (And.intro (And.intro (And.intro (And.intro (And.intro trivial e1) e1) e1) e1) e1) e2) e2) e2) e2) e2) e2) e3) e3) e3) e3) e3) (.one (.dp T4)) ((ile a0.2.1 a1) : Bool)) (by kernel_rfl)⟩)) (fun e3 =>
     Owp.some (⟨[.dec true, .dec true, .dec true, .dec true, .dec true, .dec true, .dec true, .dec true, .dec true, .dec true, .dec true, .dec false, .dec false, .dec false, .dec false, .dec false], [], via (retP (And.intro (And.intro (And.intro (And.intro (And.intro (And.intro (And.intro (And.intro (And.intro (And.intro (And.intro (And.intro (And.intro (And.intro (And.intro (And.intro trivial e1) e1) e1) e1) e1) e2) e2) e2) e2) e2) e2) e3) e3) e3) e3) e3) (.one (.dp T4)) (false : Bool)) (by kernel_rfl)⟩))) (fun e2 =>
    Owp.some (⟨[.dec true, .dec true, .dec true, .dec true, .dec true, .dec false, .dec false, .dec false, .dec false, .dec false, .dec false, .dec false, .dec false, .dec false, .dec false, .dec false], [], via (retP (And.intro (And.intro (And.intro (And.intro (And.intro (And.intro (And.intro (And.intro (And.intro (And.intro (And.intro (And.intro (And.intro (And.intro (And.intro (And.intro trivial e1) e1) e1) e1) e1) e2) e2) e2) e2) e2) e2) ff) ff) ff) ff) ff) (.one (.dp T4)) (false : Bool)) (by kernel_rfl)⟩))) (fun e1 =>
   Owp.some (⟨[.dec false, .dec false, .dec false, .dec false, .dec false, .dec false, .dec false, .dec false, .dec false, .dec false, .dec false, .dec false, .dec false, .dec false, .dec false, .dec false], [], via (retP (And.intro (And.intro (And.intro (And.intro (And.intro (And.intro (And.intro (And.intro (And.intro (And.intro (And.intro (And.intro (And.intro (And.intro (And.intro (And.intro trivial e1) e1) e1) e1) e1) ff) ff) ff) ff) ff) ff) ff) ff) ff) ff) ff) (.one (.dp T4)) (false : Bool)) (by kernel_rfl)⟩))
theorem tourref2_coord.ok (k : Nat) : FnOk PR 70 (tourref2_coord.sp k) :=
  fn_ok (tourref2_coord.cok k) hmix Try.func70 (code := tourref2_coord.code) (by kernel_rfl) (by kernel_rfl) (by kernel_rfl) rfl (by kernel_rfl) (by kernel_rfl) (by kernel_rfl) (fun x => Nat.le_of_ble_eq_true (by kernel_rfl)) fun x y hy => (tourref2_coord.way k x.1 x.2.1).ap hy

/-! tourney/tourref2.sub -/
noncomputable def tourref2_sub.code : Code := Func.cd Try.f91
def tourref2_sub (k : Nat) (a0 : V24) (a1 : V24) : Option V24 :=
  some ((isub .i64 a0.1 a1.1), (isub .i64 a0.2.1 a1.2.1), ())
noncomputable def tourref2_sub.sp (k : Nat) : Go.Sx.Spec := ⟨(.pair T24 (.pair T24 .unit)), (.one (.dp T24)), fun x => tourref2_sub k x.1 x.2.1, false⟩
noncomputable def tourref2_sub.cx (k : Nat) : Go.Sx.Ctx := ⟨tys, [], eqs, 16, false⟩
theorem tourref2_sub.cok (k : Nat) : CtxOk PR (tourref2_sub.cx k) := ctx_ok tysOk eqsOk FnsOk.nil
theorem tourref2_sub.way (k : Nat) (a0 : V24) (a1 : V24) : Owp (tourref2_sub k a0 a1) fun y => ∃ answers cmds, exec PR (tourref2_sub.cx k) tourref2_sub.code 0 (entry (.pair T24 (.pair T24 .unit)) (a0, a1, ())).st answers (Ret (tourref2_sub.cx k) Try.f91 cmds (.one (.dp T24)) y) := by
  unfold tourref2_sub; exact
   Owp.some (⟨[], [], via (retP trivial (.one (.dp T24)) (((isub .i64 a0.1 a1.1), (isub .i64 a0.2.1 a1.2.1), ()) : V24)) (by kernel_rfl)⟩)
theorem tourref2_sub.ok (k : Nat) : FnOk PR 91 (tourref2_sub.sp k) :=
  fn_ok (tourref2_sub.cok k) hmix Try.func91 (code := tourref2_sub.code) (by kernel_rfl) (by kernel_rfl) (by kernel_rfl) rfl (by kernel_rfl) (by kernel_rfl) (by kernel_rfl) (fun x => Nat.le_of_ble_eq_true (by kernel_rfl)) fun x y hy => (tourref2_sub.way k x.1 x.2.1).ap hy

/-! tourney/tourref2.Cross -/
noncomputable def tourref2_Cross.code : Code := Func.cd Try.f44
def tourref2_Cross (k : Nat) (a0 : V24) (a1 : V24) : Option (List Int) :=
  bnd (tourref2_Of k a0.1) fun y1 =>
  bnd (tourref2_Of k a1.2.1) fun y3 =>
  bnd (tourref2_Big_Mul k y1 y3) fun y5 =>
  bnd (tourref2_Of k a0.2.1) fun y7 =>
  bnd (tourref2_Of k a1.1) fun y9 =>
  bnd (tourref2_Big_Mul k y7 y9) fun y11 =>
  bnd (tourref2_Big_Sub k y5 y11) fun y13 =>
  some y13
noncomputable def tourref2_Cross.sp (k : Nat) : Go.Sx.Spec := ⟨(.pair T24 (.pair T24 .unit)), (.one (.dp T52)), fun x => tourref2_Cross k x.1 x.2.1, false⟩
noncomputable def tourref2_Cross.cx (k : Nat) : Go.Sx.Ctx := ⟨tys, [(36, tourref2_Of.sp k), (37, tourref2_Big_Mul.sp k), (40, tourref2_Big_Sub.sp k)], eqs, 20, false⟩
theorem tourref2_Cross.cok (k : Nat) : CtxOk PR (tourref2_Cross.cx k) := ctx_ok tysOk eqsOk (FnsOk.cons (tourref2_Of.ok k) (FnsOk.cons (tourref2_Big_Mul.ok k) (FnsOk.cons (tourref2_Big_Sub.ok k) FnsOk.nil)))
theorem tourref2_Cross.way (k : Nat) (a0 : V24) (a1 : V24) : Owp (tourref2_Cross k a0 a1) fun y => ∃ answers cmds, exec PR (tourref2_Cross.cx k) tourref2_Cross.code 0 (entry (.pair T24 (.pair T24 .unit)) (a0, a1, ())).st answers (Ret (tourref2_Cross.cx k) Try.f44 cmds (.one (.dp T52)) y) := by
  unfold tourref2_Cross; exact
   Owp.bnd fun y1 e2 =>
   Owp.bnd fun y3 e4 =>
   Owp.bnd fun y5 e6 =>
   Owp.bnd fun y7 e8 =>
   Owp.bnd fun y9 e10 =>
   Owp.bnd fun y11 e12 =>
   Owp.bnd fun y13 e14 =>
   Owp.some (⟨[.res (.one (.dp T52)) y1, .res (.one (.dp T52)) y3, .res (.one (.dp T52)) y5, .res (.one (.dp T52)) y7, .res (.one (.dp T52)) y9, .res (.one (.dp T52)) y11, .res (.one (.dp T52)) y13], [], via (retP (And.intro (And.intro (And.intro (And.intro (And.intro (And.intro (And.intro trivial e2) e4) e6) e8) e10) e12) e14) (.one (.dp T52)) (y13 : (List Int))) (by kernel_rfl)⟩)
theorem tourref2_Cross.ok (k : Nat) : FnOk PR 44 (tourref2_Cross.sp k) :=
  fn_ok (tourref2_Cross.cok k) hmix Try.func44 (code := tourref2_Cross.code) (by kernel_rfl) (by kernel_rfl) (by kernel_rfl) rfl (by kernel_rfl) (by kernel_rfl) (by kernel_rfl) (fun x => Nat.le_of_ble_eq_true (by kernel_rfl)) fun x y hy => (tourref2_Cross.way k x.1 x.2.1).ap hy

/-! tourney/tourref2.left -/
noncomputable def tourref2_left.code : Code := Func.cd Try.f71
def tourref2_left (k : Nat) (a0 : V24) (a1 : V24) (a2 : V24) : Option Int :=
  bnd (tourref2_sub k a1 a0) fun y1 =>
  bnd (tourref2_sub k a2 a0) fun y3 =>
  bnd (tourref2_Cross k y1 y3) fun y5 =>
  bnd (tourref2_Big_Cmp k y5 (List.replicate 8 0)) fun y7 =>
  some y7
noncomputable def tourref2_left.sp (k : Nat) : Go.Sx.Spec := ⟨(.pair T24 (.pair T24 (.pair T24 .unit))), (.one (.dp T3)), fun x => tourref2_left k x.1 x.2.1 x.2.2.1, false⟩
noncomputable def tourref2_left.cx (k : Nat) : Go.Sx.Ctx := ⟨tys, [(91, tourref2_sub.sp k), (44, tourref2_Cross.sp k), (41, tourref2_Big_Cmp.sp k)], eqs, 16, false⟩
theorem tourref2_left.cok (k : Nat) : CtxOk PR (tourref2_left.cx k) := ctx_ok tysOk eqsOk (FnsOk.cons (tourref2_sub.ok k) (FnsOk.cons (tourref2_Cross.ok k) (FnsOk.cons (tourref2_Big_Cmp.ok k) FnsOk.nil)))
theorem tourref2_left.way (k : Nat) (a0 : V24) (a1 : V24) (a2 : V24) : Owp (tourref2_left k a0 a1 a2) fun y => ∃ answers cmds, exec PR (tourref2_left.cx k) tourref2_left.code 0 (entry (.pair T24 (.pair T24 (.pair T24 .unit))) (a0, a1, a2, ())).st answers (Ret (tourref2_left.cx k) Try.f71 cmds (.one (.dp T3)) y) := by
  unfold tourref2_left; exact
   Owp.bnd fun y1 e2 =>
   Owp.bnd fun y3 e4 =>
   Owp.bnd fun y5 e6 =>
   Owp.bnd fun y7 e8 =>
   Owp.some (⟨[.res (.one (.dp T24)) y1, .res (.one (.dp T24)) y3, .res (.one (.dp T52)) y5, .res (.one (.dp T3)) y7], [], via (retP (And.intro (And.intro (And.intro (And.intro trivial e2) e4) e6) e8) (.one (.dp T3)) (y7 : Int)) (by kernel_rfl)⟩)
theorem tourref2_left.ok (k : Nat) : FnOk PR 71 (tourref2_left.sp k) :=
  fn_ok (tourref2_left.cok k) hmix Try.func71 (code := tourref2_left.code) (by kernel_rfl) (by kernel_rfl) (by kernel_rfl) rfl (by kernel_rfl) (by kernel_rfl) (by kernel_rfl) (fun x => Nat.le_of_ble_eq_true (by kernel_rfl)) fun x y hy => (tourref2_left.way k x.1 x.2.1 x.2.2.1).ap hy

/-! tourney/tourref2.Poly -/
noncomputable def tourref2_Poly.code : Code := Func.cd Try.f16
def tourref2_Poly.c1 (k : Nat) (a0 : (List V24)) : Nat → Int → Option (Unit ⊕ Unit)
  | 0, _ => none
  | n + 1, v3 =>
   bif' (ilt v3 (len a0))
   (req (inL v3 a0) <|
    bnd (tourref2_coord k (el Z24 a0 v3) 65536000) fun y6 =>
    bif' y6
    (tourref2_Poly.c1 k a0 n (iadd .i64 v3 1))
    (some (.inl ())))
   (some (.inr ()))
def tourref2_Poly.c4 (k : Nat) (a0 : (List V24)) (v15 : Int) (v17 : Int) : Nat → Int → Option (Unit ⊕ Unit)
  | 0, _ => none
  | n + 1, v19 =>
   bif' (ilt v19 (len a0))
   (req (inL v15 a0) <|
    req (inL v17 a0) <|
    req (inL v19 a0) <|
    bnd (tourref2_left k (el Z24 a0 v15) (el Z24 a0 v17) (el Z24 a0 v19)) fun y24 =>
    bif' (ile y24 0)
    (some (.inl ()))
    (tourref2_Poly.c4 k a0 v15 v17 n (iadd .i64 v19 1)))
   (some (.inr ()))
def tourref2_Poly.c3 (k : Nat) (a0 : (List V24)) (v15 : Int) : Nat → Int → Option (Unit ⊕ Unit)
  | 0, _ => none
  | n + 1, v17 =>
   bif' (ilt v17 (len a0))
   (bnd (tourref2_Poly.c4 k a0 v15 v17 k (iadd .i64 v17 1)) fun o27 =>
    two o27 (fun y29 =>
    some (.inl ())) (fun y31 =>
    tourref2_Poly.c3 k a0 v15 n (iadd .i64 v17 1)))
   (some (.inr ()))
def tourref2_Poly.c2 (k : Nat) (a0 : (List V24)) : Nat → Int → Option (Unit ⊕ Unit)
  | 0, _ => none
  | n + 1, v15 =>
   bif' (ilt v15 (len a0))
   (bnd (tourref2_Poly.c3 k a0 v15 k (iadd .i64 v15 1)) fun o33 =>
    two o33 (fun y35 =>
    some (.inl ())) (fun y37 =>
    tourref2_Poly.c2 k a0 n (iadd .i64 v15 1)))
   (some (.inr ()))
def tourref2_Poly (k : Nat) (a0 : (List V24)) : Option Int :=
  bif' (igt (len a0) 8)
  (some 2)
  (bif' (ilt (len a0) 3)
   (some 3)
   (bnd (tourref2_Poly.c1 k a0 k 0) fun o9 =>
    two o9 (fun y11 =>
    some 1) (fun y13 =>
    bnd (tourref2_Poly.c2 k a0 k 0) fun o39 =>
     two o39 (fun y41 =>
     some 3) (fun y43 =>
     some 0))))
noncomputable def tourref2_Poly.sp (k : Nat) : Go.Sx.Spec := ⟨(.pair T22 .unit), (.one (.dp T3)), fun x => tourref2_Poly k x.1, false⟩
noncomputable def tourref2_Poly.cx (k : Nat) : Go.Sx.Ctx := ⟨tys, [(70, tourref2_coord.sp k), (71, tourref2_left.sp k)], eqs, 60, false⟩
theorem tourref2_Poly.cok (k : Nat) : CtxOk PR (tourref2_Poly.cx k) := ctx_ok tysOk eqsOk (FnsOk.cons (tourref2_coord.ok k) (FnsOk.cons (tourref2_left.ok k) FnsOk.nil))
noncomputable def tourref2_Poly.c1p (a0 : (List V24)) (v3 : Int) : SL := ⟨[(0, (.val T22 a0)), (3, (.val T3 (len a0))), (17, (.val T22 a0)), (18, (.val T3 (len a0))), (19, (.val T3 v3))], []⟩
noncomputable def tourref2_Poly.c1q (a0 : (List V24)) (o : Unit ⊕ Unit) : SL := (fun o => two o (fun v => ⟨[(2, (.val T3 (1 : Int)))], []⟩) (fun v => ⟨[(0, (.val T22 a0)), (3, (.val T3 (len a0)))], []⟩)) o
noncomputable def tourref2_Poly.c1x (o : Unit ⊕ Unit) : Ex := (fun o => two o (fun _ => .ret) (fun _ => (.exit 1))) o
noncomputable def tourref2_Poly.c1n (o : Unit ⊕ Unit) : Nat := (fun o => two o (fun _ => 0) (fun _ => 0)) o
theorem tourref2_Poly.c1_ok (k : Nat) (a0 : (List V24)) : ∀ (n : Nat) (v3 : Int), Owp (tourref2_Poly.c1 k a0 n v3) fun o => LTriple PR (tourref2_Poly.cx k) (sub tourref2_Poly.code [1, 1, 1, 0, 1, 0, 0]) 0 (tourref2_Poly.c1p a0 v3) (tourref2_Poly.c1x o) (tourref2_Poly.c1n o) (tourref2_Poly.c1q a0 o)
  | 0, _ => fun _ h => nomatch h
  | n + 1, v3 => Owp.of (tourref2_Poly.c1.eq_2 ..) (
   Owp.bif (fun e4 =>
   Owp.req fun h5 =>
    Owp.bnd fun y6 e7 =>
    Owp.bif (fun e8 =>
    fun y hy => loop_back (tourref2_Poly.cok k) hmix 0 (tourref2_Poly.c1p a0 (iadd .i64 v3 (1 : Int))) [.dec true, .res (.one (.dp T4)) y6, .dec false] [] [] (via (finP (And.intro (And.intro (And.intro (And.intro trivial e4) h5) e7) (congrArg not e8)) .normal [] (tourref2_Poly.c1p a0 (iadd .i64 v3 (1 : Int)))) (by kernel_rfl)) ((tourref2_Poly.c1_ok k a0 n (iadd .i64 v3 (1 : Int))).ap hy)) (fun e8 =>
    Owp.some (loop_exit (tourref2_Poly.cok k) hmix [.dec true, .res (.one (.dp T4)) y6, .dec true] [] [] exne_ret (via (finP (And.intro (And.intro (And.intro (And.intro trivial e4) h5) e7) (congrArg not e8)) .ret [] (tourref2_Poly.c1q a0 (.inl ()))) (by kernel_rfl))))) (fun e4 =>
   Owp.some (loop_exit (tourref2_Poly.cok k) hmix [.dec false] [] [] (exne 1) (via (finP (And.intro trivial e4) (.exit 1) [] (tourref2_Poly.c1q a0 (.inr ()))) (by kernel_rfl)))))
noncomputable def tourref2_Poly.c4p (a0 : (List V24)) (v15 : Int) (v17 : Int) (v19 : Int) : SL := ⟨[(0, (.val T22 a0)), (3, (.val T3 (len a0))), (6, (.val T3 v15)), (7, (.val T3 v17)), (8, (.val T3 v19)), (27, (.val T3 (len a0))), (28, (.val T3 v15))], []⟩
noncomputable def tourref2_Poly.c4q (a0 : (List V24)) (v15 : Int) (v17 : Int) (o : Unit ⊕ Unit) : SL := (fun o => two o (fun v => ⟨[(2, (.val T3 (3 : Int)))], []⟩) (fun v => ⟨[(0, (.val T22 a0)), (3, (.val T3 (len a0))), (6, (.val T3 v15)), (7, (.val T3 v17)), (27, (.val T3 (len a0))), (28, (.val T3 v15))], []⟩)) o
noncomputable def tourref2_Poly.c4x (o : Unit ⊕ Unit) : Ex := (fun o => two o (fun _ => .ret) (fun _ => (.exit 7))) o
noncomputable def tourref2_Poly.c4n (o : Unit ⊕ Unit) : Nat := (fun o => two o (fun _ => 0) (fun _ => 0)) o
theorem tourref2_Poly.c4_ok (k : Nat) (a0 : (List V24)) (v15 : Int) (v17 : Int) : ∀ (n : Nat) (v19 : Int), Owp (tourref2_Poly.c4 k a0 v15 v17 n v19) fun o => LTriple PR (tourref2_Poly.cx k) (sub tourref2_Poly.code [1, 1, 1, 1, 0, 1, 0, 0, 1, 1, 0, 0, 1, 1, 0, 0, 1, 0, 0, 1, 0, 0]) 0 (tourref2_Poly.c4p a0 v15 v17 v19) (tourref2_Poly.c4x o) (tourref2_Poly.c4n o) (tourref2_Poly.c4q a0 v15 v17 o)
  | 0, _ => fun _ h => nomatch h
  | n + 1, v19 => Owp.of (tourref2_Poly.c4.eq_2 ..) (
   Owp.bif (fun e20 =>
   Owp.req fun h21 =>
    Owp.req fun h22 =>
    Owp.req fun h23 =>
    Owp.bnd fun y24 e25 =>
    Owp.bif (fun e26 =>
    Owp.some (loop_exit (tourref2_Poly.cok k) hmix [.dec true, .res (.one (.dp T3)) y24, .dec true] [] [] exne_ret (via (finP (And.intro (And.intro (And.intro (And.intro (And.intro (And.intro trivial e20) h21) h22) h23) e25) e26) .ret [] (tourref2_Poly.c4q a0 v15 v17 (.inl ()))) (by kernel_rfl)))) (fun e26 =>
    fun y hy => loop_back (tourref2_Poly.cok k) hmix 0 (tourref2_Poly.c4p a0 v15 v17 (iadd .i64 v19 (1 : Int))) [.dec true, .res (.one (.dp T3)) y24, .dec false] [] [] (via (finP (And.intro (And.intro (And.intro (And.intro (And.intro (And.intro trivial e20) h21) h22) h23) e25) e26) .normal [] (tourref2_Poly.c4p a0 v15 v17 (iadd .i64 v19 (1 : Int)))) (by kernel_rfl)) ((tourref2_Poly.c4_ok k a0 v15 v17 n (iadd .i64 v19 (1 : Int))).ap hy))) (fun e20 =>
   Owp.some (loop_exit (tourref2_Poly.cok k) hmix [.dec false] [] [] (exne 7) (via (finP (And.intro trivial e20) (.exit 7) [] (tourref2_Poly.c4q a0 v15 v17 (.inr ()))) (by kernel_rfl)))))
noncomputable def tourref2_Poly.c3p (a0 : (List V24)) (v15 : Int) (v17 : Int) : SL := ⟨[(0, (.val T22 a0)), (3, (.val T3 (len a0))), (6, (.val T3 v15)), (7, (.val T3 v17)), (27, (.val T3 (len a0))), (28, (.val T3 v15))], []⟩
noncomputable def tourref2_Poly.c3q (a0 : (List V24)) (v15 : Int) (o : Unit ⊕ Unit) : SL := (fun o => two o (fun v => ⟨[(2, (.val T3 (3 : Int)))], []⟩) (fun v => ⟨[(0, (.val T22 a0)), (3, (.val T3 (len a0))), (27, (.val T3 (len a0))), (28, (.val T3 v15))], []⟩)) o
noncomputable def tourref2_Poly.c3x (o : Unit ⊕ Unit) : Ex := (fun o => two o (fun _ => .ret) (fun _ => (.exit 5))) o
noncomputable def tourref2_Poly.c3n (o : Unit ⊕ Unit) : Nat := (fun o => two o (fun _ => 0) (fun _ => 0)) o
theorem tourref2_Poly.c3_ok (k : Nat) (a0 : (List V24)) (v15 : Int) : ∀ (n : Nat) (v17 : Int), Owp (tourref2_Poly.c3 k a0 v15 n v17) fun o => LTriple PR (tourref2_Poly.cx k) (sub tourref2_Poly.code [1, 1, 1, 1, 0, 1, 0, 0, 1, 1, 0, 0, 1, 1, 0, 0]) 0 (tourref2_Poly.c3p a0 v15 v17) (tourref2_Poly.c3x o) (tourref2_Poly.c3n o) (tourref2_Poly.c3q a0 v15 o)
  | 0, _ => fun _ h => nomatch h
  | n + 1, v17 => Owp.of (tourref2_Poly.c3.eq_2 ..) (
   Owp.bif (fun e18 =>
   Owp.bnd fun o27 e28 =>
    Owp.two (fun y29 e30 =>
    Owp.some (loop_exit (tourref2_Poly.cok k) hmix [.dec true, .cut ⟨[], [], (tourref2_Poly.c4p a0 v15 v17 (iadd .i64 v17 (1 : Int))), 0, .ret, (tourref2_Poly.c4q a0 v15 v17 (.inl ())), 0⟩] [] [] exne_ret (via (cutP (And.intro trivial e18) [] (tourref2_Poly.c4p a0 v15 v17 (iadd .i64 v17 (1 : Int))) (((tourref2_Poly.c4_ok k a0 v15 v17 k (iadd .i64 v17 (1 : Int))).ap (e28.trans (congrArg some e30))).triple) (finP trivial .ret [] (tourref2_Poly.c3q a0 v15 (.inl ())))) (by kernel_rfl)))) (fun y31 e32 =>
    fun y hy => loop_back (tourref2_Poly.cok k) hmix 0 (tourref2_Poly.c3p a0 v15 (iadd .i64 v17 (1 : Int))) [.dec true, .cut ⟨[], [], (tourref2_Poly.c4p a0 v15 v17 (iadd .i64 v17 (1 : Int))), 0, (.exit 7), (tourref2_Poly.c4q a0 v15 v17 (.inr ())), 0⟩] [] [] (via (cutP (And.intro trivial e18) [] (tourref2_Poly.c4p a0 v15 v17 (iadd .i64 v17 (1 : Int))) (((tourref2_Poly.c4_ok k a0 v15 v17 k (iadd .i64 v17 (1 : Int))).ap (e28.trans (congrArg some e32))).triple) (finP trivial .normal [] (tourref2_Poly.c3p a0 v15 (iadd .i64 v17 (1 : Int))))) (by kernel_rfl)) ((tourref2_Poly.c3_ok k a0 v15 n (iadd .i64 v17 (1 : Int))).ap hy))) (fun e18 =>
   Owp.some (loop_exit (tourref2_Poly.cok k) hmix [.dec false] [] [] (exne 5) (via (finP (And.intro trivial e18) (.exit 5) [] (tourref2_Poly.c3q a0 v15 (.inr ()))) (by kernel_rfl)))))
noncomputable def tourref2_Poly.c2p (a0 : (List V24)) (v15 : Int) : SL := ⟨[(0, (.val T22 a0)), (3, (.val T3 (len a0))), (27, (.val T3 (len a0))), (28, (.val T3 v15))], []⟩
noncomputable def tourref2_Poly.c2q (o : Unit ⊕ Unit) : SL := (fun o => two o (fun v => ⟨[(2, (.val T3 (3 : Int)))], []⟩) (fun v => ⟨[], []⟩)) o
noncomputable def tourref2_Poly.c2x (o : Unit ⊕ Unit) : Ex := (fun o => two o (fun _ => .ret) (fun _ => (.exit 3))) o
noncomputable def tourref2_Poly.c2n (o : Unit ⊕ Unit) : Nat := (fun o => two o (fun _ => 0) (fun _ => 0)) o
theorem tourref2_Poly.c2_ok (k : Nat) (a0 : (List V24)) : ∀ (n : Nat) (v15 : Int), Owp (tourref2_Poly.c2 k a0 n v15) fun o => LTriple PR (tourref2_Poly.cx k) (sub tourref2_Poly.code [1, 1, 1, 1, 0, 1, 0, 0]) 0 (tourref2_Poly.c2p a0 v15) (tourref2_Poly.c2x o) (tourref2_Poly.c2n o) (tourref2_Poly.c2q o)
  | 0, _ => fun _ h => nomatch h
  | n + 1, v15 => Owp.of (tourref2_Poly.c2.eq_2 ..) (
   Owp.bif (fun e16 =>
   Owp.bnd fun o33 e34 =>
    Owp.two (fun y35 e36 =>
    Owp.some (loop_exit (tourref2_Poly.cok k) hmix [.dec true, .cut ⟨[], [], (tourref2_Poly.c3p a0 v15 (iadd .i64 v15 (1 : Int))), 0, .ret, (tourref2_Poly.c3q a0 v15 (.inl ())), 0⟩] [] [] exne_ret (via (cutP (And.intro trivial e16) [] (tourref2_Poly.c3p a0 v15 (iadd .i64 v15 (1 : Int))) (((tourref2_Poly.c3_ok k a0 v15 k (iadd .i64 v15 (1 : Int))).ap (e34.trans (congrArg some e36))).triple) (finP trivial .ret [] (tourref2_Poly.c2q (.inl ())))) (by kernel_rfl)))) (fun y37 e38 =>
    fun y hy => loop_back (tourref2_Poly.cok k) hmix 0 (tourref2_Poly.c2p a0 (iadd .i64 v15 (1 : Int))) [.dec true, .cut ⟨[], [], (tourref2_Poly.c3p a0 v15 (iadd .i64 v15 (1 : Int))), 0, (.exit 5), (tourref2_Poly.c3q a0 v15 (.inr ())), 0⟩] [] [] (via (cutP (And.intro trivial e16) [] (tourref2_Poly.c3p a0 v15 (iadd .i64 v15 (1 : Int))) (((tourref2_Poly.c3_ok k a0 v15 k (iadd .i64 v15 (1 : Int))).ap (e34.trans (congrArg some e38))).triple) (finP trivial .normal [] (tourref2_Poly.c2p a0 (iadd .i64 v15 (1 : Int))))) (by kernel_rfl)) ((tourref2_Poly.c2_ok k a0 n (iadd .i64 v15 (1 : Int))).ap hy))) (fun e16 =>
   Owp.some (loop_exit (tourref2_Poly.cok k) hmix [.dec false] [] [] (exne 3) (via (finP (And.intro trivial e16) (.exit 3) [] (tourref2_Poly.c2q (.inr ()))) (by kernel_rfl)))))
theorem tourref2_Poly.way (k : Nat) (a0 : (List V24)) : Owp (tourref2_Poly k a0) fun y => ∃ answers cmds, exec PR (tourref2_Poly.cx k) tourref2_Poly.code 0 (entry (.pair T22 .unit) (a0, ())).st answers (Ret (tourref2_Poly.cx k) Try.f16 cmds (.one (.dp T3)) y) := by
  unfold tourref2_Poly; exact
   Owp.bif (fun e1 =>
   Owp.some (⟨[.dec true], [], via (retP (And.intro trivial e1) (.one (.dp T3)) ((2 : Int) : Int)) (by kernel_rfl)⟩)) (fun e1 =>
   Owp.bif (fun e2 =>
    Owp.some (⟨[.dec false, .dec true], [], via (retP (And.intro (And.intro trivial e1) e2) (.one (.dp T3)) ((3 : Int) : Int)) (by kernel_rfl)⟩)) (fun e2 =>
    Owp.bnd fun o9 e10 =>
     Owp.two (fun y11 e12 =>
     Owp.some (⟨[.dec false, .dec false, .cut ⟨[], [], (tourref2_Poly.c1p a0 (0 : Int)), 0, .ret, (tourref2_Poly.c1q a0 (.inl ())), 0⟩], [], via (cutP (And.intro (And.intro trivial e1) e2) [] (tourref2_Poly.c1p a0 (0 : Int)) (((tourref2_Poly.c1_ok k a0 k (0 : Int)).ap (e10.trans (congrArg some e12))).triple) (retP trivial (.one (.dp T3)) ((1 : Int) : Int))) (by kernel_rfl)⟩)) (fun y13 e14 =>
     Owp.bnd fun o39 e40 =>
      Owp.two (fun y41 e42 =>
      Owp.some (⟨[.dec false, .dec false, .cut ⟨[], [], (tourref2_Poly.c1p a0 (0 : Int)), 0, (.exit 1), (tourref2_Poly.c1q a0 (.inr ())), 0⟩, .cut ⟨[], [], (tourref2_Poly.c2p a0 (0 : Int)), 0, .ret, (tourref2_Poly.c2q (.inl ())), 0⟩], [], via (cutP (And.intro (And.intro trivial e1) e2) [] (tourref2_Poly.c1p a0 (0 : Int)) (((tourref2_Poly.c1_ok k a0 k (0 : Int)).ap (e10.trans (congrArg some e14))).triple) (cutP trivial [] (tourref2_Poly.c2p a0 (0 : Int)) (((tourref2_Poly.c2_ok k a0 k (0 : Int)).ap (e40.trans (congrArg some e42))).triple) (retP trivial (.one (.dp T3)) ((3 : Int) : Int)))) (by kernel_rfl)⟩)) (fun y43 e44 =>
      Owp.some (⟨[.dec false, .dec false, .cut ⟨[], [], (tourref2_Poly.c1p a0 (0 : Int)), 0, (.exit 1), (tourref2_Poly.c1q a0 (.inr ())), 0⟩, .cut ⟨[], [], (tourref2_Poly.c2p a0 (0 : Int)), 0, (.exit 3), (tourref2_Poly.c2q (.inr ())), 0⟩], [], via (cutP (And.intro (And.intro trivial e1) e2) [] (tourref2_Poly.c1p a0 (0 : Int)) (((tourref2_Poly.c1_ok k a0 k (0 : Int)).ap (e10.trans (congrArg some e14))).triple) (cutP trivial [] (tourref2_Poly.c2p a0 (0 : Int)) (((tourref2_Poly.c2_ok k a0 k (0 : Int)).ap (e40.trans (congrArg some e44))).triple) (retP trivial (.one (.dp T3)) ((0 : Int) : Int)))) (by kernel_rfl)⟩)))))
theorem tourref2_Poly.ok (k : Nat) : FnOk PR 16 (tourref2_Poly.sp k) :=
  fn_ok (tourref2_Poly.cok k) hmix Try.func16 (code := tourref2_Poly.code) (by kernel_rfl) (by kernel_rfl) (by kernel_rfl) rfl (by kernel_rfl) (by kernel_rfl) (by kernel_rfl) (fun x => Nat.le_of_ble_eq_true (by kernel_rfl)) fun x y hy => (tourref2_Poly.way k x.1).ap hy

/-! tourney/tourref2.Area -/
noncomputable def tourref2_Area.code : Code := Func.cd Try.f21
def tourref2_Area.c1 (k : Nat) (a0 : (List V24)) : Nat → Int → Int → Option (Int)
  | 0, _, _ => none
  | n + 1, v1, v2 =>
   bif' (ilt v2 (len a0))
   (req (inL v2 a0) <|
    req (nz (len a0)) <|
    req (inL (irem (iadd .i64 v2 1) (len a0)) a0) <|
    tourref2_Area.c1 k a0 n (iadd .i64 v1 (imul .i64 (isub .i64 (el Z24 a0 v2).1 (el Z24 a0 (irem (iadd .i64 v2 1) (len a0))).1) (iadd .i64 (el Z24 a0 v2).2.1 (el Z24 a0 (irem (iadd .i64 v2 1) (len a0))).2.1))) (iadd .i64 v2 1))
   (some v1)
def tourref2_Area (k : Nat) (a0 : (List V24)) : Option Int :=
  bnd (tourref2_Area.c1 k a0 k 0 0) fun o7 =>
  some o7
noncomputable def tourref2_Area.sp (k : Nat) : Go.Sx.Spec := ⟨(.pair T22 .unit), (.one (.dp T3)), fun x => tourref2_Area k x.1, false⟩
noncomputable def tourref2_Area.cx (k : Nat) : Go.Sx.Ctx := ⟨tys, [], eqs, 37, false⟩
theorem tourref2_Area.cok (k : Nat) : CtxOk PR (tourref2_Area.cx k) := ctx_ok tysOk eqsOk FnsOk.nil
noncomputable def tourref2_Area.c1p (a0 : (List V24)) (v1 : Int) (v2 : Int) : SL := ⟨[(0, (.val T22 a0)), (3, (.val T3 v1)), (7, (.val T22 a0)), (8, (.val T3 (len a0))), (9, (.val T3 v2))], []⟩
noncomputable def tourref2_Area.c1q (o : Int) : SL := (fun v => ⟨[(3, (.val T3 v))], []⟩) o
noncomputable def tourref2_Area.c1x (o : Int) : Ex := (fun _ => (.exit 0)) o
noncomputable def tourref2_Area.c1n (o : Int) : Nat := (fun _ => 0) o
theorem tourref2_Area.c1_ok (k : Nat) (a0 : (List V24)) : ∀ (n : Nat) (v1 : Int) (v2 : Int), Owp (tourref2_Area.c1 k a0 n v1 v2) fun o => LTriple PR (tourref2_Area.cx k) (sub tourref2_Area.code [1, 1, 0, 1, 0, 0]) 0 (tourref2_Area.c1p a0 v1 v2) (tourref2_Area.c1x o) (tourref2_Area.c1n o) (tourref2_Area.c1q o)
  | 0, _, _ => fun _ h => nomatch h
  | n + 1, v1, v2 => Owp.of (tourref2_Area.c1.eq_2 ..) (
   Owp.bif (fun e3 =>
   Owp.req fun h4 =>
    Owp.req fun h5 =>
    Owp.req fun h6 =>
    fun y hy => loop_back (tourref2_Area.cok k) hmix 0 (tourref2_Area.c1p a0 (iadd .i64 v1 (imul .i64 (isub .i64 (el Z24 a0 v2).1 (el Z24 a0 (irem (iadd .i64 v2 (1 : Int)) (len a0))).1) (iadd .i64 (el Z24 a0 v2).2.1 (el Z24 a0 (irem (iadd .i64 v2 (1 : Int)) (len a0))).2.1))) (iadd .i64 v2 (1 : Int))) [.dec true] [] [] (via (finP (And.intro (And.intro (And.intro (And.intro trivial e3) h4) h5) h6) .normal [] (tourref2_Area.c1p a0 (iadd .i64 v1 (imul .i64 (isub .i64 (el Z24 a0 v2).1 (el Z24 a0 (irem (iadd .i64 v2 (1 : Int)) (len a0))).1) (iadd .i64 (el Z24 a0 v2).2.1 (el Z24 a0 (irem (iadd .i64 v2 (1 : Int)) (len a0))).2.1))) (iadd .i64 v2 (1 : Int)))) (by kernel_rfl)) ((tourref2_Area.c1_ok k a0 n (iadd .i64 v1 (imul .i64 (isub .i64 (el Z24 a0 v2).1 (el Z24 a0 (irem (iadd .i64 v2 (1 : Int)) (len a0))).1) (iadd .i64 (el Z24 a0 v2).2.1 (el Z24 a0 (irem (iadd .i64 v2 (1 : Int)) (len a0))).2.1))) (iadd .i64 v2 (1 : Int))).ap hy)) (fun e3 =>
   Owp.some (loop_exit (tourref2_Area.cok k) hmix [.dec false] [] [] (exne 0) (via (finP (And.intro trivial e3) (.exit 0) [] (tourref2_Area.c1q v1)) (by kernel_rfl)))))
theorem tourref2_Area.way (k : Nat) (a0 : (List V24)) : Owp (tourref2_Area k a0) fun y => ∃ answers cmds, exec PR (tourref2_Area.cx k) tourref2_Area.code 0 (entry (.pair T22 .unit) (a0, ())).st answers (Ret (tourref2_Area.cx k) Try.f21 cmds (.one (.dp T3)) y) := by
  unfold tourref2_Area; exact
   Owp.bnd fun o7 e8 =>
   Owp.some (⟨[.cut ⟨[], [], (tourref2_Area.c1p a0 (0 : Int) (0 : Int)), 0, (.exit 0), (tourref2_Area.c1q o7), 0⟩], [], via (cutP trivial [] (tourref2_Area.c1p a0 (0 : Int) (0 : Int)) (((tourref2_Area.c1_ok k a0 k (0 : Int) (0 : Int)).ap e8).triple) (retP trivial (.one (.dp T3)) (o7 : Int))) (by kernel_rfl)⟩)
theorem tourref2_Area.ok (k : Nat) : FnOk PR 21 (tourref2_Area.sp k) :=
  fn_ok (tourref2_Area.cok k) hmix Try.func21 (code := tourref2_Area.code) (by kernel_rfl) (by kernel_rfl) (by kernel_rfl) rfl (by kernel_rfl) (by kernel_rfl) (by kernel_rfl) (fun x => Nat.le_of_ble_eq_true (by kernel_rfl)) fun x y hy => (tourref2_Area.way k x.1).ap hy

end Go.Proofs.T1
