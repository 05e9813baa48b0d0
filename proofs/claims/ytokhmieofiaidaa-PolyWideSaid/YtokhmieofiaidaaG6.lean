import Derived.Test.YtokhmieofiaidaaG5
namespace Go.Proofs.T1
open Go Go.Sx Go.Proofs
set_option maxRecDepth 100000
set_option linter.unusedVariables false
/-! tourney/tourkeep2.MassDense -/
noncomputable def tourkeep2_MassDense.code : Code := Func.cd Try.f9
def tourkeep2_MassDense.c1 (k : Nat) (y5 : (Int × (Int × (V24 × Int)))) (y7 : (Int × (Int × (V24 × Int)))) : Option (Bool) :=
  bnd (tourkeep2_weighs k) fun y9 =>
  bif' y9
  (bif' (ine y5.2.2.2 0)
   (some true)
   (bif' (ine y7.2.2.2 0)
    (some true)
    (some (!(Ty.eqb T24 y5.2.2.1 y7.2.2.1)))))
  (some true)
def tourkeep2_MassDense (k : Nat) (a0 : (List Int)) (a1 : Int) : Option Bool :=
  bnd (tourmake_Poly k a0) fun y1 =>
  bnd (tourmake_Below k a1 523288) fun y3 =>
  bnd (mass_Of k y1 (iadd .i64 1000 y3)) fun y5 =>
  bnd (mass_Of k y1 (imul .i64 2 (iadd .i64 1000 y3))) fun y7 =>
  bnd (tourkeep2_MassDense.c1 k y5 y7) fun o14 =>
  bif' o14
  (some false)
  (bif' (ile (imax (isub .i64 y7.1 (imul .i64 2 y5.1)) (isub .i64 (imul .i64 2 y5.1) y7.1)) 1)
   (some (ile (imax (isub .i64 y7.2.1 (imul .i64 2 y5.2.1)) (isub .i64 (imul .i64 2 y5.2.1) y7.2.1)) 1))
   (some false))
noncomputable def tourkeep2_MassDense.sp (k : Nat) : Go.Sx.Spec := ⟨(.pair T34 (.pair T3 .unit)), (.one (.dp T4)), fun x => tourkeep2_MassDense k x.1 x.2.1, false⟩
noncomputable def tourkeep2_MassDense.cx (k : Nat) : Go.Sx.Ctx := ⟨tys, [(24, tourmake_Poly.sp k), (30, tourmake_Below.sp k), (55, mass_Of.sp k), (56, tourkeep2_weighs.sp k)], eqs, 73, false⟩
theorem tourkeep2_MassDense.cok (k : Nat) : CtxOk PR (tourkeep2_MassDense.cx k) := ctx_ok tysOk eqsOk (FnsOk.cons (tourmake_Poly.ok k) (FnsOk.cons (tourmake_Below.ok k) (FnsOk.cons (mass_Of.ok k) (FnsOk.cons (tourkeep2_weighs.ok k) FnsOk.nil))))
noncomputable def tourkeep2_MassDense.c1p (y5 : (Int × (Int × (V24 × Int)))) (y7 : (Int × (Int × (V24 × Int)))) : SL := ⟨[(6, (.val T3 y5.1)), (7, (.val T3 y5.2.1)), (8, (.val .ptr ⟨0, 0, (0 : Int), 0, 0⟩)), (9, (.val T3 y5.2.2.2)), (10, (.val T3 y7.1)), (11, (.val T3 y7.2.1)), (12, (.val .ptr ⟨1, 0, (0 : Int), 0, 0⟩)), (13, (.val T3 y7.2.2.2))], [(0, .cells T24 y5.2.2.1), (1, .cells T24 y7.2.2.1)]⟩
noncomputable def tourkeep2_MassDense.c1q (y5 : (Int × (Int × (V24 × Int)))) (y7 : (Int × (Int × (V24 × Int)))) (o : Bool) : SL := (fun v => ⟨[(6, (.val T3 y5.1)), (7, (.val T3 y5.2.1)), (10, (.val T3 y7.1)), (11, (.val T3 y7.2.1)), (50, (.val T4 v))], []⟩) o
noncomputable def tourkeep2_MassDense.c1x (o : Bool) : Ex := (fun _ => .normal) o
noncomputable def tourkeep2_MassDense.c1n (o : Bool) : Nat := (fun _ => 0) o
theorem tourkeep2_MassDense.c1_ok (k : Nat) (y5 : (Int × (Int × (V24 × Int)))) (y7 : (Int × (Int × (V24 × Int)))) : Owp (tourkeep2_MassDense.c1 k y5 y7) fun o => Triple PR (tourkeep2_MassDense.cx k) (sub tourkeep2_MassDense.code [1, 1, 1, 1, 1, 0, 0]) 2 (tourkeep2_MassDense.c1p y5 y7) (tourkeep2_MassDense.c1x o) (tourkeep2_MassDense.c1n o) (tourkeep2_MassDense.c1q y5 y7 o) := by
  unfold tourkeep2_MassDense.c1; exact
   Owp.bnd fun y9 e10 =>
   Owp.bif (fun e11 =>
   Owp.bif (fun e12 =>
    Owp.some (triple_way (tourkeep2_MassDense.cok k) hmix [.res (.one (.dp T4)) y9, .dec false, .dec false, .dec false, .dec true, .dec true, .dec true, .dec true, .dec true, .dec true, .dec true] [] [] (via (finP (And.intro (And.intro (And.intro (And.intro (And.intro (And.intro (And.intro (And.intro (And.intro (And.intro (And.intro trivial e10) (congrArg not e11)) (congrArg not e11)) (congrArg not e11)) e12) e12) e12) tt) tt) tt) tt) .normal [] (tourkeep2_MassDense.c1q y5 y7 true)) (by kernel_rfl)))) (fun e12 =>
    Owp.bif (fun e13 =>
     Owp.some (triple_way (tourkeep2_MassDense.cok k) hmix [.res (.one (.dp T4)) y9, .dec false, .dec false, .dec false, .dec false, .dec false, .dec false, .dec true, .dec true, .dec true, .dec true] [] [] (via (finP (And.intro (And.intro (And.intro (And.intro (And.intro (And.intro (And.intro (And.intro (And.intro (And.intro (And.intro trivial e10) (congrArg not e11)) (congrArg not e11)) (congrArg not e11)) e12) e12) e12) e13) e13) e13) e13) .normal [] (tourkeep2_MassDense.c1q y5 y7 true)) (by kernel_rfl)))) (fun e13 =>
     Owp.some (triple_way (tourkeep2_MassDense.cok k) hmix [.res (.one (.dp T4)) y9, .dec false, .dec false, .dec false, .dec false, .dec false, .dec false, .dec false, .dec false, .dec false, .dec false] [] [] (via (finP (And.intro (And.intro (And.intro (And.intro (And.intro (And.intro (And.intro (And.intro (And.intro (And.intro (And.intro trivial e10) (congrArg not e11)) (congrArg not e11)) (congrArg not e11)) e12) e12) e12) e13) e13) e13) e13) .normal [] (tourkeep2_MassDense.c1q y5 y7 (!(Ty.eqb T24 y5.2.2.1 y7.2.2.1)))) (by kernel_rfl)))))) (fun e11 =>
   Owp.some (triple_way (tourkeep2_MassDense.cok k) hmix [.res (.one (.dp T4)) y9, .dec true, .dec true, .dec true, .dec true, .dec true, .dec true, .dec true, .dec true, .dec true, .dec true] [] [] (via (finP (And.intro (And.intro (And.intro (And.intro (And.intro (And.intro (And.intro (And.intro (And.intro (And.intro (And.intro trivial e10) (congrArg not e11)) (congrArg not e11)) (congrArg not e11)) tt) tt) tt) tt) tt) tt) tt) .normal [] (tourkeep2_MassDense.c1q y5 y7 true)) (by kernel_rfl))))
theorem tourkeep2_MassDense.way (k : Nat) (a0 : (List Int)) (a1 : Int) : Owp (tourkeep2_MassDense k a0 a1) fun y => ∃ answers cmds, exec PR (tourkeep2_MassDense.cx k) tourkeep2_MassDense.code 0 (entry (.pair T34 (.pair T3 .unit)) (a0, a1, ())).st answers (Ret (tourkeep2_MassDense.cx k) Try.f9 cmds (.one (.dp T4)) y) := by
  unfold tourkeep2_MassDense; exact
   Owp.bnd fun y1 e2 =>
   Owp.bnd fun y3 e4 =>
   Owp.bnd fun y5 e6 =>
   Owp.bnd fun y7 e8 =>
   Owp.bnd fun o14 e15 =>
   Owp.bif (fun e16 =>
   Owp.some (⟨[.res (.one (.dp T22)) y1, .res (.one (.dp T3)) y3, .res (.more (.dp T3) (.more (.dp T3) (.more (.dp T24) (.one (.dp T3))))) y5, .res (.more (.dp T3) (.more (.dp T3) (.more (.dp T24) (.one (.dp T3))))) y7, .cutR 5 ⟨[], [(0, 16), (1, 30)], (tourkeep2_MassDense.c1p y5 y7), 2, .normal, (tourkeep2_MassDense.c1q y5 y7 o14), 0⟩, .dec true], [], via (cutP (And.intro (And.intro (And.intro (And.intro trivial e2) e4) e6) e8) [(0, 16), (1, 30)] (tourkeep2_MassDense.c1p y5 y7) (((tourkeep2_MassDense.c1_ok k y5 y7).ap e15)) (retP (And.intro trivial e16) (.one (.dp T4)) (false : Bool))) (by kernel_rfl)⟩)) (fun e16 =>
   Owp.bif (fun e17 =>
    Owp.some (⟨[.res (.one (.dp T22)) y1, .res (.one (.dp T3)) y3, .res (.more (.dp T3) (.more (.dp T3) (.more (.dp T24) (.one (.dp T3))))) y5, .res (.more (.dp T3) (.more (.dp T3) (.more (.dp T24) (.one (.dp T3))))) y7, .cutR 5 ⟨[], [(0, 16), (1, 30)], (tourkeep2_MassDense.c1p y5 y7), 2, .normal, (tourkeep2_MassDense.c1q y5 y7 o14), 0⟩, .dec false, .dec true, .dec true, .dec true, .dec true, .dec true, .dec true, .dec true, .dec true, .dec true, .dec true, .dec true], [], via (cutP (And.intro (And.intro (And.intro (And.intro trivial e2) e4) e6) e8) [(0, 16), (1, 30)] (tourkeep2_MassDense.c1p y5 y7) (((tourkeep2_MassDense.c1_ok k y5 y7).ap e15)) (retP (And.intro (And.intro (And.intro (And.intro (And.intro (And.intro (And.intro (And.intro (And.intro (And.intro (And.intro (And.intro trivial e16) e17) e17) e17) e17) e17) e17) e17) e17) e17) e17) e17) (.one (.dp T4)) ((ile (imax (isub .i64 y7.2.1 (imul .i64 (2 : Int) y5.2.1)) (isub .i64 (imul .i64 (2 : Int) y5.2.1) y7.2.1)) (1 : Int)) : Bool))) (by kernel_rfl)⟩)) (fun e17 =>
    Owp.some (⟨[.res (.one (.dp T22)) y1, .res (.one (.dp T3)) y3, .res (.more (.dp T3) (.more (.dp T3) (.more (.dp T24) (.one (.dp T3))))) y5, .res (.more (.dp T3) (.more (.dp T3) (.more (.dp T24) (.one (.dp T3))))) y7, .cutR 5 ⟨[], [(0, 16), (1, 30)], (tourkeep2_MassDense.c1p y5 y7), 2, .normal, (tourkeep2_MassDense.c1q y5 y7 o14), 0⟩, .dec false, .dec false, .dec false, .dec false, .dec false, .dec false, .dec false, .dec false, .dec false, .dec false, .dec false, .dec false], [], via (cutP (And.intro (And.intro (And.intro (And.intro trivial e2) e4) e6) e8) [(0, 16), (1, 30)] (tourkeep2_MassDense.c1p y5 y7) (((tourkeep2_MassDense.c1_ok k y5 y7).ap e15)) (retP (And.intro (And.intro (And.intro (And.intro (And.intro (And.intro (And.intro (And.intro (And.intro (And.intro (And.intro (And.intro trivial e16) e17) e17) e17) e17) e17) e17) e17) e17) e17) e17) e17) (.one (.dp T4)) (false : Bool))) (by kernel_rfl)⟩)))
theorem tourkeep2_MassDense.ok (k : Nat) : FnOk PR 9 (tourkeep2_MassDense.sp k) :=
  fn_ok (tourkeep2_MassDense.cok k) hmix Try.func9 (code := tourkeep2_MassDense.code) (by kernel_rfl) (by kernel_rfl) (by kernel_rfl) rfl (by kernel_rfl) (by kernel_rfl) (by kernel_rfl) (fun x => Nat.le_of_ble_eq_true (by kernel_rfl)) fun x y hy => (tourkeep2_MassDense.way k x.1 x.2.1).ap hy

/-! tourney/mass.Centred -/
noncomputable def mass_Centred.code : Code := Func.cd Try.f57
def mass_Centred.c1 (k : Nat) (a0 : (List V24)) (y4 : V24) : Nat → Int → (List V24) → Option ((List V24))
  | 0, _, _ => none
  | n + 1, v6, v7 =>
   bif' (ilt v6 (len a0))
   (req (inL v6 a0) <|
    req (room 16 v7 [((isub .i64 (el Z24 a0 v6).1 y4.1), (isub .i64 (el Z24 a0 v6).2.1 y4.2.1), ())]) <|
    mass_Centred.c1 k a0 y4 n (iadd .i64 v6 1) (v7 ++ [((isub .i64 (el Z24 a0 v6).1 y4.1), (isub .i64 (el Z24 a0 v6).2.1 y4.2.1), ())]))
   (some v7)
def mass_Centred (k : Nat) (a0 : (List V24)) : Option ((List V24) × Int) :=
  bnd (poly_Area k a0) fun y1 =>
  bif' (ine y1.2 0)
  (some ([], y1.2))
  (bnd (mass_centre k a0 y1.1) fun y4 =>
   bnd (mass_Centred.c1 k a0 y4 k 0 []) fun o11 =>
   bnd (poly_Check k o11) fun y13 =>
   bif' (ine y13 0)
   (some ([], y13))
   (some (o11, 0)))
noncomputable def mass_Centred.sp (k : Nat) : Go.Sx.Spec := ⟨(.pair T22 .unit), (.more (.ow T24 24) (.one (.dp T3))), fun x => mass_Centred k x.1, false⟩
noncomputable def mass_Centred.cx (k : Nat) : Go.Sx.Ctx := ⟨tys, [(17, poly_Area.sp k), (95, mass_centre.sp k), (18, poly_Check.sp k)], eqs, 49, false⟩
theorem mass_Centred.cok (k : Nat) : CtxOk PR (mass_Centred.cx k) := ctx_ok tysOk eqsOk (FnsOk.cons (poly_Area.ok k) (FnsOk.cons (mass_centre.ok k) (FnsOk.cons (poly_Check.ok k) FnsOk.nil)))
noncomputable def mass_Centred.c1p (a0 : (List V24)) (y4 : V24) (v6 : Int) (v7 : (List V24)) : SL := ⟨[(6, (.val .ptr ⟨0, 0, (0 : Int), 0, 0⟩)), (7, (.val .own (1 : Nat))), (22, (.val T22 a0)), (23, (.val T3 (len a0))), (24, (.val T3 v6))], [(0, .cells T24 y4), (1, .row T24 v7 24)]⟩
noncomputable def mass_Centred.c1q (o : (List V24)) : SL := (fun v => ⟨[(7, (.val .own (0 : Nat)))], [(0, .row T24 v 24)]⟩) o
noncomputable def mass_Centred.c1x (o : (List V24)) : Ex := (fun _ => (.exit 0)) o
noncomputable def mass_Centred.c1n (o : (List V24)) : Nat := (fun _ => 1) o
theorem mass_Centred.c1_ok (k : Nat) (a0 : (List V24)) (y4 : V24) : ∀ (n : Nat) (v6 : Int) (v7 : (List V24)), Owp (mass_Centred.c1 k a0 y4 n v6 v7) fun o => LTriple PR (mass_Centred.cx k) (sub mass_Centred.code [1, 1, 1, 1, 1, 0, 1, 0, 0]) 2 (mass_Centred.c1p a0 y4 v6 v7) (mass_Centred.c1x o) (mass_Centred.c1n o) (mass_Centred.c1q o)
  | 0, _, _ => fun _ h => nomatch h
  | n + 1, v6, v7 => Owp.of (mass_Centred.c1.eq_2 ..) (
   Owp.bif (fun e8 =>
   Owp.req fun h9 =>
    Owp.req fun h10 =>
    fun y hy => loop_back (mass_Centred.cok k) hmix 2 (mass_Centred.c1p a0 y4 (iadd .i64 v6 (1 : Int)) (v7 ++ [((isub .i64 (el Z24 a0 v6).1 y4.1), (isub .i64 (el Z24 a0 v6).2.1 y4.2.1), ())])) [.dec true, .dec true] [] [(0, 0), (1, 20)] (via (finP (And.intro (And.intro (And.intro trivial e8) h9) h10) .normal [(0, 0), (1, 20)] (mass_Centred.c1p a0 y4 (iadd .i64 v6 (1 : Int)) (v7 ++ [((isub .i64 (el Z24 a0 v6).1 y4.1), (isub .i64 (el Z24 a0 v6).2.1 y4.2.1), ())]))) (by kernel_rfl)) ((mass_Centred.c1_ok k a0 y4 n (iadd .i64 v6 (1 : Int)) (v7 ++ [((isub .i64 (el Z24 a0 v6).1 y4.1), (isub .i64 (el Z24 a0 v6).2.1 y4.2.1), ())])).ap hy)) (fun e8 =>
   Owp.some (loop_exit (mass_Centred.cok k) hmix [.dec false] [] [(0, 1)] (exne 0) (via (finP (And.intro trivial e8) (.exit 0) [(0, 1)] (mass_Centred.c1q v7)) (by kernel_rfl)))))
theorem mass_Centred.way (k : Nat) (a0 : (List V24)) : Owp (mass_Centred k a0) fun y => ∃ answers cmds, exec PR (mass_Centred.cx k) mass_Centred.code 0 (entry (.pair T22 .unit) (a0, ())).st answers (Ret (mass_Centred.cx k) Try.f57 cmds (.more (.ow T24 24) (.one (.dp T3))) y) := by
  unfold mass_Centred; exact
   Owp.bnd fun y1 e2 =>
   Owp.bif (fun e3 =>
   Owp.some (⟨[.res (.more (.dp T3) (.one (.dp T3))) y1, .dec true], [.own 2 T24 24], via (retP (And.intro (And.intro trivial e2) e3) (.more (.ow T24 24) (.one (.dp T3))) (([], y1.2) : ((List V24) × Int))) (by kernel_rfl)⟩)) (fun e3 =>
   Owp.bnd fun y4 e5 =>
    Owp.bnd fun o11 e12 =>
    Owp.bnd fun y13 e14 =>
    Owp.bif (fun e15 =>
    Owp.some (⟨[.res (.more (.dp T3) (.one (.dp T3))) y1, .dec false, .res (.one (.dp T24)) y4, .cut ⟨[.own 7 T24 24], [(0, 14), (1, 20)], (mass_Centred.c1p a0 y4 (0 : Int) []), 2, (.exit 0), (mass_Centred.c1q o11), 1⟩, .res (.one (.dp T3)) y13, .dec true], [.own 2 T24 24], via (cutP (And.intro (And.intro (And.intro trivial e2) e3) e5) [(0, 14), (1, 20)] (mass_Centred.c1p a0 y4 (0 : Int) []) (((mass_Centred.c1_ok k a0 y4 k (0 : Int) []).ap e12).triple) (retP (And.intro (And.intro trivial e14) e15) (.more (.ow T24 24) (.one (.dp T3))) (([], y13) : ((List V24) × Int)))) (by kernel_rfl)⟩)) (fun e15 =>
    Owp.some (⟨[.res (.more (.dp T3) (.one (.dp T3))) y1, .dec false, .res (.one (.dp T24)) y4, .cut ⟨[.own 7 T24 24], [(0, 14), (1, 20)], (mass_Centred.c1p a0 y4 (0 : Int) []), 2, (.exit 0), (mass_Centred.c1q o11), 1⟩, .res (.one (.dp T3)) y13, .dec false], [], via (cutP (And.intro (And.intro (And.intro trivial e2) e3) e5) [(0, 14), (1, 20)] (mass_Centred.c1p a0 y4 (0 : Int) []) (((mass_Centred.c1_ok k a0 y4 k (0 : Int) []).ap e12).triple) (retP (And.intro (And.intro trivial e14) e15) (.more (.ow T24 24) (.one (.dp T3))) ((o11, (0 : Int)) : ((List V24) × Int)))) (by kernel_rfl)⟩)))
theorem mass_Centred.ok (k : Nat) : FnOk PR 57 (mass_Centred.sp k) :=
  fn_ok (mass_Centred.cok k) hmix Try.func57 (code := mass_Centred.code) (by kernel_rfl) (by kernel_rfl) (by kernel_rfl) rfl (by kernel_rfl) (by kernel_rfl) (by kernel_rfl) (fun x => Nat.le_of_ble_eq_true (by kernel_rfl)) fun x y hy => (mass_Centred.way k x.1).ap hy

/-! tourney/tourkeep2.MassMoved -/
noncomputable def tourkeep2_MassMoved.code : Code := Func.cd Try.f10
def tourkeep2_MassMoved.c1 (k : Nat) (y7 : (Int × (Int × (V24 × Int)))) (y11 : (Int × (Int × (V24 × Int)))) : Option (Bool) :=
  bnd (tourkeep2_weighs k) fun y13 =>
  bif' y13
  (some (ine y7.2.2.2 y11.2.2.2))
  (some true)
def tourkeep2_MassMoved.c2 (k : Nat) (y7 : (Int × (Int × (V24 × Int)))) : Option (Bool) :=
  bif' (ieq y7.2.2.2 17)
  (some true)
  (some (ieq y7.2.2.2 2))
def tourkeep2_MassMoved (k : Nat) (a0 : (List Int)) (a1 : Int) (a2 : Int) (a3 : Int) : Option Bool :=
  bnd (tourmake_Poly k a0) fun y1 =>
  bnd (tourkeep2_place k a2 a3) fun y3 =>
  bnd (tourmake_Below k a1 1048576) fun y5 =>
  bnd (mass_Of k y1 (iadd .i64 1 y5)) fun y7 =>
  bnd (tourkeep2_moved k y1 y3) fun y9 =>
  bnd (mass_Of k y9 (iadd .i64 1 y5)) fun y11 =>
  bnd (tourkeep2_MassMoved.c1 k y7 y11) fun o16 =>
  bif' o16
  (some false)
  (bif' (ine y7.2.2.2 0)
   (bnd (tourkeep2_MassMoved.c2 k y7) fun o21 =>
    some o21)
   (bnd (mass_Centred k y1) fun y23 =>
    bnd (mass_Of k y23.1 (iadd .i64 1 y5)) fun y25 =>
    bif' (ieq y7.1 y11.1)
    (bif' (ieq y7.2.1 y11.2.1)
     (bif' (Ty.eqb T24 y11.2.2.1 ((iadd .i64 y7.2.2.1.1 y3.1), (iadd .i64 y7.2.2.1.2.1 y3.2.1), ()))
      (bif' (ieq y23.2 0)
       (bif' (ieq y25.2.2.2 0)
        (bif' (ile (imax y25.2.2.1.1 y25.2.2.1.2.1) 1)
         (some (ige (imin y25.2.2.1.1 y25.2.2.1.2.1) (-1)))
         (some false))
        (some false))
       (some false))
      (some false))
     (some false))
    (some false)))
noncomputable def tourkeep2_MassMoved.sp (k : Nat) : Go.Sx.Spec := ⟨(.pair T34 (.pair T3 T24)), (.one (.dp T4)), fun x => tourkeep2_MassMoved k x.1 x.2.1 x.2.2.1 x.2.2.2.1, false⟩
noncomputable def tourkeep2_MassMoved.cx (k : Nat) : Go.Sx.Ctx := ⟨tys, [(24, tourmake_Poly.sp k), (25, tourkeep2_place.sp k), (30, tourmake_Below.sp k), (55, mass_Of.sp k), (26, tourkeep2_moved.sp k), (56, tourkeep2_weighs.sp k), (57, mass_Centred.sp k)], eqs, 126, false⟩
theorem tourkeep2_MassMoved.cok (k : Nat) : CtxOk PR (tourkeep2_MassMoved.cx k) := ctx_ok tysOk eqsOk (FnsOk.cons (tourmake_Poly.ok k) (FnsOk.cons (tourkeep2_place.ok k) (FnsOk.cons (tourmake_Below.ok k) (FnsOk.cons (mass_Of.ok k) (FnsOk.cons (tourkeep2_moved.ok k) (FnsOk.cons (tourkeep2_weighs.ok k) (FnsOk.cons (mass_Centred.ok k) FnsOk.nil)))))))
noncomputable def tourkeep2_MassMoved.c1p (y1 : (List V24)) (y3 : V24) (y5 : Int) (y7 : (Int × (Int × (V24 × Int)))) (y11 : (Int × (Int × (V24 × Int)))) : SL := ⟨[(1, (.val T3 (iadd .i64 (1 : Int) y5))), (9, (.val T22 y1)), (10, (.val .ptr ⟨0, 0, (0 : Int), 0, 0⟩)), (11, (.val T3 y7.1)), (12, (.val T3 y7.2.1)), (13, (.val .ptr ⟨1, 0, (0 : Int), 0, 0⟩)), (14, (.val T3 y7.2.2.2)), (15, (.val T3 y11.1)), (16, (.val T3 y11.2.1)), (17, (.val .ptr ⟨2, 0, (0 : Int), 0, 0⟩)), (18, (.val T3 y11.2.2.2))], [(0, .cells T24 y3), (1, .cells T24 y7.2.2.1), (2, .cells T24 y11.2.2.1)]⟩
noncomputable def tourkeep2_MassMoved.c1q (y1 : (List V24)) (y3 : V24) (y5 : Int) (y7 : (Int × (Int × (V24 × Int)))) (y11 : (Int × (Int × (V24 × Int)))) (o : Bool) : SL := (fun v => ⟨[(1, (.val T3 (iadd .i64 (1 : Int) y5))), (9, (.val T22 y1)), (10, (.val .ptr ⟨0, 0, (0 : Int), 0, 0⟩)), (11, (.val T3 y7.1)), (12, (.val T3 y7.2.1)), (13, (.val .ptr ⟨1, 0, (0 : Int), 0, 0⟩)), (14, (.val T3 y7.2.2.2)), (15, (.val T3 y11.1)), (16, (.val T3 y11.2.1)), (17, (.val .ptr ⟨2, 0, (0 : Int), 0, 0⟩)), (57, (.val T4 v))], [(0, .cells T24 y3), (1, .cells T24 y7.2.2.1), (2, .cells T24 y11.2.2.1)]⟩) o
noncomputable def tourkeep2_MassMoved.c1x (o : Bool) : Ex := (fun _ => .normal) o
noncomputable def tourkeep2_MassMoved.c1n (o : Bool) : Nat := (fun _ => 3) o
theorem tourkeep2_MassMoved.c1_ok (k : Nat) (y1 : (List V24)) (y3 : V24) (y5 : Int) (y7 : (Int × (Int × (V24 × Int)))) (y11 : (Int × (Int × (V24 × Int)))) : Owp (tourkeep2_MassMoved.c1 k y7 y11) fun o => Triple PR (tourkeep2_MassMoved.cx k) (sub tourkeep2_MassMoved.code [1, 1, 1, 1, 1, 0, 0]) 3 (tourkeep2_MassMoved.c1p y1 y3 y5 y7 y11) (tourkeep2_MassMoved.c1x o) (tourkeep2_MassMoved.c1n o) (tourkeep2_MassMoved.c1q y1 y3 y5 y7 y11 o) := by
  unfold tourkeep2_MassMoved.c1; exact
   Owp.bnd fun y13 e14 =>
   Owp.bif (fun e15 =>
   Owp.some (triple_way (tourkeep2_MassMoved.cok k) hmix [.res (.one (.dp T4)) y13, .dec false, .dec false, .dec false, .dec false] [] [(0, 0), (1, 1), (2, 2)] (via (finP (And.intro (And.intro (And.intro (And.intro (And.intro trivial e14) (congrArg not e15)) (congrArg not e15)) (congrArg not e15)) (congrArg not e15)) .normal [(0, 0), (1, 1), (2, 2)] (tourkeep2_MassMoved.c1q y1 y3 y5 y7 y11 (ine y7.2.2.2 y11.2.2.2))) (by kernel_rfl)))) (fun e15 =>
   Owp.some (triple_way (tourkeep2_MassMoved.cok k) hmix [.res (.one (.dp T4)) y13, .dec true, .dec true, .dec true, .dec true] [] [(0, 0), (1, 1), (2, 2)] (via (finP (And.intro (And.intro (And.intro (And.intro (And.intro trivial e14) (congrArg not e15)) (congrArg not e15)) (congrArg not e15)) (congrArg not e15)) .normal [(0, 0), (1, 1), (2, 2)] (tourkeep2_MassMoved.c1q y1 y3 y5 y7 y11 true)) (by kernel_rfl))))
noncomputable def tourkeep2_MassMoved.c2p (y7 : (Int × (Int × (V24 × Int)))) : SL := ⟨[(14, (.val T3 y7.2.2.2))], []⟩
noncomputable def tourkeep2_MassMoved.c2q (o : Bool) : SL := (fun v => ⟨[(8, (.val T4 v))], []⟩) o
noncomputable def tourkeep2_MassMoved.c2x (o : Bool) : Ex := (fun _ => .normal) o
noncomputable def tourkeep2_MassMoved.c2n (o : Bool) : Nat := (fun _ => 0) o
theorem tourkeep2_MassMoved.c2_ok (k : Nat) (y7 : (Int × (Int × (V24 × Int)))) : Owp (tourkeep2_MassMoved.c2 k y7) fun o => Triple PR (tourkeep2_MassMoved.cx k) (sub tourkeep2_MassMoved.code [1, 1, 1, 1, 1, 1, 0, 1, 0, 0]) 0 (tourkeep2_MassMoved.c2p y7) (tourkeep2_MassMoved.c2x o) (tourkeep2_MassMoved.c2n o) (tourkeep2_MassMoved.c2q o) := by
  unfold tourkeep2_MassMoved.c2; exact
   Owp.bif (fun e20 =>
   Owp.some (triple_way (tourkeep2_MassMoved.cok k) hmix [.dec true, .dec true, .dec true] [] [] (via (finP (And.intro (And.intro (And.intro trivial e20) e20) e20) .normal [] (tourkeep2_MassMoved.c2q true)) (by kernel_rfl)))) (fun e20 =>
   Owp.some (triple_way (tourkeep2_MassMoved.cok k) hmix [.dec false, .dec false, .dec false] [] [] (via (finP (And.intro (And.intro (And.intro trivial e20) e20) e20) .normal [] (tourkeep2_MassMoved.c2q (ieq y7.2.2.2 (2 : Int)))) (by kernel_rfl))))
theorem tourkeep2_MassMoved.way (k : Nat) (a0 : (List Int)) (a1 : Int) (a2 : Int) (a3 : Int) : Owp (tourkeep2_MassMoved k a0 a1 a2 a3) fun y => ∃ answers cmds, exec PR (tourkeep2_MassMoved.cx k) tourkeep2_MassMoved.code 0 (entry (.pair T34 (.pair T3 T24)) (a0, a1, a2, a3, ())).st answers (Ret (tourkeep2_MassMoved.cx k) Try.f10 cmds (.one (.dp T4)) y) := by
  unfold tourkeep2_MassMoved; exact
   Owp.bnd fun y1 e2 =>
   Owp.bnd fun y3 e4 =>
   Owp.bnd fun y5 e6 =>
   Owp.bnd fun y7 e8 =>
   Owp.bnd fun y9 e10 =>
   Owp.bnd fun y11 e12 =>
   Owp.bnd fun o16 e17 =>
   Owp.bif (fun e18 =>
   Owp.some (⟨[.res (.one (.dp T22)) y1, .res (.one (.dp T24)) y3, .res (.one (.dp T3)) y5, .res (.more (.dp T3) (.more (.dp T3) (.more (.dp T24) (.one (.dp T3))))) y7, .res (.one (.ow T24 24)) y9, .res (.more (.dp T3) (.more (.dp T3) (.more (.dp T24) (.one (.dp T3))))) y11, .cutR 5 ⟨[], [(0, 6), (1, 21), (2, 36)], (tourkeep2_MassMoved.c1p y1 y3 y5 y7 y11), 3, .normal, (tourkeep2_MassMoved.c1q y1 y3 y5 y7 y11 o16), 3⟩, .dec true], [], via (cutP (And.intro (And.intro (And.intro (And.intro (And.intro (And.intro trivial e2) e4) e6) e8) e10) e12) [(0, 6), (1, 21), (2, 36)] (tourkeep2_MassMoved.c1p y1 y3 y5 y7 y11) (((tourkeep2_MassMoved.c1_ok k y1 y3 y5 y7 y11).ap e17)) (retP (And.intro trivial e18) (.one (.dp T4)) (false : Bool))) (by kernel_rfl)⟩)) (fun e18 =>
   Owp.bif (fun e19 =>
    Owp.bnd fun o21 e22 =>
     Owp.some (⟨[.res (.one (.dp T22)) y1, .res (.one (.dp T24)) y3, .res (.one (.dp T3)) y5, .res (.more (.dp T3) (.more (.dp T3) (.more (.dp T24) (.one (.dp T3))))) y7, .res (.one (.ow T24 24)) y9, .res (.more (.dp T3) (.more (.dp T3) (.more (.dp T24) (.one (.dp T3))))) y11, .cutR 5 ⟨[], [(0, 6), (1, 21), (2, 36)], (tourkeep2_MassMoved.c1p y1 y3 y5 y7 y11), 3, .normal, (tourkeep2_MassMoved.c1q y1 y3 y5 y7 y11 o16), 3⟩, .dec false, .dec true, .cutR 8 ⟨[], [], (tourkeep2_MassMoved.c2p y7), 0, .normal, (tourkeep2_MassMoved.c2q o21), 0⟩], [], via (cutP (And.intro (And.intro (And.intro (And.intro (And.intro (And.intro trivial e2) e4) e6) e8) e10) e12) [(0, 6), (1, 21), (2, 36)] (tourkeep2_MassMoved.c1p y1 y3 y5 y7 y11) (((tourkeep2_MassMoved.c1_ok k y1 y3 y5 y7 y11).ap e17)) (cutP (And.intro (And.intro trivial e18) e19) [] (tourkeep2_MassMoved.c2p y7) (((tourkeep2_MassMoved.c2_ok k y7).ap e22)) (retP trivial (.one (.dp T4)) (o21 : Bool)))) (by kernel_rfl)⟩)) (fun e19 =>
    Owp.bnd fun y23 e24 =>
     Owp.bnd fun y25 e26 =>
     Owp.bif (fun e27 =>
     Owp.bif (fun e28 =>
      Owp.bif (fun e29 =>
       Owp.bif (fun e30 =>
        Owp.bif (fun e31 =>
         Owp.bif (fun e32 =>
          Owp.some (⟨[.res (.one (.dp T22)) y1, .res (.one (.dp T24)) y3, .res (.one (.dp T3)) y5, .res (.more (.dp T3) (.more (.dp T3) (.more (.dp T24) (.one (.dp T3))))) y7, .res (.one (.ow T24 24)) y9, .res (.more (.dp T3) (.more (.dp T3) (.more (.dp T24) (.one (.dp T3))))) y11, .cutR 5 ⟨[], [(0, 6), (1, 21), (2, 36)], (tourkeep2_MassMoved.c1p y1 y3 y5 y7 y11), 3, .normal, (tourkeep2_MassMoved.c1q y1 y3 y5 y7 y11 o16), 3⟩, .dec false, .dec false, .res (.more (.ow T24 24) (.one (.dp T3))) y23, .res (.more (.dp T3) (.more (.dp T3) (.more (.dp T24) (.one (.dp T3))))) y25, .dec true, .dec true, .dec true, .dec true, .dec true, .dec true, .dec true, .dec true, .dec true, .dec true, .dec true, .dec true, .dec true, .dec true, .dec true, .dec true, .dec true, .dec true, .dec true, .dec true, .dec true, .dec true, .dec true, .dec true, .dec true, .dec true, .dec true, .dec true, .dec true, .dec true, .dec true, .dec true, .dec true, .dec true, .dec true, .dec true, .dec true, .dec true], [], via (cutP (And.intro (And.intro (And.intro (And.intro (And.intro (And.intro trivial e2) e4) e6) e8) e10) e12) [(0, 6), (1, 21), (2, 36)] (tourkeep2_MassMoved.c1p y1 y3 y5 y7 y11) (((tourkeep2_MassMoved.c1_ok k y1 y3 y5 y7 y11).ap e17)) (retP (And.intro (And.intro (And.intro (And.intro (And.intro (And.intro (And.intro (And.intro (And.intro (And.intro (And.intro (And.intro (And.intro (And.intro (And.intro (And.intro (And.intro (And.intro (And.intro (And.intro (And.intro (And.intro (And.intro (And.intro (And.intro (And.intro (And.intro (And.intro (And.intro (And.intro (And.intro (And.intro (And.intro (And.intro (And.intro (And.intro (And.intro (And.intro (And.intro (And.intro (And.intro (And.intro trivial e18) e19) e24) e26) e27) e27) e27) e27) e28) e28) e28) e28) e28) e28) e28) e28) e28) e28) e28) e28) e28) e28) e29) e29) e29) e30) e30) e30) e31) e31) e31) e31) e31) e31) e31) e32) e32) e32) e32) e32) e32) e32) (.one (.dp T4)) ((ige (imin y25.2.2.1.1 y25.2.2.1.2.1) (-1 : Int)) : Bool))) (by kernel_rfl)⟩)) (fun e32 =>
          Owp.some (⟨[.res (.one (.dp T22)) y1, .res (.one (.dp T24)) y3, .res (.one (.dp T3)) y5, .res (.more (.dp T3) (.more (.dp T3) (.more (.dp T24) (.one (.dp T3))))) y7, .res (.one (.ow T24 24)) y9, .res (.more (.dp T3) (.more (.dp T3) (.more (.dp T24) (.one (.dp T3))))) y11, .cutR 5 ⟨[], [(0, 6), (1, 21), (2, 36)], (tourkeep2_MassMoved.c1p y1 y3 y5 y7 y11), 3, .normal, (tourkeep2_MassMoved.c1q y1 y3 y5 y7 y11 o16), 3⟩, .dec false, .dec false, .res (.more (.ow T24 24) (.one (.dp T3))) y23, .res (.more (.dp T3) (.more (.dp T3) (.more (.dp T24) (.one (.dp T3))))) y25, .dec true, .dec true, .dec true, .dec true, .dec true, .dec true, .dec true, .dec true, .dec true, .dec true, .dec true, .dec true, .dec true, .dec true, .dec true, .dec true, .dec true, .dec true, .dec true, .dec true, .dec true, .dec true, .dec true, .dec true, .dec true, .dec true, .dec true, .dec true, .dec true, .dec true, .dec true, .dec false, .dec false, .dec false, .dec false, .dec false, .dec false, .dec false], [], via (cutP (And.intro (And.intro (And.intro (And.intro (And.intro (And.intro trivial e2) e4) e6) e8) e10) e12) [(0, 6), (1, 21), (2, 36)] (tourkeep2_MassMoved.c1p y1 y3 y5 y7 y11) (((tourkeep2_MassMoved.c1_ok k y1 y3 y5 y7 y11).ap e17)) (retP (And.intro (And.intro (And.intro (And.intro (And.intro (And.intro (And.intro (And.intro (And.intro (And.intro (And.intro (And.intro (And.intro (And.intro (And.intro (And.intro (And.intro (And.intro (And.intro (And.intro (And.intro (And.intro (And.intro (And.intro (And.intro (And.intro (And.intro (And.intro (And.intro (And.intro (And.intro (And.intro (And.intro (And.intro (And.intro (And.intro (And.intro (And.intro (And.intro (And.intro (And.intro (And.intro trivial e18) e19) e24) e26) e27) e27) e27) e27) e28) e28) e28) e28) e28) e28) e28) e28) e28) e28) e28) e28) e28) e28) e29) e29) e29) e30) e30) e30) e31) e31) e31) e31) e31) e31) e31) e32) e32) e32) e32) e32) e32) e32) (.one (.dp T4)) (false : Bool))) (by kernel_rfl)⟩))) (fun e31 =>
         Owp.some (⟨[.res (.one (.dp T22)) y1, .res (.one (.dp T24)) y3, .res (.one (.dp T3)) y5, .res (.more (.dp T3) (.more (.dp T3) (.more (.dp T24) (.one (.dp T3))))) y7, .res (.one (.ow T24 24)) y9, .res (.more (.dp T3) (.more (.dp T3) (.more (.dp T24) (.one (.dp T3))))) y11, .cutR 5 ⟨[], [(0, 6), (1, 21), (2, 36)], (tourkeep2_MassMoved.c1p y1 y3 y5 y7 y11), 3, .normal, (tourkeep2_MassMoved.c1q y1 y3 y5 y7 y11 o16), 3⟩, .dec false, .dec false, .res (.more (.ow T24 24) (.one (.dp T3))) y23, .res (.more (.dp T3) (.more (.dp T3) (.more (.dp T24) (.one (.dp T3))))) y25, .dec true, .dec true, .dec true, .dec true, .dec true, .dec true, .dec true, .dec true, .dec true, .dec true, .dec true, .dec true, .dec true, .dec true, .dec true, .dec true, .dec true, .dec true, .dec true, .dec true, .dec true, .dec true, .dec true, .dec true, .dec false, .dec false, .dec false, .dec false, .dec false, .dec false, .dec false, .dec false, .dec false, .dec false, .dec false, .dec false, .dec false, .dec false], [], via (cutP (And.intro (And.intro (And.intro (And.intro (And.intro (And.intro trivial e2) e4) e6) e8) e10) e12) [(0, 6), (1, 21), (2, 36)] (tourkeep2_MassMoved.c1p y1 y3 y5 y7 y11) (((tourkeep2_MassMoved.c1_ok k y1 y3 y5 y7 y11).ap e17)) (retP (And.intro (And.intro (And.intro (And.intro (And.intro (And.intro (And.intro (And.intro (And.intro (And.intro (And.intro (And.intro (And.intro (And.intro (And.intro (And.intro (And.intro (And.intro (And.intro (And.intro (And.intro (And.intro (And.intro (And.intro (And.intro (And.intro (And.intro (And.intro (And.intro (And.intro (And.intro (And.intro (And.intro (And.intro (And.intro (And.intro (And.intro (And.intro (And.intro (And.intro (And.intro (And.intro trivial e18) e19) e24) e26) e27) e27) e27) e27) e28) e28) e28) e28) e28) e28) e28) e28) e28) e28) e28) e28) e28) e28) e29) e29) e29) e30) e30) e30) e31) e31) e31) e31) e31) e31) e31) ff) ff) ff) ff) ff) ff) ff) (.one (.dp T4)) (false : Bool))) (by kernel_rfl)⟩))) (fun e30 =>
        Owp.some (⟨[.res (.one (.dp T22)) y1, .res (.one (.dp T24)) y3, .res (.one (.dp T3)) y5, .res (.more (.dp T3) (.more (.dp T3) (.more (.dp T24) (.one (.dp T3))))) y7, .res (.one (.ow T24 24)) y9, .res (.more (.dp T3) (.more (.dp T3) (.more (.dp T24) (.one (.dp T3))))) y11, .cutR 5 ⟨[], [(0, 6), (1, 21), (2, 36)], (tourkeep2_MassMoved.c1p y1 y3 y5 y7 y11), 3, .normal, (tourkeep2_MassMoved.c1q y1 y3 y5 y7 y11 o16), 3⟩, .dec false, .dec false, .res (.more (.ow T24 24) (.one (.dp T3))) y23, .res (.more (.dp T3) (.more (.dp T3) (.more (.dp T24) (.one (.dp T3))))) y25, .dec true, .dec true, .dec true, .dec true, .dec true, .dec true, .dec true, .dec true, .dec true, .dec true, .dec true, .dec true, .dec true, .dec true, .dec true, .dec true, .dec true, .dec true, .dec true, .dec true, .dec true, .dec false, .dec false, .dec false, .dec false, .dec false, .dec false, .dec false, .dec false, .dec false, .dec false, .dec false, .dec false, .dec false, .dec false, .dec false, .dec false, .dec false], [], via (cutP (And.intro (And.intro (And.intro (And.intro (And.intro (And.intro trivial e2) e4) e6) e8) e10) e12) [(0, 6), (1, 21), (2, 36)] (tourkeep2_MassMoved.c1p y1 y3 y5 y7 y11) (((tourkeep2_MassMoved.c1_ok k y1 y3 y5 y7 y11).ap e17)) (retP (And.intro (And.intro (And.intro (And.intro (And.intro (And.intro (And.intro (And.intro (And.intro (And.intro (And.intro (And.intro (And.intro (And.intro (And.intro (And.intro (And.intro (And.intro (And.intro (And.intro (And.intro (And.intro (And.intro (And.intro (And.intro (And.intro (And.intro (And.intro (And.intro (And.intro (And.intro (And.intro (And.intro (And.intro (And.intro (And.intro (And.intro (And.intro (And.intro (And.intro (And.intro (And.intro trivial e18) e19) e24) e26) e27) e27) e27) e27) e28) e28) e28) e28) e28) e28) e28) e28) e28) e28) e28) e28) e28) e28) e29) e29) e29) e30) e30) e30) ff) ff) ff) ff) ff) ff) ff) ff) ff) ff) ff) ff) ff) ff) (.one (.dp T4)) (false : Bool))) (by kernel_rfl)⟩))) (fun e29 =>
       Owp.some (⟨[.res (.one (.dp T22)) y1, .res (.one (.dp T24)) y3, .res (.one (.dp T3)) y5, .res (.more (.dp T3) (.more (.dp T3) (.more (.dp T24) (.one (.dp T3))))) y7, .res (.one (.ow T24 24)) y9, .res (.more (.dp T3) (.more (.dp T3) (.more (.dp T24) (.one (.dp T3))))) y11, .cutR 5 ⟨[], [(0, 6), (1, 21), (2, 36)], (tourkeep2_MassMoved.c1p y1 y3 y5 y7 y11), 3, .normal, (tourkeep2_MassMoved.c1q y1 y3 y5 y7 y11 o16), 3⟩, .dec false, .dec false, .res (.more (.ow T24 24) (.one (.dp T3))) y23, .res (.more (.dp T3) (.more (.dp T3) (.more (.dp T24) (.one (.dp T3))))) y25, .dec true, .dec true, .dec true, .dec true, .dec true, .dec true, .dec true, .dec true, .dec true, .dec true, .dec true, .dec true, .dec true, .dec true, .dec true, .dec true, .dec true, .dec true, .dec false, .dec false, .dec false, .dec false, .dec false, .dec false, .dec false, .dec false, .dec false, .dec false, .dec false, .dec false, .dec false, .dec false, .dec false, .dec false, .dec false, .dec false, .dec false, .dec false], [], via (cutP (And.intro (And.intro (And.intro (And.intro (And.intro (And.intro trivial e2) e4) e6) e8) e10) e12) [(0, 6), (1, 21), (2, 36)] (tourkeep2_MassMoved.c1p y1 y3 y5 y7 y11) (((tourkeep2_MassMoved.c1_ok k y1 y3 y5 y7 y11).ap e17)) (retP (And.intro (And.intro (And.intro (And.intro (And.intro (And.intro (And.intro (And.intro (And.intro (And.intro (And.intro (And.intro (And.intro (And.intro (And.intro (And.intro (And.intro (And.intro (And.intro (And.intro (And.intro (And.intro (And.intro (And.intro (And.intro (And.intro (And.intro (And.intro (And.intro (And.intro (And.intro (And.intro (And.intro (And.intro (And.intro (And.intro (And.intro (And.intro (And.intro (And.intro (And.intro (And.intro trivial e18) e19) e24) e26) e27) e27) e27) e27) e28) e28) e28) e28) e28) e28) e28) e28) e28) e28) e28) e28) e28) e28) e29) e29) e29) ff) ff) ff) ff) ff) ff) ff) ff) ff) ff) ff) ff) ff) ff) ff) ff) ff) (.one (.dp T4)) (false : Bool))) (by kernel_rfl)⟩))) (fun e28 =>
      Owp.some (⟨[.res (.one (.dp T22)) y1, .res (.one (.dp T24)) y3, .res (.one (.dp T3)) y5, .res (.more (.dp T3) (.more (.dp T3) (.more (.dp T24) (.one (.dp T3))))) y7, .res (.one (.ow T24 24)) y9, .res (.more (.dp T3) (.more (.dp T3) (.more (.dp T24) (.one (.dp T3))))) y11, .cutR 5 ⟨[], [(0, 6), (1, 21), (2, 36)], (tourkeep2_MassMoved.c1p y1 y3 y5 y7 y11), 3, .normal, (tourkeep2_MassMoved.c1q y1 y3 y5 y7 y11 o16), 3⟩, .dec false, .dec false, .res (.more (.ow T24 24) (.one (.dp T3))) y23, .res (.more (.dp T3) (.more (.dp T3) (.more (.dp T24) (.one (.dp T3))))) y25, .dec true, .dec true, .dec true, .dec true, .dec false, .dec false, .dec false, .dec false, .dec false, .dec false, .dec false, .dec false, .dec false, .dec false, .dec false, .dec false, .dec false, .dec false, .dec false, .dec false, .dec false, .dec false, .dec false, .dec false, .dec false, .dec false, .dec false, .dec false, .dec false, .dec false, .dec false, .dec false, .dec false, .dec false, .dec false, .dec false, .dec false, .dec false], [], via (cutP (And.intro (And.intro (And.intro (And.intro (And.intro (And.intro trivial e2) e4) e6) e8) e10) e12) [(0, 6), (1, 21), (2, 36)] (tourkeep2_MassMoved.c1p y1 y3 y5 y7 y11) (((tourkeep2_MassMoved.c1_ok k y1 y3 y5 y7 y11).ap e17)) (retP (And.intro (And.intro (And.intro (And.intro (And.intro (And.intro (And.intro (And.intro (And.intro (And.intro (And.intro (And.intro (And.intro (And.intro (And.intro (And.intro (And.intro (And.intro (And.intro (And.intro (And.intro (And.intro (And.intro (And.intro (And.intro (And.intro (And.intro (And.intro (And.intro (And.intro (And.intro (And.intro (And.intro (And.intro (And.intro (And.intro (And.intro (And.intro (And.intro (And.intro (And.intro (And.intro trivial e18) e19) e24) e26) e27) e27) e27) e27) e28) e28) e28) e28) e28) e28) e28) e28) e28) e28) e28) e28) e28) e28) ff) ff) ff) ff) ff) ff) ff) ff) ff) ff) ff) ff) ff) ff) ff) ff) ff) ff) ff) ff) (.one (.dp T4)) (false : Bool))) (by kernel_rfl)⟩))) (fun e27 =>
     Owp.some (⟨[.res (.one (.dp T22)) y1, .res (.one (.dp T24)) y3, .res (.one (.dp T3)) y5, .res (.more (.dp T3) (.more (.dp T3) (.more (.dp T24) (.one (.dp T3))))) y7, .res (.one (.ow T24 24)) y9, .res (.more (.dp T3) (.more (.dp T3) (.more (.dp T24) (.one (.dp T3))))) y11, .cutR 5 ⟨[], [(0, 6), (1, 21), (2, 36)], (tourkeep2_MassMoved.c1p y1 y3 y5 y7 y11), 3, .normal, (tourkeep2_MassMoved.c1q y1 y3 y5 y7 y11 o16), 3⟩, .dec false, .dec false, .res (.more (.ow T24 24) (.one (.dp T3))) y23, .res (.more (.dp T3) (.more (.dp T3) (.more (.dp T24) (.one (.dp T3))))) y25, .dec false, .dec false, .dec false, .dec false, .dec false, .dec false, .dec false, .dec false, .dec false, .dec false, .dec false, .dec false, .dec false, .dec false, .dec false, .dec false, .dec false, .dec false, .dec false, .dec false, .dec false, .dec false, .dec false, .dec false, .dec false, .dec false, .dec false, .dec false, .dec false, .dec false, .dec false, .dec false, .dec false, .dec false, .dec false, .dec false, .dec false, .dec false], [], via (cutP (And.intro (And.intro (And.intro (And.intro (And.intro (And.intro trivial e2) e4) e6) e8) e10) e12) [(0, 6), (1, 21), (2, 36)] (tourkeep2_MassMoved.c1p y1 y3 y5 y7 y11) (((tourkeep2_MassMoved.c1_ok k y1 y3 y5 y7 y11).ap e17)) (retP (And.intro (And.intro (And.intro (And.intro (And.intro (And.intro (And.intro (And.intro (And.intro (And.intro (And.intro (And.intro (And.intro (And.intro (And.intro (And.intro (And.intro (And.intro (And.intro (And.intro (And.intro (And.intro (And.intro (And.intro (And.intro (And.intro (And.intro (And.intro (And.intro (And.intro (And.intro (And.intro (And.intro (And.intro (And.intro (And.intro (And.intro (And.intro (And.intro (And.intro (And.intro (And.intro trivial e18) e19) e24) e26) e27) e27) e27) e27) ff) ff) ff) ff) ff) ff) ff) ff) ff) ff) ff) ff) ff) ff) ff) ff) ff) ff) ff) ff) ff) ff) ff) ff) ff) ff) ff) ff) ff) ff) ff) ff) ff) ff) (.one (.dp T4)) (false : Bool))) (by kernel_rfl)⟩))))
theorem tourkeep2_MassMoved.ok (k : Nat) : FnOk PR 10 (tourkeep2_MassMoved.sp k) :=
  fn_ok (tourkeep2_MassMoved.cok k) hmix Try.func10 (code := tourkeep2_MassMoved.code) (by kernel_rfl) (by kernel_rfl) (by kernel_rfl) rfl (by kernel_rfl) (by kernel_rfl) (by kernel_rfl) (fun x => Nat.le_of_ble_eq_true (by kernel_rfl)) fun x y hy => (tourkeep2_MassMoved.way k x.1 x.2.1 x.2.2.1 x.2.2.2.1).ap hy

/-! tourney/tourref2.Mass$1 -/
noncomputable def tourref2_Mass_1.code : Code := Func.cd Try.f98
def tourref2_Mass_1 (k : Nat) (a0 : V24) : Option Bool :=
  bnd (tourref2_coord k a0 2097152) fun y1 =>
  some (!y1)
noncomputable def tourref2_Mass_1.sp (k : Nat) : Go.Sx.Spec := ⟨(.pair T24 .unit), (.one (.dp T4)), fun x => tourref2_Mass_1 k x.1, false⟩
noncomputable def tourref2_Mass_1.cx (k : Nat) : Go.Sx.Ctx := ⟨tys, [(70, tourref2_coord.sp k)], eqs, 6, false⟩
theorem tourref2_Mass_1.cok (k : Nat) : CtxOk PR (tourref2_Mass_1.cx k) := ctx_ok tysOk eqsOk (FnsOk.cons (tourref2_coord.ok k) FnsOk.nil)
theorem tourref2_Mass_1.way (k : Nat) (a0 : V24) : Owp (tourref2_Mass_1 k a0) fun y => ∃ answers cmds, exec PR (tourref2_Mass_1.cx k) tourref2_Mass_1.code 0 (entry (.pair T24 .unit) (a0, ())).st answers (Ret (tourref2_Mass_1.cx k) Try.f98 cmds (.one (.dp T4)) y) := by
  unfold tourref2_Mass_1; exact
   Owp.bnd fun y1 e2 =>
   Owp.some (⟨[.res (.one (.dp T4)) y1], [], via (retP (And.intro trivial e2) (.one (.dp T4)) ((!y1) : Bool)) (by kernel_rfl)⟩)
theorem tourref2_Mass_1.ok (k : Nat) : FnOk PR 98 (tourref2_Mass_1.sp k) :=
  fn_ok (tourref2_Mass_1.cok k) hmix Try.func98 (code := tourref2_Mass_1.code) (by kernel_rfl) (by kernel_rfl) (by kernel_rfl) rfl (by kernel_rfl) (by kernel_rfl) (by kernel_rfl) (fun x => Nat.le_of_ble_eq_true (by kernel_rfl)) fun x y hy => (tourref2_Mass_1.way k x.1).ap hy

/-! tourney/tourref2.Centre -/
noncomputable def tourref2_Centre.code : Code := Func.cd Try.f60
def tourref2_Centre.c1 (k : Nat) (a0 : (List V24)) : Nat → Int → (List Int) → (List Int) → (List Int) → Option (((List Int) × ((List Int) × (List Int))))
  | 0, _, _, _, _ => none
  | n + 1, v1, v2, v3, v4 =>
   bif' (ilt v1 (len a0))
   (req (inL v1 a0) <|
    req (nz (len a0)) <|
    req (inL (irem (iadd .i64 v1 1) (len a0)) a0) <|
    bnd (tourref2_Cross k (el Z24 a0 v1) (el Z24 a0 (irem (iadd .i64 v1 1) (len a0)))) fun y9 =>
    bnd (tourref2_Of k (iadd .i64 (el Z24 a0 v1).1 (el Z24 a0 (irem (iadd .i64 v1 1) (len a0))).1)) fun y11 =>
    bnd (tourref2_Big_Mul k y11 y9) fun y13 =>
    bnd (tourref2_Big_Add k v2 y13) fun y15 =>
    bnd (tourref2_Of k (iadd .i64 (el Z24 a0 v1).2.1 (el Z24 a0 (irem (iadd .i64 v1 1) (len a0))).2.1)) fun y17 =>
    bnd (tourref2_Big_Mul k y17 y9) fun y19 =>
    bnd (tourref2_Big_Add k v3 y19) fun y21 =>
    bnd (tourref2_Big_Add k v4 y9) fun y23 =>
    tourref2_Centre.c1 k a0 n (iadd .i64 v1 1) y15 y21 y23)
   (some (v2, v3, v4))
def tourref2_Centre (k : Nat) (a0 : (List V24)) : Option V24 :=
  bnd (tourref2_Centre.c1 k a0 k 0 (List.replicate 8 0) (List.replicate 8 0) (List.replicate 8 0)) fun o25 =>
  bnd (tourref2_Big_Wide k o25.2.2) fun y27 =>
  bnd (tourref2_Big_Over k o25.1 (imul .i64 3 (icv .i64 y27.2.1))) fun y29 =>
  bnd (tourref2_Big_Over k o25.2.1 (imul .i64 3 (icv .i64 y27.2.1))) fun y31 =>
  some (y29.1, y31.1, ())
noncomputable def tourref2_Centre.sp (k : Nat) : Go.Sx.Spec := ⟨(.pair T22 .unit), (.one (.dp T24)), fun x => tourref2_Centre k x.1, false⟩
noncomputable def tourref2_Centre.cx (k : Nat) : Go.Sx.Ctx := ⟨tys, [(44, tourref2_Cross.sp k), (36, tourref2_Of.sp k), (37, tourref2_Big_Mul.sp k), (39, tourref2_Big_Add.sp k), (38, tourref2_Big_Wide.sp k), (45, tourref2_Big_Over.sp k)], eqs, 78, false⟩
theorem tourref2_Centre.cok (k : Nat) : CtxOk PR (tourref2_Centre.cx k) := ctx_ok tysOk eqsOk (FnsOk.cons (tourref2_Cross.ok k) (FnsOk.cons (tourref2_Of.ok k) (FnsOk.cons (tourref2_Big_Mul.ok k) (FnsOk.cons (tourref2_Big_Add.ok k) (FnsOk.cons (tourref2_Big_Wide.ok k) (FnsOk.cons (tourref2_Big_Over.ok k) FnsOk.nil))))))
noncomputable def tourref2_Centre.c1p (a0 : (List V24)) (v1 : Int) (v2 : (List Int)) (v3 : (List Int)) (v4 : (List Int)) : SL := ⟨[(0, (.val T22 a0)), (2, (.val .ptr ⟨0, 0, (0 : Int), 0, 0⟩)), (3, (.val .ptr ⟨1, 0, (0 : Int), 0, 0⟩)), (4, (.val .ptr ⟨2, 0, (0 : Int), 0, 0⟩)), (5, (.val .ptr ⟨3, 0, (0 : Int), 0, 0⟩)), (16, (.val T22 a0)), (17, (.val T3 (len a0))), (18, (.val T3 v1))], [(0, .cells T24 ((0 : Int), (0 : Int), ())), (1, .cells T52 v2), (2, .cells T52 v3), (3, .cells T52 v4)]⟩
noncomputable def tourref2_Centre.c1q (o : ((List Int) × ((List Int) × (List Int)))) : SL := (fun v => ⟨[(2, (.val .ptr ⟨0, 0, (0 : Int), 0, 0⟩)), (3, (.val .ptr ⟨1, 0, (0 : Int), 0, 0⟩)), (4, (.val .ptr ⟨2, 0, (0 : Int), 0, 0⟩)), (5, (.val .ptr ⟨3, 0, (0 : Int), 0, 0⟩))], [(0, .cells T24 ((0 : Int), (0 : Int), ())), (1, .cells T52 v.1), (2, .cells T52 v.2.1), (3, .cells T52 v.2.2)]⟩) o
noncomputable def tourref2_Centre.c1x (o : ((List Int) × ((List Int) × (List Int)))) : Ex := (fun _ => (.exit 0)) o
noncomputable def tourref2_Centre.c1n (o : ((List Int) × ((List Int) × (List Int)))) : Nat := (fun _ => 4) o
theorem tourref2_Centre.c1_ok (k : Nat) (a0 : (List V24)) : ∀ (n : Nat) (v1 : Int) (v2 : (List Int)) (v3 : (List Int)) (v4 : (List Int)), Owp (tourref2_Centre.c1 k a0 n v1 v2 v3 v4) fun o => LTriple PR (tourref2_Centre.cx k) (sub tourref2_Centre.code [1, 1, 1, 0, 1, 0, 0]) 4 (tourref2_Centre.c1p a0 v1 v2 v3 v4) (tourref2_Centre.c1x o) (tourref2_Centre.c1n o) (tourref2_Centre.c1q o)
  | 0, _, _, _, _ => fun _ h => nomatch h
  | n + 1, v1, v2, v3, v4 => Owp.of (tourref2_Centre.c1.eq_2 ..) (
   Owp.bif (fun e5 =>
   Owp.req fun h6 =>
    Owp.req fun h7 =>
    Owp.req fun h8 =>
    Owp.bnd fun y9 e10 =>
    Owp.bnd fun y11 e12 =>
    Owp.bnd fun y13 e14 =>
    Owp.bnd fun y15 e16 =>
    Owp.bnd fun y17 e18 =>
    Owp.bnd fun y19 e20 =>
    Owp.bnd fun y21 e22 =>
    Owp.bnd fun y23 e24 =>
    fun y hy => loop_back (tourref2_Centre.cok k) hmix 4 (tourref2_Centre.c1p a0 (iadd .i64 v1 (1 : Int)) y15 y21 y23) [.dec true, .res (.one (.dp T52)) y9, .res (.one (.dp T52)) y11, .res (.one (.dp T52)) y13, .res (.one (.dp T52)) y15, .res (.one (.dp T52)) y17, .res (.one (.dp T52)) y19, .res (.one (.dp T52)) y21, .res (.one (.dp T52)) y23] [] [(0, 0), (1, 1), (2, 2), (3, 3)] (via (finP (And.intro (And.intro (And.intro (And.intro (And.intro (And.intro (And.intro (And.intro (And.intro (And.intro (And.intro (And.intro trivial e5) h6) h7) h8) e10) e12) e14) e16) e18) e20) e22) e24) .normal [(0, 0), (1, 1), (2, 2), (3, 3)] (tourref2_Centre.c1p a0 (iadd .i64 v1 (1 : Int)) y15 y21 y23)) (by kernel_rfl)) ((tourref2_Centre.c1_ok k a0 n (iadd .i64 v1 (1 : Int)) y15 y21 y23).ap hy)) (fun e5 =>
   Owp.some (loop_exit (tourref2_Centre.cok k) hmix [.dec false] [] [(0, 0), (1, 1), (2, 2), (3, 3)] (exne 0) (via (finP (And.intro trivial e5) (.exit 0) [(0, 0), (1, 1), (2, 2), (3, 3)] (tourref2_Centre.c1q (v2, v3, v4))) (by kernel_rfl)))))
theorem tourref2_Centre.way (k : Nat) (a0 : (List V24)) : Owp (tourref2_Centre k a0) fun y => ∃ answers cmds, exec PR (tourref2_Centre.cx k) tourref2_Centre.code 0 (entry (.pair T22 .unit) (a0, ())).st answers (Ret (tourref2_Centre.cx k) Try.f60 cmds (.one (.dp T24)) y) := by
  unfold tourref2_Centre; exact
   Owp.bnd fun o25 e26 =>
   Owp.bnd fun y27 e28 =>
   Owp.bnd fun y29 e30 =>
   Owp.bnd fun y31 e32 =>
   Owp.some (⟨[.cut ⟨[], [(0, 0), (1, 1), (2, 2), (3, 4)], (tourref2_Centre.c1p a0 (0 : Int) (List.replicate 8 (0 : Int)) (List.replicate 8 (0 : Int)) (List.replicate 8 (0 : Int))), 4, (.exit 0), (tourref2_Centre.c1q o25), 4⟩, .res (.one (.dp T40)) y27, .res (.more (.dp T3) (.one (.dp T3))) y29, .res (.more (.dp T3) (.one (.dp T3))) y31], [], via (cutP trivial [(0, 0), (1, 1), (2, 2), (3, 4)] (tourref2_Centre.c1p a0 (0 : Int) (List.replicate 8 (0 : Int)) (List.replicate 8 (0 : Int)) (List.replicate 8 (0 : Int))) (((tourref2_Centre.c1_ok k a0 k (0 : Int) (List.replicate 8 (0 : Int)) (List.replicate 8 (0 : Int)) (List.replicate 8 (0 : Int))).ap e26).triple) (retP (And.intro (And.intro (And.intro trivial e28) e30) e32) (.one (.dp T24)) ((y29.1, y31.1, ()) : V24))) (by kernel_rfl)⟩)
theorem tourref2_Centre.ok (k : Nat) : FnOk PR 60 (tourref2_Centre.sp k) :=
  fn_ok (tourref2_Centre.cok k) hmix Try.func60 (code := tourref2_Centre.code) (by kernel_rfl) (by kernel_rfl) (by kernel_rfl) rfl (by kernel_rfl) (by kernel_rfl) (by kernel_rfl) (fun x => Nat.le_of_ble_eq_true (by kernel_rfl)) fun x y hy => (tourref2_Centre.way k x.1).ap hy

/-! tourney/tourref2.Moved -/
noncomputable def tourref2_Moved.code : Code := Func.cd Try.f59
def tourref2_Moved.c1 (k : Nat) (a0 : (List V24)) (a1 : V24) : Nat → Int → (List V24) → Option ((List V24))
  | 0, _, _ => none
  | n + 1, v1, v2 =>
   bif' (ilt v1 (len a0))
   (req (inL v1 a0) <|
    bnd (tourref2_sub k (el Z24 a0 v1) a1) fun y5 =>
    req (room 16 v2 [y5]) <|
    tourref2_Moved.c1 k a0 a1 n (iadd .i64 v1 1) (v2 ++ [y5]))
   (some v2)
def tourref2_Moved (k : Nat) (a0 : (List V24)) (a1 : V24) : Option (List V24) :=
  bnd (tourref2_Moved.c1 k a0 a1 k 0 []) fun o8 =>
  some o8
noncomputable def tourref2_Moved.sp (k : Nat) : Go.Sx.Spec := ⟨(.pair T22 (.pair T24 .unit)), (.one (.ow T24 24)), fun x => tourref2_Moved k x.1 x.2.1, false⟩
noncomputable def tourref2_Moved.cx (k : Nat) : Go.Sx.Ctx := ⟨tys, [(91, tourref2_sub.sp k)], eqs, 22, false⟩
theorem tourref2_Moved.cok (k : Nat) : CtxOk PR (tourref2_Moved.cx k) := ctx_ok tysOk eqsOk (FnsOk.cons (tourref2_sub.ok k) FnsOk.nil)
noncomputable def tourref2_Moved.c1p (a0 : (List V24)) (a1 : V24) (v1 : Int) (v2 : (List V24)) : SL := ⟨[(3, (.val .ptr ⟨0, 0, (0 : Int), 0, 0⟩)), (5, (.val .own (1 : Nat))), (8, (.val T22 a0)), (9, (.val T3 (len a0))), (10, (.val T3 v1))], [(0, .cells T24 a1), (1, .row T24 v2 24)]⟩
noncomputable def tourref2_Moved.c1q (o : (List V24)) : SL := (fun v => ⟨[(5, (.val .own (0 : Nat)))], [(0, .row T24 v 24)]⟩) o
noncomputable def tourref2_Moved.c1x (o : (List V24)) : Ex := (fun _ => (.exit 0)) o
noncomputable def tourref2_Moved.c1n (o : (List V24)) : Nat := (fun _ => 1) o
theorem tourref2_Moved.c1_ok (k : Nat) (a0 : (List V24)) (a1 : V24) : ∀ (n : Nat) (v1 : Int) (v2 : (List V24)), Owp (tourref2_Moved.c1 k a0 a1 n v1 v2) fun o => LTriple PR (tourref2_Moved.cx k) (sub tourref2_Moved.code [1, 1, 0, 1, 0, 0]) 2 (tourref2_Moved.c1p a0 a1 v1 v2) (tourref2_Moved.c1x o) (tourref2_Moved.c1n o) (tourref2_Moved.c1q o)
  | 0, _, _ => fun _ h => nomatch h
  | n + 1, v1, v2 => Owp.of (tourref2_Moved.c1.eq_2 ..) (
   Owp.bif (fun e3 =>
   Owp.req fun h4 =>
    Owp.bnd fun y5 e6 =>
    Owp.req fun h7 =>
    fun y hy => loop_back (tourref2_Moved.cok k) hmix 2 (tourref2_Moved.c1p a0 a1 (iadd .i64 v1 (1 : Int)) (v2 ++ [y5])) [.dec true, .res (.one (.dp T24)) y5, .dec true] [] [(0, 0), (1, 12)] (via (finP (And.intro (And.intro (And.intro (And.intro trivial e3) h4) e6) h7) .normal [(0, 0), (1, 12)] (tourref2_Moved.c1p a0 a1 (iadd .i64 v1 (1 : Int)) (v2 ++ [y5]))) (by kernel_rfl)) ((tourref2_Moved.c1_ok k a0 a1 n (iadd .i64 v1 (1 : Int)) (v2 ++ [y5])).ap hy)) (fun e3 =>
   Owp.some (loop_exit (tourref2_Moved.cok k) hmix [.dec false] [] [(0, 1)] (exne 0) (via (finP (And.intro trivial e3) (.exit 0) [(0, 1)] (tourref2_Moved.c1q v2)) (by kernel_rfl)))))
theorem tourref2_Moved.way (k : Nat) (a0 : (List V24)) (a1 : V24) : Owp (tourref2_Moved k a0 a1) fun y => ∃ answers cmds, exec PR (tourref2_Moved.cx k) tourref2_Moved.code 0 (entry (.pair T22 (.pair T24 .unit)) (a0, a1, ())).st answers (Ret (tourref2_Moved.cx k) Try.f59 cmds (.one (.ow T24 24)) y) := by
  unfold tourref2_Moved; exact
   Owp.bnd fun o8 e9 =>
   Owp.some (⟨[.cut ⟨[.own 5 T24 24], [(0, 0), (1, 6)], (tourref2_Moved.c1p a0 a1 (0 : Int) []), 2, (.exit 0), (tourref2_Moved.c1q o8), 1⟩], [], via (cutP trivial [(0, 0), (1, 6)] (tourref2_Moved.c1p a0 a1 (0 : Int) []) (((tourref2_Moved.c1_ok k a0 a1 k (0 : Int) []).ap e9).triple) (retP trivial (.one (.ow T24 24)) (o8 : (List V24)))) (by kernel_rfl)⟩)
theorem tourref2_Moved.ok (k : Nat) : FnOk PR 59 (tourref2_Moved.sp k) :=
  fn_ok (tourref2_Moved.cok k) hmix Try.func59 (code := tourref2_Moved.code) (by kernel_rfl) (by kernel_rfl) (by kernel_rfl) rfl (by kernel_rfl) (by kernel_rfl) (by kernel_rfl) (fun x => Nat.le_of_ble_eq_true (by kernel_rfl)) fun x y hy => (tourref2_Moved.way k x.1 x.2.1).ap hy

/-! tourney/tourref2.Mass -/
noncomputable def tourref2_Mass.code : Code := Func.cd Try.f58
def tourref2_Mass.c1 (k : Nat) (a0 : (List V24)) (a1 : Int) : Option (Bool) :=
  bnd (slices_ContainsFunc k a0 (fun x : (V24 × Unit) => tourref2_Mass_1 k (x.1))) fun y4 =>
  bif' y4
  (some true)
  (bif' (ilt a1 1)
   (some true)
   (some (igt a1 1048576)))
def tourref2_Mass.c2 (k : Nat) (y13 : (List V24)) : Nat → Int → (List Int) → Option ((List Int))
  | 0, _, _ => none
  | n + 1, v15, v16 =>
   bif' (ilt v15 (len y13))
   (req (inL v15 y13) <|
    req (nz (len y13)) <|
    req (inL (irem (iadd .i64 v15 1) (len y13)) y13) <|
    bnd (tourref2_Cross k (el Z24 y13 v15) (el Z24 y13 (irem (iadd .i64 v15 1) (len y13)))) fun y21 =>
    bnd (tourref2_Dot k (el Z24 y13 v15) (el Z24 y13 v15)) fun y23 =>
    bnd (tourref2_Dot k (el Z24 y13 v15) (el Z24 y13 (irem (iadd .i64 v15 1) (len y13)))) fun y25 =>
    bnd (tourref2_Big_Add k y23 y25) fun y27 =>
    bnd (tourref2_Dot k (el Z24 y13 (irem (iadd .i64 v15 1) (len y13))) (el Z24 y13 (irem (iadd .i64 v15 1) (len y13)))) fun y29 =>
    bnd (tourref2_Big_Add k y27 y29) fun y31 =>
    bnd (tourref2_Big_Mul k y21 y31) fun y33 =>
    bnd (tourref2_Big_Add k v16 y33) fun y35 =>
    tourref2_Mass.c2 k y13 n (iadd .i64 v15 1) y35)
   (some v16)
def tourref2_Mass.c3 (k : Nat) (y49 : (Int × Int)) (y57 : (Int × Int)) : Option (Bool) :=
  bif' (ieq y49.1 0)
  (some true)
  (some (ieq y57.1 0))
def tourref2_Mass (k : Nat) (a0 : (List V24)) (a1 : Int) : Option (Int × (Int × (V24 × Int))) :=
  bnd (tourref2_Poly k a0) fun y1 =>
  bif' (ine y1 0)
  (some (0, 0, (0, 0, ()), y1))
  (bnd (tourref2_Mass.c1 k a0 a1) fun o8 =>
   bif' o8
   (some (0, 0, (0, 0, ()), 1))
   (bnd (tourref2_Centre k a0) fun y11 =>
    bnd (tourref2_Moved k a0 y11) fun y13 =>
    bnd (tourref2_Mass.c2 k y13 k 0 (List.replicate 8 0)) fun o37 =>
    bnd (tourref2_Big_Over k o37 51539607552) fun y39 =>
    bnd (tourref2_Area k a0) fun y41 =>
    bnd (tourref2_Of k y41) fun y43 =>
    bnd (tourref2_Of k a1) fun y45 =>
    bnd (tourref2_Big_Mul k y43 y45) fun y47 =>
    bnd (tourref2_Big_Over k y47 8589934592) fun y49 =>
    bnd (tourref2_Of k y39.1) fun y51 =>
    bnd (tourref2_Of k a1) fun y53 =>
    bnd (tourref2_Big_Mul k y51 y53) fun y55 =>
    bnd (tourref2_Big_Over k y55 4294967296) fun y57 =>
    bnd (tourref2_Mass.c3 k y49 y57) fun o60 =>
    bif' o60
    (some (0, 0, (0, 0, ()), 17))
    (bif' (igt (imax y49.1 y57.1) 1099511627776)
     (some (0, 0, (0, 0, ()), 2))
     (some (y49.1, y57.1, y11, 0)))))
noncomputable def tourref2_Mass.sp (k : Nat) : Go.Sx.Spec := ⟨(.pair T22 (.pair T3 .unit)), (.more (.dp T3) (.more (.dp T3) (.more (.dp T24) (.one (.dp T3))))), fun x => tourref2_Mass k x.1 x.2.1, false⟩
noncomputable def tourref2_Mass.cx (k : Nat) : Go.Sx.Ctx := ⟨tys, [(16, tourref2_Poly.sp k), (73, slices_ContainsFunc.sp k), (98, tourref2_Mass_1.sp k), (60, tourref2_Centre.sp k), (59, tourref2_Moved.sp k), (44, tourref2_Cross.sp k), (42, tourref2_Dot.sp k), (39, tourref2_Big_Add.sp k), (37, tourref2_Big_Mul.sp k), (45, tourref2_Big_Over.sp k), (21, tourref2_Area.sp k), (36, tourref2_Of.sp k)], eqs, 115, false⟩
theorem tourref2_Mass.cok (k : Nat) : CtxOk PR (tourref2_Mass.cx k) := ctx_ok tysOk eqsOk (FnsOk.cons (tourref2_Poly.ok k) (FnsOk.cons (slices_ContainsFunc.ok k) (FnsOk.cons (tourref2_Mass_1.ok k) (FnsOk.cons (tourref2_Centre.ok k) (FnsOk.cons (tourref2_Moved.ok k) (FnsOk.cons (tourref2_Cross.ok k) (FnsOk.cons (tourref2_Dot.ok k) (FnsOk.cons (tourref2_Big_Add.ok k) (FnsOk.cons (tourref2_Big_Mul.ok k) (FnsOk.cons (tourref2_Big_Over.ok k) (FnsOk.cons (tourref2_Area.ok k) (FnsOk.cons (tourref2_Of.ok k) FnsOk.nil))))))))))))
noncomputable def tourref2_Mass.c1p (a0 : (List V24)) (a1 : Int) : SL := ⟨[(0, (.val T22 a0)), (1, (.val T3 a1)), (6, (.val .ptr ⟨0, 0, (0 : Int), 0, 0⟩))], [(0, .cells T24 ((0 : Int), (0 : Int), ()))]⟩
noncomputable def tourref2_Mass.c1q (a0 : (List V24)) (a1 : Int) (o : Bool) : SL := (fun v => ⟨[(0, (.val T22 a0)), (1, (.val T3 a1)), (6, (.val .ptr ⟨0, 0, (0 : Int), 0, 0⟩)), (36, (.val T4 v))], [(0, .cells T24 ((0 : Int), (0 : Int), ()))]⟩) o
noncomputable def tourref2_Mass.c1x (o : Bool) : Ex := (fun _ => .normal) o
noncomputable def tourref2_Mass.c1n (o : Bool) : Nat := (fun _ => 1) o
theorem tourref2_Mass.c1_ok (k : Nat) (a0 : (List V24)) (a1 : Int) : Owp (tourref2_Mass.c1 k a0 a1) fun o => Triple PR (tourref2_Mass.cx k) (sub tourref2_Mass.code [1, 1, 0, 0]) 1 (tourref2_Mass.c1p a0 a1) (tourref2_Mass.c1x o) (tourref2_Mass.c1n o) (tourref2_Mass.c1q a0 a1 o) := by
  unfold tourref2_Mass.c1; exact
   Owp.bnd fun y4 e5 =>
   Owp.bif (fun e6 =>
   Owp.some (triple_way (tourref2_Mass.cok k) hmix [.res (.one (.dp T4)) y4, .dec true, .dec true, .dec true, .dec true, .dec true, .dec true] [] [(0, 0)] (via (finP (And.intro (And.intro (And.intro (And.intro (And.intro (And.intro (And.intro trivial e5) e6) e6) e6) tt) tt) tt) .normal [(0, 0)] (tourref2_Mass.c1q a0 a1 true)) (by kernel_rfl)))) (fun e6 =>
   Owp.bif (fun e7 =>
    Owp.some (triple_way (tourref2_Mass.cok k) hmix [.res (.one (.dp T4)) y4, .dec false, .dec false, .dec false, .dec true, .dec true, .dec true] [] [(0, 0)] (via (finP (And.intro (And.intro (And.intro (And.intro (And.intro (And.intro (And.intro trivial e5) e6) e6) e6) e7) e7) e7) .normal [(0, 0)] (tourref2_Mass.c1q a0 a1 true)) (by kernel_rfl)))) (fun e7 =>
    Owp.some (triple_way (tourref2_Mass.cok k) hmix [.res (.one (.dp T4)) y4, .dec false, .dec false, .dec false, .dec false, .dec false, .dec false] [] [(0, 0)] (via (finP (And.intro (And.intro (And.intro (And.intro (And.intro (And.intro (And.intro trivial e5) e6) e6) e6) e7) e7) e7) .normal [(0, 0)] (tourref2_Mass.c1q a0 a1 (igt a1 (1048576 : Int)))) (by kernel_rfl)))))
noncomputable def tourref2_Mass.c2p (a0 : (List V24)) (a1 : Int) (y11 : V24) (y13 : (List V24)) (v15 : Int) (v16 : (List Int)) : SL := ⟨[(0, (.val T22 a0)), (1, (.val T3 a1)), (6, (.val .ptr ⟨0, 0, (0 : Int), 0, 0⟩)), (9, (.val .ptr ⟨1, 0, (0 : Int), 0, 0⟩)), (10, (.val .ptr ⟨2, 0, (0 : Int), 0, 0⟩)), (11, (.val .own (3 : Nat))), (43, (.val .own (3 : Nat))), (44, (.val T3 (len y13))), (45, (.val T3 v15))], [(0, .cells T24 ((0 : Int), (0 : Int), ())), (1, .cells T24 y11), (2, .cells T52 v16), (3, .row T24 y13 24)]⟩
noncomputable def tourref2_Mass.c2q (a0 : (List V24)) (a1 : Int) (y11 : V24) (o : (List Int)) : SL := (fun v => ⟨[(0, (.val T22 a0)), (1, (.val T3 a1)), (6, (.val .ptr ⟨0, 0, (0 : Int), 0, 0⟩)), (9, (.val .ptr ⟨1, 0, (0 : Int), 0, 0⟩)), (10, (.val .ptr ⟨2, 0, (0 : Int), 0, 0⟩))], [(0, .cells T24 ((0 : Int), (0 : Int), ())), (1, .cells T24 y11), (2, .cells T52 v)]⟩) o
noncomputable def tourref2_Mass.c2x (o : (List Int)) : Ex := (fun _ => (.exit 0)) o
noncomputable def tourref2_Mass.c2n (o : (List Int)) : Nat := (fun _ => 3) o
theorem tourref2_Mass.c2_ok (k : Nat) (a0 : (List V24)) (a1 : Int) (y11 : V24) (y13 : (List V24)) : ∀ (n : Nat) (v15 : Int) (v16 : (List Int)), Owp (tourref2_Mass.c2 k y13 n v15 v16) fun o => LTriple PR (tourref2_Mass.cx k) (sub tourref2_Mass.code [1, 1, 1, 1, 1, 1, 0, 1, 0, 0]) 4 (tourref2_Mass.c2p a0 a1 y11 y13 v15 v16) (tourref2_Mass.c2x o) (tourref2_Mass.c2n o) (tourref2_Mass.c2q a0 a1 y11 o)
  | 0, _, _ => fun _ h => nomatch h
  | n + 1, v15, v16 => Owp.of (tourref2_Mass.c2.eq_2 ..) (
   Owp.bif (fun e17 =>
   Owp.req fun h18 =>
    Owp.req fun h19 =>
    Owp.req fun h20 =>
    Owp.bnd fun y21 e22 =>
    Owp.bnd fun y23 e24 =>
    Owp.bnd fun y25 e26 =>
    Owp.bnd fun y27 e28 =>
    Owp.bnd fun y29 e30 =>
    Owp.bnd fun y31 e32 =>
    Owp.bnd fun y33 e34 =>
    Owp.bnd fun y35 e36 =>
    fun y hy => loop_back (tourref2_Mass.cok k) hmix 4 (tourref2_Mass.c2p a0 a1 y11 y13 (iadd .i64 v15 (1 : Int)) y35) [.dec true, .res (.one (.dp T52)) y21, .res (.one (.dp T52)) y23, .res (.one (.dp T52)) y25, .res (.one (.dp T52)) y27, .res (.one (.dp T52)) y29, .res (.one (.dp T52)) y31, .res (.one (.dp T52)) y33, .res (.one (.dp T52)) y35] [] [(0, 0), (1, 1), (2, 2), (3, 3)] (via (finP (And.intro (And.intro (And.intro (And.intro (And.intro (And.intro (And.intro (And.intro (And.intro (And.intro (And.intro (And.intro (And.intro (And.intro trivial e17) h18) h18) h19) h20) h20) e22) e24) e26) e28) e30) e32) e34) e36) .normal [(0, 0), (1, 1), (2, 2), (3, 3)] (tourref2_Mass.c2p a0 a1 y11 y13 (iadd .i64 v15 (1 : Int)) y35)) (by kernel_rfl)) ((tourref2_Mass.c2_ok k a0 a1 y11 y13 n (iadd .i64 v15 (1 : Int)) y35).ap hy)) (fun e17 =>
   Owp.some (loop_exit (tourref2_Mass.cok k) hmix [.dec false] [] [(0, 0), (1, 1), (2, 2)] (exne 0) (via (finP (And.intro trivial e17) (.exit 0) [(0, 0), (1, 1), (2, 2)] (tourref2_Mass.c2q a0 a1 y11 v16)) (by kernel_rfl)))))
noncomputable def tourref2_Mass.c3p (y11 : V24) (y49 : (Int × Int)) (y57 : (Int × Int)) : SL := ⟨[(6, (.val .ptr ⟨0, 0, (0 : Int), 0, 0⟩)), (9, (.val .ptr ⟨1, 0, (0 : Int), 0, 0⟩)), (17, (.val T3 y49.1)), (19, (.val T3 y57.1))], [(0, .cells T24 ((0 : Int), (0 : Int), ())), (1, .cells T24 y11)]⟩
noncomputable def tourref2_Mass.c3q (y11 : V24) (y49 : (Int × Int)) (y57 : (Int × Int)) (o : Bool) : SL := (fun v => ⟨[(6, (.val .ptr ⟨0, 0, (0 : Int), 0, 0⟩)), (9, (.val .ptr ⟨1, 0, (0 : Int), 0, 0⟩)), (17, (.val T3 y49.1)), (19, (.val T3 y57.1)), (105, (.val T4 v))], [(0, .cells T24 ((0 : Int), (0 : Int), ())), (1, .cells T24 y11)]⟩) o
noncomputable def tourref2_Mass.c3x (o : Bool) : Ex := (fun _ => .normal) o
noncomputable def tourref2_Mass.c3n (o : Bool) : Nat := (fun _ => 2) o
theorem tourref2_Mass.c3_ok (k : Nat) (y11 : V24) (y49 : (Int × Int)) (y57 : (Int × Int)) : Owp (tourref2_Mass.c3 k y49 y57) fun o => Triple PR (tourref2_Mass.cx k) (sub tourref2_Mass.code [1, 1, 1, 1, 1, 1, 1, 1, 1, 1, 0, 0]) 2 (tourref2_Mass.c3p y11 y49 y57) (tourref2_Mass.c3x o) (tourref2_Mass.c3n o) (tourref2_Mass.c3q y11 y49 y57 o) := by
  unfold tourref2_Mass.c3; exact
   Owp.bif (fun e59 =>
   Owp.some (triple_way (tourref2_Mass.cok k) hmix [.dec true, .dec true, .dec true] [] [(0, 0), (1, 1)] (via (finP (And.intro (And.intro (And.intro trivial e59) e59) e59) .normal [(0, 0), (1, 1)] (tourref2_Mass.c3q y11 y49 y57 true)) (by kernel_rfl)))) (fun e59 =>
   Owp.some (triple_way (tourref2_Mass.cok k) hmix [.dec false, .dec false, .dec false] [] [(0, 0), (1, 1)] (via (finP (And.intro (And.intro (And.intro trivial e59) e59) e59) .normal [(0, 0), (1, 1)] (tourref2_Mass.c3q y11 y49 y57 (ieq y57.1 (0 : Int)))) (by kernel_rfl))))
theorem tourref2_Mass.way (k : Nat) (a0 : (List V24)) (a1 : Int) : Owp (tourref2_Mass k a0 a1) fun y => ∃ answers cmds, exec PR (tourref2_Mass.cx k) tourref2_Mass.code 0 (entry (.pair T22 (.pair T3 .unit)) (a0, a1, ())).st answers (Ret (tourref2_Mass.cx k) Try.f58 cmds (.more (.dp T3) (.more (.dp T3) (.more (.dp T24) (.one (.dp T3))))) y) := by
  unfold tourref2_Mass; exact
   Owp.bnd fun y1 e2 =>
   Owp.bif (fun e3 =>
   Owp.some (⟨[.res (.one (.dp T3)) y1, .dec true], [], via (retP (And.intro (And.intro trivial e2) e3) (.more (.dp T3) (.more (.dp T3) (.more (.dp T24) (.one (.dp T3))))) (((0 : Int), (0 : Int), ((0 : Int), (0 : Int), ()), y1) : (Int × (Int × (V24 × Int))))) (by kernel_rfl)⟩)) (fun e3 =>
   Owp.bnd fun o8 e9 =>
    Owp.bif (fun e10 =>
    Owp.some (⟨[.res (.one (.dp T3)) y1, .dec false, .cutR 4 ⟨[], [(0, 2)], (tourref2_Mass.c1p a0 a1), 1, .normal, (tourref2_Mass.c1q a0 a1 o8), 1⟩, .dec true], [], via (cutP (And.intro (And.intro trivial e2) e3) [(0, 2)] (tourref2_Mass.c1p a0 a1) (((tourref2_Mass.c1_ok k a0 a1).ap e9)) (retP (And.intro trivial e10) (.more (.dp T3) (.more (.dp T3) (.more (.dp T24) (.one (.dp T3))))) (((0 : Int), (0 : Int), ((0 : Int), (0 : Int), ()), (1 : Int)) : (Int × (Int × (V24 × Int)))))) (by kernel_rfl)⟩)) (fun e10 =>
    Owp.bnd fun y11 e12 =>
     Owp.bnd fun y13 e14 =>
     Owp.bnd fun o37 e38 =>
     Owp.bnd fun y39 e40 =>
     Owp.bnd fun y41 e42 =>
     Owp.bnd fun y43 e44 =>
     Owp.bnd fun y45 e46 =>
     Owp.bnd fun y47 e48 =>
     Owp.bnd fun y49 e50 =>
     Owp.bnd fun y51 e52 =>
     Owp.bnd fun y53 e54 =>
     Owp.bnd fun y55 e56 =>
     Owp.bnd fun y57 e58 =>
     Owp.bnd fun o60 e61 =>
     Owp.bif (fun e62 =>
     Owp.some (⟨[.res (.one (.dp T3)) y1, .dec false, .cutR 4 ⟨[], [(0, 2)], (tourref2_Mass.c1p a0 a1), 1, .normal, (tourref2_Mass.c1q a0 a1 o8), 1⟩, .dec false, .res (.one (.dp T24)) y11, .res (.one (.ow T24 24)) y13, .cut ⟨[], [(0, 0), (1, 3), (2, 5), (3, 8)], (tourref2_Mass.c2p a0 a1 y11 y13 (0 : Int) (List.replicate 8 (0 : Int))), 4, (.exit 0), (tourref2_Mass.c2q a0 a1 y11 o37), 3⟩, .res (.more (.dp T3) (.one (.dp T3))) y39, .res (.one (.dp T3)) y41, .res (.one (.dp T52)) y43, .res (.one (.dp T52)) y45, .res (.one (.dp T52)) y47, .res (.more (.dp T3) (.one (.dp T3))) y49, .res (.one (.dp T52)) y51, .res (.one (.dp T52)) y53, .res (.one (.dp T52)) y55, .res (.more (.dp T3) (.one (.dp T3))) y57, .cutR 18 ⟨[], [(0, 0), (1, 1)], (tourref2_Mass.c3p y11 y49 y57), 2, .normal, (tourref2_Mass.c3q y11 y49 y57 o60), 2⟩, .dec true], [], via (cutP (And.intro (And.intro trivial e2) e3) [(0, 2)] (tourref2_Mass.c1p a0 a1) (((tourref2_Mass.c1_ok k a0 a1).ap e9)) (cutP (And.intro (And.intro (And.intro trivial e10) e12) e14) [(0, 0), (1, 3), (2, 5), (3, 8)] (tourref2_Mass.c2p a0 a1 y11 y13 (0 : Int) (List.replicate 8 (0 : Int))) (((tourref2_Mass.c2_ok k a0 a1 y11 y13 k (0 : Int) (List.replicate 8 (0 : Int))).ap e38).triple) (cutP (And.intro (And.intro (And.intro (And.intro (And.intro (And.intro (And.intro (And.intro (And.intro (And.intro trivial e40) e42) e44) e46) e48) e50) e52) e54) e56) e58) [(0, 0), (1, 1)] (tourref2_Mass.c3p y11 y49 y57) (((tourref2_Mass.c3_ok k y11 y49 y57).ap e61)) (retP (And.intro trivial e62) (.more (.dp T3) (.more (.dp T3) (.more (.dp T24) (.one (.dp T3))))) (((0 : Int), (0 : Int), ((0 : Int), (0 : Int), ()), (17 : Int)) : (Int × (Int × (V24 × Int)))))))) (by kernel_rfl)⟩)) (fun e62 =>
     Owp.bif (fun e63 =>
      Owp.some (⟨[.res (.one (.dp T3)) y1, .dec false, .cutR 4 ⟨[], [(0, 2)], (tourref2_Mass.c1p a0 a1), 1, .normal, (tourref2_Mass.c1q a0 a1 o8), 1⟩, .dec false, .res (.one (.dp T24)) y11, .res (.one (.ow T24 24)) y13, .cut ⟨[], [(0, 0), (1, 3), (2, 5), (3, 8)], (tourref2_Mass.c2p a0 a1 y11 y13 (0 : Int) (List.replicate 8 (0 : Int))), 4, (.exit 0), (tourref2_Mass.c2q a0 a1 y11 o37), 3⟩, .res (.more (.dp T3) (.one (.dp T3))) y39, .res (.one (.dp T3)) y41, .res (.one (.dp T52)) y43, .res (.one (.dp T52)) y45, .res (.one (.dp T52)) y47, .res (.more (.dp T3) (.one (.dp T3))) y49, .res (.one (.dp T52)) y51, .res (.one (.dp T52)) y53, .res (.one (.dp T52)) y55, .res (.more (.dp T3) (.one (.dp T3))) y57, .cutR 18 ⟨[], [(0, 0), (1, 1)], (tourref2_Mass.c3p y11 y49 y57), 2, .normal, (tourref2_Mass.c3q y11 y49 y57 o60), 2⟩, .dec false, .dec true], [], via (cutP (And.intro (And.intro trivial e2) e3) [(0, 2)] (tourref2_Mass.c1p a0 a1) (((tourref2_Mass.c1_ok k a0 a1).ap e9)) (cutP (And.intro (And.intro (And.intro trivial e10) e12) e14) [(0, 0), (1, 3), (2, 5), (3, 8)] (tourref2_Mass.c2p a0 a1 y11 y13 (0 : Int) (List.replicate 8 (0 : Int))) (((tourref2_Mass.c2_ok k a0 a1 y11 y13 k (0 : Int) (List.replicate 8 (0 : Int))).ap e38).triple) (cutP (And.intro (And.intro (And.intro (And.intro (And.intro (And.intro (And.intro (And.intro (And.intro (And.intro trivial e40) e42) e44) e46) e48) e50) e52) e54) e56) e58) [(0, 0), (1, 1)] (tourref2_Mass.c3p y11 y49 y57) (((tourref2_Mass.c3_ok k y11 y49 y57).ap e61)) (retP (And.intro (And.intro trivial e62) e63) (.more (.dp T3) (.more (.dp T3) (.more (.dp T24) (.one (.dp T3))))) (((0 : Int), (0 : Int), ((0 : Int), (0 : Int), ()), (2 : Int)) : (Int × (Int × (V24 × Int)))))))) (by kernel_rfl)⟩)) (fun e63 =>
      Owp.some (⟨[.res (.one (.dp T3)) y1, .dec false, .cutR 4 ⟨[], [(0, 2)], (tourref2_Mass.c1p a0 a1), 1, .normal, (tourref2_Mass.c1q a0 a1 o8), 1⟩, .dec false, .res (.one (.dp T24)) y11, .res (.one (.ow T24 24)) y13, .cut ⟨[], [(0, 0), (1, 3), (2, 5), (3, 8)], (tourref2_Mass.c2p a0 a1 y11 y13 (0 : Int) (List.replicate 8 (0 : Int))), 4, (.exit 0), (tourref2_Mass.c2q a0 a1 y11 o37), 3⟩, .res (.more (.dp T3) (.one (.dp T3))) y39, .res (.one (.dp T3)) y41, .res (.one (.dp T52)) y43, .res (.one (.dp T52)) y45, .res (.one (.dp T52)) y47, .res (.more (.dp T3) (.one (.dp T3))) y49, .res (.one (.dp T52)) y51, .res (.one (.dp T52)) y53, .res (.one (.dp T52)) y55, .res (.more (.dp T3) (.one (.dp T3))) y57, .cutR 18 ⟨[], [(0, 0), (1, 1)], (tourref2_Mass.c3p y11 y49 y57), 2, .normal, (tourref2_Mass.c3q y11 y49 y57 o60), 2⟩, .dec false, .dec false], [], via (cutP (And.intro (And.intro trivial e2) e3) [(0, 2)] (tourref2_Mass.c1p a0 a1) (((tourref2_Mass.c1_ok k a0 a1).ap e9)) (cutP (And.intro (And.intro (And.intro trivial e10) e12) e14) [(0, 0), (1, 3), (2, 5), (3, 8)] (tourref2_Mass.c2p a0 a1 y11 y13 (0 : Int) (List.replicate 8 (0 : Int))) (((tourref2_Mass.c2_ok k a0 a1 y11 y13 k (0 : Int) (List.replicate 8 (0 : Int))).ap e38).triple) (cutP (And.intro (And.intro (And.intro (And.intro (And.intro (And.intro (And.intro (And.intro (And.intro (And.intro trivial e40) e42) e44) e46) e48) e50) e52) e54) e56) e58) [(0, 0), (1, 1)] (tourref2_Mass.c3p y11 y49 y57) (((tourref2_Mass.c3_ok k y11 y49 y57).ap e61)) (retP (And.intro (And.intro trivial e62) e63) (.more (.dp T3) (.more (.dp T3) (.more (.dp T24) (.one (.dp T3))))) ((y49.1, y57.1, y11, (0 : Int)) : (Int × (Int × (V24 × Int)))))))) (by kernel_rfl)⟩)))))
theorem tourref2_Mass.ok (k : Nat) : FnOk PR 58 (tourref2_Mass.sp k) :=
  fn_ok (tourref2_Mass.cok k) hmix Try.func58 (code := tourref2_Mass.code) (by kernel_rfl) (by kernel_rfl) (by kernel_rfl) rfl (by kernel_rfl) (by kernel_rfl) (by kernel_rfl) (fun x => Nat.le_of_ble_eq_true (by kernel_rfl)) fun x y hy => (tourref2_Mass.way k x.1 x.2.1).ap hy

/-! tourney/tourlaw2.MassSays -/
noncomputable def tourlaw2_MassSays.code : Code := Func.cd Try.f11
def tourlaw2_MassSays.c1 (k : Nat) (y3 : (Int × (Int × (V24 × Int)))) : Option (Bool) :=
  bif' (ine y3.2.2.2 0)
  (some true)
  (bif' (ine y3.1 262144)
   (some true)
   (bif' (ine y3.2.1 174763)
    (some true)
    (some (!(Ty.eqb T24 y3.2.2.1 ((65536 : Int), (65536 : Int), ()))))))
def tourlaw2_MassSays.c2 (k : Nat) (y11 : (Int × (Int × (V24 × Int)))) (y13 : (Int × (Int × (V24 × Int)))) : Option (Bool) :=
  bif' (ine y11.1 y13.1)
  (some true)
  (bif' (ine y11.2.1 y13.2.1)
   (some true)
   (bif' (Ty.eqb T24 y11.2.2.1 y13.2.2.1)
    (some (ine y11.2.2.2 y13.2.2.2))
    (some true)))
def tourlaw2_MassSays.c3 (k : Nat) (a0 : (List V24)) (y23 : Int) : Option ((Int × (List V24))) :=
  bif' (ieq y23 0)
  (bnd (tourref2_Centre k a0) fun y26 =>
   bnd (tourref2_Moved k a0 y26) fun y28 =>
   bnd (tourref2_Poly k y28) fun y30 =>
   some (y30, y28))
  (some (y23, []))
def tourlaw2_MassSays.c4 (k : Nat) (o32 : (Int × (List V24))) (y21 : ((List V24) × Int)) : Option (Bool) :=
  bif' (ieq y21.2 o32.1)
  (some (ieq (len y21.1) 0))
  (some false)
def tourlaw2_MassSays (k : Nat) (a0 : (List V24)) (a1 : Int) : Option Bool :=
  bnd (tourlaw2_square k 0 0 2) fun y1 =>
  bnd (mass_Of k y1 65536) fun y3 =>
  bnd (tourlaw2_MassSays.c1 k y3) fun o8 =>
  bif' o8
  (some false)
  (bnd (mass_Of k a0 a1) fun y11 =>
   bnd (tourref2_Mass k a0 a1) fun y13 =>
   bnd (tourlaw2_MassSays.c2 k y11 y13) fun o18 =>
   bif' o18
   (some false)
   (bnd (mass_Centred k a0) fun y21 =>
    bnd (tourref2_Poly k a0) fun y23 =>
    bnd (tourlaw2_MassSays.c3 k a0 y23) fun o32 =>
    bif' (ine o32.1 0)
    (bnd (tourlaw2_MassSays.c4 k o32 y21) fun o36 =>
     some o36)
    (bif' (ieq y21.2 0)
     (bnd (slices_Equal k y21.1 o32.2) fun y39 =>
      some y39)
     (some false))))
noncomputable def tourlaw2_MassSays.sp (k : Nat) : Go.Sx.Spec := ⟨(.pair T22 (.pair T3 .unit)), (.one (.dp T4)), fun x => tourlaw2_MassSays k x.1 x.2.1, false⟩
noncomputable def tourlaw2_MassSays.cx (k : Nat) : Go.Sx.Ctx := ⟨tys, [(47, tourlaw2_square.sp k), (55, mass_Of.sp k), (58, tourref2_Mass.sp k), (57, mass_Centred.sp k), (16, tourref2_Poly.sp k), (60, tourref2_Centre.sp k), (59, tourref2_Moved.sp k), (51, slices_Equal.sp k)], eqs, 108, false⟩
theorem tourlaw2_MassSays.cok (k : Nat) : CtxOk PR (tourlaw2_MassSays.cx k) := ctx_ok tysOk eqsOk (FnsOk.cons (tourlaw2_square.ok k) (FnsOk.cons (mass_Of.ok k) (FnsOk.cons (tourref2_Mass.ok k) (FnsOk.cons (mass_Centred.ok k) (FnsOk.cons (tourref2_Poly.ok k) (FnsOk.cons (tourref2_Centre.ok k) (FnsOk.cons (tourref2_Moved.ok k) (FnsOk.cons (slices_Equal.ok k) FnsOk.nil))))))))
noncomputable def tourlaw2_MassSays.c1p (a0 : (List V24)) (a1 : Int) (y3 : (Int × (Int × (V24 × Int)))) : SL := ⟨[(0, (.val T22 a0)), (1, (.val T3 a1)), (5, (.val T3 y3.1)), (6, (.val T3 y3.2.1)), (7, (.val .ptr ⟨0, 0, (0 : Int), 0, 0⟩)), (8, (.val T3 y3.2.2.2))], [(0, .cells T24 y3.2.2.1)]⟩
noncomputable def tourlaw2_MassSays.c1q (a0 : (List V24)) (a1 : Int) (o : Bool) : SL := (fun v => ⟨[(0, (.val T22 a0)), (1, (.val T3 a1)), (41, (.val T4 v))], []⟩) o
noncomputable def tourlaw2_MassSays.c1x (o : Bool) : Ex := (fun _ => .normal) o
noncomputable def tourlaw2_MassSays.c1n (o : Bool) : Nat := (fun _ => 0) o
theorem tourlaw2_MassSays.c1_ok (k : Nat) (a0 : (List V24)) (a1 : Int) (y3 : (Int × (Int × (V24 × Int)))) : Owp (tourlaw2_MassSays.c1 k y3) fun o => Triple PR (tourlaw2_MassSays.cx k) (sub tourlaw2_MassSays.code [1, 0, 1, 0]) 1 (tourlaw2_MassSays.c1p a0 a1 y3) (tourlaw2_MassSays.c1x o) (tourlaw2_MassSays.c1n o) (tourlaw2_MassSays.c1q a0 a1 o) := by
  unfold tourlaw2_MassSays.c1; exact
   Owp.bif (fun e5 =>
   Owp.some (triple_way (tourlaw2_MassSays.cok k) hmix [.dec true, .dec true, .dec true, .dec true, .dec true, .dec true, .dec true, .dec true, .dec true, .dec true] [] [] (via (finP (And.intro (And.intro (And.intro (And.intro (And.intro (And.intro (And.intro (And.intro (And.intro (And.intro trivial e5) e5) e5) tt) tt) tt) tt) tt) tt) tt) .normal [] (tourlaw2_MassSays.c1q a0 a1 true)) (by kernel_rfl)))) (fun e5 =>
   Owp.bif (fun e6 =>
    Owp.some (triple_way (tourlaw2_MassSays.cok k) hmix [.dec false, .dec false, .dec false, .dec true, .dec true, .dec true, .dec true, .dec true, .dec true, .dec true] [] [] (via (finP (And.intro (And.intro (And.intro (And.intro (And.intro (And.intro (And.intro (And.intro (And.intro (And.intro trivial e5) e5) e5) e6) e6) e6) tt) tt) tt) tt) .normal [] (tourlaw2_MassSays.c1q a0 a1 true)) (by kernel_rfl)))) (fun e6 =>
    Owp.bif (fun e7 =>
     Owp.some (triple_way (tourlaw2_MassSays.cok k) hmix [.dec false, .dec false, .dec false, .dec false, .dec false, .dec false, .dec true, .dec true, .dec true, .dec true] [] [] (via (finP (And.intro (And.intro (And.intro (And.intro (And.intro (And.intro (And.intro (And.intro (And.intro (And.intro trivial e5) e5) e5) e6) e6) e6) e7) e7) e7) e7) .normal [] (tourlaw2_MassSays.c1q a0 a1 true)) (by kernel_rfl)))) (fun e7 =>
     Owp.some (triple_way (tourlaw2_MassSays.cok k) hmix [.dec false, .dec false, .dec false, .dec false, .dec false, .dec false, .dec false, .dec false, .dec false, .dec false] [] [] (via (finP (And.intro (And.intro (And.intro (And.intro (And.intro (And.intro (And.intro (And.intro (And.intro (And.intro trivial e5) e5) e5) e6) e6) e6) e7) e7) e7) e7) .normal [] (tourlaw2_MassSays.c1q a0 a1 (!(Ty.eqb T24 y3.2.2.1 ((65536 : Int), (65536 : Int), ()))))) (by kernel_rfl))))))
noncomputable def tourlaw2_MassSays.c2p (a0 : (List V24)) (y11 : (Int × (Int × (V24 × Int)))) (y13 : (Int × (Int × (V24 × Int)))) : SL := ⟨[(0, (.val T22 a0)), (9, (.val T3 y11.1)), (10, (.val T3 y11.2.1)), (11, (.val .ptr ⟨0, 0, (0 : Int), 0, 0⟩)), (12, (.val T3 y11.2.2.2)), (13, (.val T3 y13.1)), (14, (.val T3 y13.2.1)), (15, (.val .ptr ⟨1, 0, (0 : Int), 0, 0⟩)), (16, (.val T3 y13.2.2.2))], [(0, .cells T24 y11.2.2.1), (1, .cells T24 y13.2.2.1)]⟩
noncomputable def tourlaw2_MassSays.c2q (a0 : (List V24)) (o : Bool) : SL := (fun v => ⟨[(0, (.val T22 a0)), (75, (.val T4 v))], []⟩) o
noncomputable def tourlaw2_MassSays.c2x (o : Bool) : Ex := (fun _ => .normal) o
noncomputable def tourlaw2_MassSays.c2n (o : Bool) : Nat := (fun _ => 0) o
theorem tourlaw2_MassSays.c2_ok (k : Nat) (a0 : (List V24)) (y11 : (Int × (Int × (V24 × Int)))) (y13 : (Int × (Int × (V24 × Int)))) : Owp (tourlaw2_MassSays.c2 k y11 y13) fun o => Triple PR (tourlaw2_MassSays.cx k) (sub tourlaw2_MassSays.code [1, 1, 1, 1, 0, 0]) 2 (tourlaw2_MassSays.c2p a0 y11 y13) (tourlaw2_MassSays.c2x o) (tourlaw2_MassSays.c2n o) (tourlaw2_MassSays.c2q a0 o) := by
  unfold tourlaw2_MassSays.c2; exact
   Owp.bif (fun e15 =>
   Owp.some (triple_way (tourlaw2_MassSays.cok k) hmix [.dec true, .dec true, .dec true, .dec true, .dec true, .dec true, .dec true, .dec true, .dec true, .dec true, .dec true, .dec true] [] [] (via (finP (And.intro (And.intro (And.intro (And.intro (And.intro (And.intro (And.intro (And.intro (And.intro (And.intro (And.intro (And.intro trivial e15) e15) e15) e15) tt) tt) tt) tt) tt) tt) tt) tt) .normal [] (tourlaw2_MassSays.c2q a0 true)) (by kernel_rfl)))) (fun e15 =>
   Owp.bif (fun e16 =>
    Owp.some (triple_way (tourlaw2_MassSays.cok k) hmix [.dec false, .dec false, .dec false, .dec false, .dec true, .dec true, .dec true, .dec true, .dec true, .dec true, .dec true, .dec true] [] [] (via (finP (And.intro (And.intro (And.intro (And.intro (And.intro (And.intro (And.intro (And.intro (And.intro (And.intro (And.intro (And.intro trivial e15) e15) e15) e15) e16) e16) e16) e16) tt) tt) tt) tt) .normal [] (tourlaw2_MassSays.c2q a0 true)) (by kernel_rfl)))) (fun e16 =>
    Owp.bif (fun e17 =>
     Owp.some (triple_way (tourlaw2_MassSays.cok k) hmix [.dec false, .dec false, .dec false, .dec false, .dec false, .dec false, .dec false, .dec false, .dec false, .dec false, .dec false, .dec false] [] [] (via (finP (And.intro (And.intro (And.intro (And.intro (And.intro (And.intro (And.intro (And.intro (And.intro (And.intro (And.intro (And.intro trivial e15) e15) e15) e15) e16) e16) e16) e16) (congrArg not e17)) (congrArg not e17)) (congrArg not e17)) (congrArg not e17)) .normal [] (tourlaw2_MassSays.c2q a0 (ine y11.2.2.2 y13.2.2.2))) (by kernel_rfl)))) (fun e17 =>
     Owp.some (triple_way (tourlaw2_MassSays.cok k) hmix [.dec false, .dec false, .dec false, .dec false, .dec false, .dec false, .dec false, .dec false, .dec true, .dec true, .dec true, .dec true] [] [] (via (finP (And.intro (And.intro (And.intro (And.intro (And.intro (And.intro (And.intro (And.intro (And.intro (And.intro (And.intro (And.intro trivial e15) e15) e15) e15) e16) e16) e16) e16) (congrArg not e17)) (congrArg not e17)) (congrArg not e17)) (congrArg not e17)) .normal [] (tourlaw2_MassSays.c2q a0 true)) (by kernel_rfl))))))
noncomputable def tourlaw2_MassSays.c3p (a0 : (List V24)) (y21 : ((List V24) × Int)) (y23 : Int) : SL := ⟨[(0, (.val T22 a0)), (12, (.val T3 y21.2)), (17, (.val .own (0 : Nat))), (18, (.val T3 y23)), (19, .nil), (84, (.val T4 (ieq y23 (0 : Int))))], [(0, .row T24 y21.1 24)]⟩
noncomputable def tourlaw2_MassSays.c3q (y21 : ((List V24) × Int)) (o : (Int × (List V24))) : SL := (fun v => ⟨[(12, (.val T3 y21.2)), (17, (.val .own (0 : Nat))), (18, (.val T3 v.1)), (19, (.val .own (1 : Nat)))], [(0, .row T24 y21.1 24), (1, .row T24 v.2 24)]⟩) o
noncomputable def tourlaw2_MassSays.c3x (o : (Int × (List V24))) : Ex := (fun _ => .normal) o
noncomputable def tourlaw2_MassSays.c3n (o : (Int × (List V24))) : Nat := (fun _ => 2) o
theorem tourlaw2_MassSays.c3_ok (k : Nat) (a0 : (List V24)) (y21 : ((List V24) × Int)) (y23 : Int) : Owp (tourlaw2_MassSays.c3 k a0 y23) fun o => Triple PR (tourlaw2_MassSays.cx k) (sub tourlaw2_MassSays.code [1, 1, 1, 1, 1, 1, 1, 1, 0, 1]) 1 (tourlaw2_MassSays.c3p a0 y21 y23) (tourlaw2_MassSays.c3x o) (tourlaw2_MassSays.c3n o) (tourlaw2_MassSays.c3q y21 o) := by
  unfold tourlaw2_MassSays.c3; exact
   Owp.bif (fun e25 =>
   Owp.bnd fun y26 e27 =>
    Owp.bnd fun y28 e29 =>
    Owp.bnd fun y30 e31 =>
    Owp.some (triple_way (tourlaw2_MassSays.cok k) hmix [.dec true, .res (.one (.dp T24)) y26, .res (.one (.ow T24 24)) y28, .res (.one (.dp T3)) y30] [] [(0, 0), (1, 4)] (via (finP (And.intro (And.intro (And.intro (And.intro trivial e25) e27) e29) e31) .normal [(0, 0), (1, 4)] (tourlaw2_MassSays.c3q y21 (y30, y28))) (by kernel_rfl)))) (fun e25 =>
   Owp.some (triple_way (tourlaw2_MassSays.cok k) hmix [.dec false] [.own 19 T24 24] [(0, 0), (1, 1)] (via (finP (And.intro trivial e25) .normal [(0, 0), (1, 1)] (tourlaw2_MassSays.c3q y21 (y23, []))) (by kernel_rfl))))
noncomputable def tourlaw2_MassSays.c4p (o32 : (Int × (List V24))) (y21 : ((List V24) × Int)) : SL := ⟨[(12, (.val T3 y21.2)), (17, (.val .own (0 : Nat))), (18, (.val T3 o32.1))], [(0, .row T24 y21.1 24)]⟩
noncomputable def tourlaw2_MassSays.c4q (o : Bool) : SL := (fun v => ⟨[(4, (.val T4 v))], []⟩) o
noncomputable def tourlaw2_MassSays.c4x (o : Bool) : Ex := (fun _ => .normal) o
noncomputable def tourlaw2_MassSays.c4n (o : Bool) : Nat := (fun _ => 0) o
theorem tourlaw2_MassSays.c4_ok (k : Nat) (o32 : (Int × (List V24))) (y21 : ((List V24) × Int)) : Owp (tourlaw2_MassSays.c4 k o32 y21) fun o => Triple PR (tourlaw2_MassSays.cx k) (sub tourlaw2_MassSays.code [1, 1, 1, 1, 1, 1, 1, 1, 1, 0, 1, 0, 0]) 1 (tourlaw2_MassSays.c4p o32 y21) (tourlaw2_MassSays.c4x o) (tourlaw2_MassSays.c4n o) (tourlaw2_MassSays.c4q o) := by
  unfold tourlaw2_MassSays.c4; exact
   Owp.bif (fun e35 =>
   Owp.some (triple_way (tourlaw2_MassSays.cok k) hmix [.dec true, .dec true, .dec true, .dec true] [] [] (via (finP (And.intro (And.intro (And.intro (And.intro trivial e35) e35) e35) e35) .normal [] (tourlaw2_MassSays.c4q (ieq (len y21.1) (0 : Int)))) (by kernel_rfl)))) (fun e35 =>
   Owp.some (triple_way (tourlaw2_MassSays.cok k) hmix [.dec false, .dec false, .dec false, .dec false] [] [] (via (finP (And.intro (And.intro (And.intro (And.intro trivial e35) e35) e35) e35) .normal [] (tourlaw2_MassSays.c4q false)) (by kernel_rfl))))
theorem tourlaw2_MassSays.way (k : Nat) (a0 : (List V24)) (a1 : Int) : Owp (tourlaw2_MassSays k a0 a1) fun y => ∃ answers cmds, exec PR (tourlaw2_MassSays.cx k) tourlaw2_MassSays.code 0 (entry (.pair T22 (.pair T3 .unit)) (a0, a1, ())).st answers (Ret (tourlaw2_MassSays.cx k) Try.f11 cmds (.one (.dp T4)) y) := by
  unfold tourlaw2_MassSays; exact
   Owp.bnd fun y1 e2 =>
   Owp.bnd fun y3 e4 =>
   Owp.bnd fun o8 e9 =>
   Owp.bif (fun e10 =>
   Owp.some (⟨[.res (.one (.ow T24 24)) y1, .res (.more (.dp T3) (.more (.dp T3) (.more (.dp T24) (.one (.dp T3))))) y3, .cutR 2 ⟨[], [(0, 8)], (tourlaw2_MassSays.c1p a0 a1 y3), 1, .normal, (tourlaw2_MassSays.c1q a0 a1 o8), 0⟩, .dec true], [], via (cutP (And.intro (And.intro trivial e2) e4) [(0, 8)] (tourlaw2_MassSays.c1p a0 a1 y3) (((tourlaw2_MassSays.c1_ok k a0 a1 y3).ap e9)) (retP (And.intro trivial e10) (.one (.dp T4)) (false : Bool))) (by kernel_rfl)⟩)) (fun e10 =>
   Owp.bnd fun y11 e12 =>
    Owp.bnd fun y13 e14 =>
    Owp.bnd fun o18 e19 =>
    Owp.bif (fun e20 =>
    Owp.some (⟨[.res (.one (.ow T24 24)) y1, .res (.more (.dp T3) (.more (.dp T3) (.more (.dp T24) (.one (.dp T3))))) y3, .cutR 2 ⟨[], [(0, 8)], (tourlaw2_MassSays.c1p a0 a1 y3), 1, .normal, (tourlaw2_MassSays.c1q a0 a1 o8), 0⟩, .dec false, .res (.more (.dp T3) (.more (.dp T3) (.more (.dp T24) (.one (.dp T3))))) y11, .res (.more (.dp T3) (.more (.dp T3) (.more (.dp T24) (.one (.dp T3))))) y13, .cutR 6 ⟨[], [(0, 8), (1, 21)], (tourlaw2_MassSays.c2p a0 y11 y13), 2, .normal, (tourlaw2_MassSays.c2q a0 o18), 0⟩, .dec true], [], via (cutP (And.intro (And.intro trivial e2) e4) [(0, 8)] (tourlaw2_MassSays.c1p a0 a1 y3) (((tourlaw2_MassSays.c1_ok k a0 a1 y3).ap e9)) (cutP (And.intro (And.intro (And.intro trivial e10) e12) e14) [(0, 8), (1, 21)] (tourlaw2_MassSays.c2p a0 y11 y13) (((tourlaw2_MassSays.c2_ok k a0 y11 y13).ap e19)) (retP (And.intro trivial e20) (.one (.dp T4)) (false : Bool)))) (by kernel_rfl)⟩)) (fun e20 =>
    Owp.bnd fun y21 e22 =>
     Owp.bnd fun y23 e24 =>
     Owp.bnd fun o32 e33 =>
     Owp.bif (fun e34 =>
     Owp.bnd fun o36 e37 =>
      Owp.some (⟨[.res (.one (.ow T24 24)) y1, .res (.more (.dp T3) (.more (.dp T3) (.more (.dp T24) (.one (.dp T3))))) y3, .cutR 2 ⟨[], [(0, 8)], (tourlaw2_MassSays.c1p a0 a1 y3), 1, .normal, (tourlaw2_MassSays.c1q a0 a1 o8), 0⟩, .dec false, .res (.more (.dp T3) (.more (.dp T3) (.more (.dp T24) (.one (.dp T3))))) y11, .res (.more (.dp T3) (.more (.dp T3) (.more (.dp T24) (.one (.dp T3))))) y13, .cutR 6 ⟨[], [(0, 8), (1, 21)], (tourlaw2_MassSays.c2p a0 y11 y13), 2, .normal, (tourlaw2_MassSays.c2q a0 o18), 0⟩, .dec false, .res (.more (.ow T24 24) (.one (.dp T3))) y21, .res (.one (.dp T3)) y23, .cut ⟨[], [(0, 1)], (tourlaw2_MassSays.c3p a0 y21 y23), 1, .normal, (tourlaw2_MassSays.c3q y21 o32), 2⟩, .dec true, .cutR 15 ⟨[], [(0, 0)], (tourlaw2_MassSays.c4p o32 y21), 1, .normal, (tourlaw2_MassSays.c4q o36), 0⟩], [], via (cutP (And.intro (And.intro trivial e2) e4) [(0, 8)] (tourlaw2_MassSays.c1p a0 a1 y3) (((tourlaw2_MassSays.c1_ok k a0 a1 y3).ap e9)) (cutP (And.intro (And.intro (And.intro trivial e10) e12) e14) [(0, 8), (1, 21)] (tourlaw2_MassSays.c2p a0 y11 y13) (((tourlaw2_MassSays.c2_ok k a0 y11 y13).ap e19)) (cutP (And.intro (And.intro (And.intro trivial e20) e22) e24) [(0, 1)] (tourlaw2_MassSays.c3p a0 y21 y23) (((tourlaw2_MassSays.c3_ok k a0 y21 y23).ap e33)) (cutP (And.intro trivial e34) [(0, 0)] (tourlaw2_MassSays.c4p o32 y21) (((tourlaw2_MassSays.c4_ok k o32 y21).ap e37)) (retP trivial (.one (.dp T4)) (o36 : Bool)))))) (by kernel_rfl)⟩)) (fun e34 =>
     Owp.bif (fun e38 =>
      Owp.bnd fun y39 e40 =>
       Owp.some (⟨[.res (.one (.ow T24 24)) y1, .res (.more (.dp T3) (.more (.dp T3) (.more (.dp T24) (.one (.dp T3))))) y3, .cutR 2 ⟨[], [(0, 8)], (tourlaw2_MassSays.c1p a0 a1 y3), 1, .normal, (tourlaw2_MassSays.c1q a0 a1 o8), 0⟩, .dec false, .res (.more (.dp T3) (.more (.dp T3) (.more (.dp T24) (.one (.dp T3))))) y11, .res (.more (.dp T3) (.more (.dp T3) (.more (.dp T24) (.one (.dp T3))))) y13, .cutR 6 ⟨[], [(0, 8), (1, 21)], (tourlaw2_MassSays.c2p a0 y11 y13), 2, .normal, (tourlaw2_MassSays.c2q a0 o18), 0⟩, .dec false, .res (.more (.ow T24 24) (.one (.dp T3))) y21, .res (.one (.dp T3)) y23, .cut ⟨[], [(0, 1)], (tourlaw2_MassSays.c3p a0 y21 y23), 1, .normal, (tourlaw2_MassSays.c3q y21 o32), 2⟩, .dec false, .dec true, .dec true, .dec true, .res (.one (.dp T4)) y39, .dec true], [], via (cutP (And.intro (And.intro trivial e2) e4) [(0, 8)] (tourlaw2_MassSays.c1p a0 a1 y3) (((tourlaw2_MassSays.c1_ok k a0 a1 y3).ap e9)) (cutP (And.intro (And.intro (And.intro trivial e10) e12) e14) [(0, 8), (1, 21)] (tourlaw2_MassSays.c2p a0 y11 y13) (((tourlaw2_MassSays.c2_ok k a0 y11 y13).ap e19)) (cutP (And.intro (And.intro (And.intro trivial e20) e22) e24) [(0, 1)] (tourlaw2_MassSays.c3p a0 y21 y23) (((tourlaw2_MassSays.c3_ok k a0 y21 y23).ap e33)) (retP (And.intro (And.intro (And.intro (And.intro (And.intro trivial e34) e38) e38) (And.intro e38 e40)) e38) (.one (.dp T4)) (y39 : Bool))))) (by kernel_rfl)⟩)) (fun e38 =>
      Owp.some (⟨[.res (.one (.ow T24 24)) y1, .res (.more (.dp T3) (.more (.dp T3) (.more (.dp T24) (.one (.dp T3))))) y3, .cutR 2 ⟨[], [(0, 8)], (tourlaw2_MassSays.c1p a0 a1 y3), 1, .normal, (tourlaw2_MassSays.c1q a0 a1 o8), 0⟩, .dec false, .res (.more (.dp T3) (.more (.dp T3) (.more (.dp T24) (.one (.dp T3))))) y11, .res (.more (.dp T3) (.more (.dp T3) (.more (.dp T24) (.one (.dp T3))))) y13, .cutR 6 ⟨[], [(0, 8), (1, 21)], (tourlaw2_MassSays.c2p a0 y11 y13), 2, .normal, (tourlaw2_MassSays.c2q a0 o18), 0⟩, .dec false, .res (.more (.ow T24 24) (.one (.dp T3))) y21, .res (.one (.dp T3)) y23, .cut ⟨[], [(0, 1)], (tourlaw2_MassSays.c3p a0 y21 y23), 1, .normal, (tourlaw2_MassSays.c3q y21 o32), 2⟩, .dec false, .dec false, .dec false, .dec false, .dec true, .dec false], [], via (cutP (And.intro (And.intro trivial e2) e4) [(0, 8)] (tourlaw2_MassSays.c1p a0 a1 y3) (((tourlaw2_MassSays.c1_ok k a0 a1 y3).ap e9)) (cutP (And.intro (And.intro (And.intro trivial e10) e12) e14) [(0, 8), (1, 21)] (tourlaw2_MassSays.c2p a0 y11 y13) (((tourlaw2_MassSays.c2_ok k a0 y11 y13).ap e19)) (cutP (And.intro (And.intro (And.intro trivial e20) e22) e24) [(0, 1)] (tourlaw2_MassSays.c3p a0 y21 y23) (((tourlaw2_MassSays.c3_ok k a0 y21 y23).ap e33)) (retP (And.intro (And.intro (And.intro (And.intro (And.intro trivial e34) e38) e38) e38) e38) (.one (.dp T4)) (false : Bool))))) (by kernel_rfl)⟩)))))
theorem tourlaw2_MassSays.ok (k : Nat) : FnOk PR 11 (tourlaw2_MassSays.sp k) :=
  fn_ok (tourlaw2_MassSays.cok k) hmix Try.func11 (code := tourlaw2_MassSays.code) (by kernel_rfl) (by kernel_rfl) (by kernel_rfl) rfl (by kernel_rfl) (by kernel_rfl) (by kernel_rfl) (fun x => Nat.le_of_ble_eq_true (by kernel_rfl)) fun x y hy => (tourlaw2_MassSays.way k x.1 x.2.1).ap hy

end Go.Proofs.T1
