import Derived.Test.YtokhmieofiaidaaG4
namespace Go.Proofs.T1
open Go Go.Sx Go.Proofs
set_option maxRecDepth 100000
set_option linter.unusedVariables false
/-! tourney/tourkeep2.PolyWideRing -/
noncomputable def tourkeep2_PolyWideRing.code : Code := Func.cd Try.f6
def tourkeep2_PolyWideRing.c1 (k : Nat) : Option (Bool) :=
  bnd (poly_Times k 7 (-3)) fun y1 =>
  bnd (poly_Times k 1 (-21)) fun y3 =>
  bnd (poly_Wide_Cmp k y1 y3) fun y5 =>
  bif' (ine y5 0)
  (some true)
  (bnd (poly_Times k 7 3) fun y8 =>
   bnd (poly_Times k 1 (-21)) fun y10 =>
   bnd (poly_Wide_Cmp k y8 y10) fun y12 =>
   some (ine y12 1))
def tourkeep2_PolyWideRing.c2 (k : Nat) (a0 : V40) (a1 : V40) (a2 : Int) (a3 : Int) (a4 : Int) : Option (Bool) :=
  bnd (poly_Wide_Plus k a0 a1) fun y17 =>
  bnd (poly_Wide_Minus k y17 a1) fun y19 =>
  bif' (Ty.eqb T40 y19 a0)
  (bnd (poly_Wide_Minus k a0 a1) fun y22 =>
   bnd (poly_Wide_Plus k y22 a1) fun y24 =>
   bif' (Ty.eqb T40 y24 a0)
   (bnd (poly_Wide_Plus k a0 a1) fun y27 =>
    bnd (poly_Wide_Plus k a1 a0) fun y29 =>
    bif' (Ty.eqb T40 y27 y29)
    (bnd (poly_Times k (irem a2 1099511627776) (iadd .i64 (irem a3 1099511627776) (irem a4 1099511627776))) fun y32 =>
     bnd (poly_Times k (irem a2 1099511627776) (irem a3 1099511627776)) fun y34 =>
     bnd (poly_Times k (irem a2 1099511627776) (irem a4 1099511627776)) fun y36 =>
     bnd (poly_Wide_Plus k y34 y36) fun y38 =>
     some (!(Ty.eqb T40 y32 y38)))
    (some true))
   (some true))
  (some true)
def tourkeep2_PolyWideRing.c3 (k : Nat) (y45 : (Int × Int)) : Option (Bool) :=
  bif' (ieq y45.2 17)
  (some (ieq y45.1 0))
  (some false)
def tourkeep2_PolyWideRing (k : Nat) (a0 : V40) (a1 : V40) (a2 : Int) (a3 : Int) (a4 : Int) : Option Bool :=
  bnd (tourkeep2_PolyWideRing.c1 k) fun o14 =>
  bif' o14
  (some false)
  (bnd (tourkeep2_PolyWideRing.c2 k a0 a1 a2 a3 a4) fun o40 =>
   bif' o40
   (some false)
   (bnd (poly_Times k (irem a2 1099511627776) (irem a3 1099511627776)) fun y43 =>
    bnd (poly_Wide_Over k y43 (irem a3 1099511627776)) fun y45 =>
    bif' (ieq (irem a3 1099511627776) 0)
    (bnd (tourkeep2_PolyWideRing.c3 k y45) fun o49 =>
     some o49)
    (bif' (ieq y45.2 0)
     (some (ieq y45.1 (irem a2 1099511627776)))
     (some false))))
noncomputable def tourkeep2_PolyWideRing.sp (k : Nat) : Go.Sx.Spec := ⟨(.pair T40 (.pair T40 (.pair T3 T24))), (.one (.dp T4)), fun x => tourkeep2_PolyWideRing k x.1 x.2.1 x.2.2.1 x.2.2.2.1 x.2.2.2.2.1, false⟩
noncomputable def tourkeep2_PolyWideRing.cx (k : Nat) : Go.Sx.Ctx := ⟨tys, [(31, poly_Times.sp k), (29, poly_Wide_Cmp.sp k), (32, poly_Wide_Plus.sp k), (33, poly_Wide_Minus.sp k), (34, poly_Wide_Over.sp k)], eqs, 92, false⟩
theorem tourkeep2_PolyWideRing.cok (k : Nat) : CtxOk PR (tourkeep2_PolyWideRing.cx k) := ctx_ok tysOk eqsOk (FnsOk.cons (poly_Times.ok k) (FnsOk.cons (poly_Wide_Cmp.ok k) (FnsOk.cons (poly_Wide_Plus.ok k) (FnsOk.cons (poly_Wide_Minus.ok k) (FnsOk.cons (poly_Wide_Over.ok k) FnsOk.nil)))))
noncomputable def tourkeep2_PolyWideRing.c1p (a0 : V40) (a1 : V40) (a2 : Int) (a3 : Int) (a4 : Int) : SL := ⟨[(2, (.val T3 a2)), (3, (.val T3 a3)), (4, (.val T3 a4)), (5, (.val .ptr ⟨0, 0, (0 : Int), 0, 0⟩)), (6, (.val .ptr ⟨1, 0, (0 : Int), 0, 0⟩))], [(0, .cells T40 a0), (1, .cells T40 a1)]⟩
noncomputable def tourkeep2_PolyWideRing.c1q (a0 : V40) (a1 : V40) (a2 : Int) (a3 : Int) (a4 : Int) (o : Bool) : SL := (fun v => ⟨[(2, (.val T3 a2)), (3, (.val T3 a3)), (4, (.val T3 a4)), (5, (.val .ptr ⟨0, 0, (0 : Int), 0, 0⟩)), (6, (.val .ptr ⟨1, 0, (0 : Int), 0, 0⟩)), (22, (.val T4 v))], [(0, .cells T40 a0), (1, .cells T40 a1)]⟩) o
noncomputable def tourkeep2_PolyWideRing.c1x (o : Bool) : Ex := (fun _ => .normal) o
noncomputable def tourkeep2_PolyWideRing.c1n (o : Bool) : Nat := (fun _ => 2) o
theorem tourkeep2_PolyWideRing.c1_ok (k : Nat) (a0 : V40) (a1 : V40) (a2 : Int) (a3 : Int) (a4 : Int) : Owp (tourkeep2_PolyWideRing.c1 k) fun o => Triple PR (tourkeep2_PolyWideRing.cx k) (sub tourkeep2_PolyWideRing.code [1, 0, 0]) 2 (tourkeep2_PolyWideRing.c1p a0 a1 a2 a3 a4) (tourkeep2_PolyWideRing.c1x o) (tourkeep2_PolyWideRing.c1n o) (tourkeep2_PolyWideRing.c1q a0 a1 a2 a3 a4 o) := by
  unfold tourkeep2_PolyWideRing.c1; exact
   Owp.bnd fun y1 e2 =>
   Owp.bnd fun y3 e4 =>
   Owp.bnd fun y5 e6 =>
   Owp.bif (fun e7 =>
   Owp.some (triple_way (tourkeep2_PolyWideRing.cok k) hmix [.res (.one (.dp T40)) y1, .res (.one (.dp T40)) y3, .res (.one (.dp T3)) y5, .dec true, .dec true, .dec true, .dec true, .dec true, .dec true, .dec true, .dec true] [] [(0, 0), (1, 1)] (via (finP (And.intro (And.intro (And.intro (And.intro (And.intro (And.intro (And.intro (And.intro trivial e2) e4) e6) e7) e7) e7) e7) e7) .normal [(0, 0), (1, 1)] (tourkeep2_PolyWideRing.c1q a0 a1 a2 a3 a4 true)) (by kernel_rfl)))) (fun e7 =>
   Owp.bnd fun y8 e9 =>
    Owp.bnd fun y10 e11 =>
    Owp.bnd fun y12 e13 =>
    Owp.some (triple_way (tourkeep2_PolyWideRing.cok k) hmix [.res (.one (.dp T40)) y1, .res (.one (.dp T40)) y3, .res (.one (.dp T3)) y5, .dec false, .res (.one (.dp T40)) y8, .dec false, .res (.one (.dp T40)) y10, .dec false, .res (.one (.dp T3)) y12, .dec false, .dec false] [] [(0, 0), (1, 1)] (via (finP (And.intro (And.intro (And.intro (And.intro (And.intro (And.intro (And.intro (And.intro trivial e2) e4) e6) (And.intro e7 e9)) (And.intro e7 e11)) (And.intro e7 e13)) e7) e7) .normal [(0, 0), (1, 1)] (tourkeep2_PolyWideRing.c1q a0 a1 a2 a3 a4 (ine y12 (1 : Int)))) (by kernel_rfl))))
noncomputable def tourkeep2_PolyWideRing.c2p (a0 : V40) (a1 : V40) (a2 : Int) (a3 : Int) (a4 : Int) : SL := ⟨[(2, (.val T3 (irem a2 (1099511627776 : Int)))), (3, (.val T3 (irem a3 (1099511627776 : Int)))), (4, (.val T3 (irem a4 (1099511627776 : Int)))), (5, (.val .ptr ⟨0, 0, (0 : Int), 0, 0⟩)), (6, (.val .ptr ⟨1, 0, (0 : Int), 0, 0⟩))], [(0, .cells T40 a0), (1, .cells T40 a1)]⟩
noncomputable def tourkeep2_PolyWideRing.c2q (a2 : Int) (a3 : Int) (o : Bool) : SL := (fun v => ⟨[(2, (.val T3 (irem a2 (1099511627776 : Int)))), (3, (.val T3 (irem a3 (1099511627776 : Int)))), (68, (.val T4 v))], []⟩) o
noncomputable def tourkeep2_PolyWideRing.c2x (o : Bool) : Ex := (fun _ => .normal) o
noncomputable def tourkeep2_PolyWideRing.c2n (o : Bool) : Nat := (fun _ => 0) o
theorem tourkeep2_PolyWideRing.c2_ok (k : Nat) (a0 : V40) (a1 : V40) (a2 : Int) (a3 : Int) (a4 : Int) : Owp (tourkeep2_PolyWideRing.c2 k a0 a1 a2 a3 a4) fun o => Triple PR (tourkeep2_PolyWideRing.cx k) (sub tourkeep2_PolyWideRing.code [1, 1, 1, 0, 0]) 2 (tourkeep2_PolyWideRing.c2p a0 a1 a2 a3 a4) (tourkeep2_PolyWideRing.c2x o) (tourkeep2_PolyWideRing.c2n o) (tourkeep2_PolyWideRing.c2q a2 a3 o) := by
  unfold tourkeep2_PolyWideRing.c2; exact
   Owp.bnd fun y17 e18 =>
   Owp.bnd fun y19 e20 =>
   Owp.bif (fun e21 =>
   Owp.bnd fun y22 e23 =>
    Owp.bnd fun y24 e25 =>
    Owp.bif (fun e26 =>
    Owp.bnd fun y27 e28 =>
     Owp.bnd fun y29 e30 =>
     Owp.bif (fun e31 =>
     Owp.bnd fun y32 e33 =>
      Owp.bnd fun y34 e35 =>
      Owp.bnd fun y36 e37 =>
      Owp.bnd fun y38 e39 =>
      Owp.some (triple_way (tourkeep2_PolyWideRing.cok k) hmix [.res (.one (.dp T40)) y17, .res (.one (.dp T40)) y19, .dec false, .dec false, .dec false, .res (.one (.dp T40)) y22, .dec false, .dec false, .res (.one (.dp T40)) y24, .dec false, .dec false, .dec false, .dec false, .dec false, .dec false, .res (.one (.dp T40)) y27, .dec false, .dec false, .dec false, .res (.one (.dp T40)) y29, .dec false, .dec false, .dec false, .dec false, .dec false, .dec false, .dec false, .res (.one (.dp T40)) y32, .dec false, .dec false, .dec false, .res (.one (.dp T40)) y34, .dec false, .dec false, .dec false, .res (.one (.dp T40)) y36, .dec false, .res (.one (.dp T40)) y38, .dec false, .dec false] [] [] (via (finP (And.intro (And.intro (And.intro (And.intro (And.intro (And.intro (And.intro (And.intro (And.intro (And.intro (And.intro (And.intro (And.intro (And.intro (And.intro (And.intro (And.intro (And.intro (And.intro (And.intro (And.intro (And.intro (And.intro (And.intro (And.intro (And.intro (And.intro (And.intro (And.intro (And.intro (And.intro (And.intro trivial e18) e20) (congrArg not e21)) (congrArg not e21)) (And.intro (congrArg not e21) e23)) (congrArg not e21)) (And.intro (congrArg not e21) e25)) (congrArg not e21)) (congrArg not e21)) (congrArg not e21)) (congrArg not e26)) (congrArg not e26)) (And.intro (congrArg not e26) e28)) (congrArg not e26)) (congrArg not e26)) (And.intro (congrArg not e26) e30)) (congrArg not e26)) (congrArg not e26)) (congrArg not e31)) (congrArg not e31)) (congrArg not e31)) (congrArg not e31)) (And.intro (congrArg not e31) e33)) (congrArg not e31)) (congrArg not e31)) (And.intro (congrArg not e31) e35)) (congrArg not e31)) (congrArg not e31)) (And.intro (congrArg not e31) e37)) (And.intro (congrArg not e31) e39)) (congrArg not e31)) (congrArg not e31)) .normal [] (tourkeep2_PolyWideRing.c2q a2 a3 (!(Ty.eqb T40 y32 y38)))) (by kernel_rfl)))) (fun e31 =>
     Owp.some (triple_way (tourkeep2_PolyWideRing.cok k) hmix [.res (.one (.dp T40)) y17, .res (.one (.dp T40)) y19, .dec false, .dec false, .dec false, .res (.one (.dp T40)) y22, .dec false, .dec false, .res (.one (.dp T40)) y24, .dec false, .dec false, .dec false, .dec false, .dec false, .dec false, .res (.one (.dp T40)) y27, .dec false, .dec false, .dec false, .res (.one (.dp T40)) y29, .dec false, .dec false, .dec true, .dec true, .dec true, .dec true, .dec true, .dec true, .dec true, .dec true, .dec true, .dec true, .dec true, .dec true, .dec true, .dec true, .dec true, .dec true, .dec true, .dec true] [] [] (via (finP (And.intro (And.intro (And.intro (And.intro (And.intro (And.intro (And.intro (And.intro (And.intro (And.intro (And.intro (And.intro (And.intro (And.intro (And.intro (And.intro (And.intro (And.intro (And.intro (And.intro (And.intro (And.intro (And.intro (And.intro (And.intro (And.intro (And.intro (And.intro (And.intro (And.intro (And.intro (And.intro trivial e18) e20) (congrArg not e21)) (congrArg not e21)) (And.intro (congrArg not e21) e23)) (congrArg not e21)) (And.intro (congrArg not e21) e25)) (congrArg not e21)) (congrArg not e21)) (congrArg not e21)) (congrArg not e26)) (congrArg not e26)) (And.intro (congrArg not e26) e28)) (congrArg not e26)) (congrArg not e26)) (And.intro (congrArg not e26) e30)) (congrArg not e26)) (congrArg not e26)) (congrArg not e31)) (congrArg not e31)) (congrArg not e31)) (congrArg not e31)) (congrArg not e31)) (congrArg not e31)) (congrArg not e31)) (congrArg not e31)) (congrArg not e31)) (congrArg not e31)) (congrArg not e31)) (congrArg not e31)) (congrArg not e31)) (congrArg not e31)) .normal [] (tourkeep2_PolyWideRing.c2q a2 a3 true)) (by kernel_rfl))))) (fun e26 =>
    Owp.some (triple_way (tourkeep2_PolyWideRing.cok k) hmix [.res (.one (.dp T40)) y17, .res (.one (.dp T40)) y19, .dec false, .dec false, .dec false, .res (.one (.dp T40)) y22, .dec false, .dec false, .res (.one (.dp T40)) y24, .dec false, .dec false, .dec false, .dec true, .dec true, .dec true, .dec true, .dec true, .dec true, .dec true, .dec true, .dec true, .dec true, .dec true, .dec true, .dec true, .dec true, .dec true, .dec true, .dec true, .dec true, .dec true, .dec true, .dec true, .dec true, .dec true, .dec true, .dec true, .dec true, .dec true, .dec true] [] [] (via (finP (And.intro (And.intro (And.intro (And.intro (And.intro (And.intro (And.intro (And.intro (And.intro (And.intro (And.intro (And.intro (And.intro (And.intro (And.intro (And.intro (And.intro (And.intro (And.intro (And.intro (And.intro (And.intro (And.intro (And.intro (And.intro (And.intro (And.intro (And.intro (And.intro (And.intro (And.intro (And.intro trivial e18) e20) (congrArg not e21)) (congrArg not e21)) (And.intro (congrArg not e21) e23)) (congrArg not e21)) (And.intro (congrArg not e21) e25)) (congrArg not e21)) (congrArg not e21)) (congrArg not e21)) (congrArg not e26)) (congrArg not e26)) (congrArg not e26)) (congrArg not e26)) (congrArg not e26)) (congrArg not e26)) (congrArg not e26)) (congrArg not e26)) tt) tt) tt) tt) tt) tt) tt) tt) tt) tt) tt) tt) tt) tt) .normal [] (tourkeep2_PolyWideRing.c2q a2 a3 true)) (by kernel_rfl))))) (fun e21 =>
   Owp.some (triple_way (tourkeep2_PolyWideRing.cok k) hmix [.res (.one (.dp T40)) y17, .res (.one (.dp T40)) y19, .dec true, .dec true, .dec true, .dec true, .dec true, .dec true, .dec true, .dec true, .dec true, .dec true, .dec true, .dec true, .dec true, .dec true, .dec true, .dec true, .dec true, .dec true, .dec true, .dec true, .dec true, .dec true, .dec true, .dec true, .dec true, .dec true, .dec true, .dec true, .dec true, .dec true, .dec true, .dec true, .dec true, .dec true, .dec true, .dec true, .dec true, .dec true] [] [] (via (finP (And.intro (And.intro (And.intro (And.intro (And.intro (And.intro (And.intro (And.intro (And.intro (And.intro (And.intro (And.intro (And.intro (And.intro (And.intro (And.intro (And.intro (And.intro (And.intro (And.intro (And.intro (And.intro (And.intro (And.intro (And.intro (And.intro (And.intro (And.intro (And.intro (And.intro (And.intro (And.intro trivial e18) e20) (congrArg not e21)) (congrArg not e21)) (congrArg not e21)) (congrArg not e21)) (congrArg not e21)) (congrArg not e21)) (congrArg not e21)) (congrArg not e21)) tt) tt) tt) tt) tt) tt) tt) tt) tt) tt) tt) tt) tt) tt) tt) tt) tt) tt) tt) tt) tt) tt) .normal [] (tourkeep2_PolyWideRing.c2q a2 a3 true)) (by kernel_rfl))))
noncomputable def tourkeep2_PolyWideRing.c3p (y45 : (Int × Int)) : SL := ⟨[(11, (.val T3 y45.1)), (12, (.val T3 y45.2))], []⟩
noncomputable def tourkeep2_PolyWideRing.c3q (o : Bool) : SL := (fun v => ⟨[(10, (.val T4 v))], []⟩) o
noncomputable def tourkeep2_PolyWideRing.c3x (o : Bool) : Ex := (fun _ => .normal) o
noncomputable def tourkeep2_PolyWideRing.c3n (o : Bool) : Nat := (fun _ => 0) o
theorem tourkeep2_PolyWideRing.c3_ok (k : Nat) (y45 : (Int × Int)) : Owp (tourkeep2_PolyWideRing.c3 k y45) fun o => Triple PR (tourkeep2_PolyWideRing.cx k) (sub tourkeep2_PolyWideRing.code [1, 1, 1, 1, 1, 0, 1, 0, 0]) 0 (tourkeep2_PolyWideRing.c3p y45) (tourkeep2_PolyWideRing.c3x o) (tourkeep2_PolyWideRing.c3n o) (tourkeep2_PolyWideRing.c3q o) := by
  unfold tourkeep2_PolyWideRing.c3; exact
   Owp.bif (fun e48 =>
   Owp.some (triple_way (tourkeep2_PolyWideRing.cok k) hmix [.dec true, .dec true, .dec true] [] [] (via (finP (And.intro (And.intro (And.intro trivial e48) e48) e48) .normal [] (tourkeep2_PolyWideRing.c3q (ieq y45.1 (0 : Int)))) (by kernel_rfl)))) (fun e48 =>
   Owp.some (triple_way (tourkeep2_PolyWideRing.cok k) hmix [.dec false, .dec false, .dec false] [] [] (via (finP (And.intro (And.intro (And.intro trivial e48) e48) e48) .normal [] (tourkeep2_PolyWideRing.c3q false)) (by kernel_rfl))))
theorem tourkeep2_PolyWideRing.way (k : Nat) (a0 : V40) (a1 : V40) (a2 : Int) (a3 : Int) (a4 : Int) : Owp (tourkeep2_PolyWideRing k a0 a1 a2 a3 a4) fun y => ∃ answers cmds, exec PR (tourkeep2_PolyWideRing.cx k) tourkeep2_PolyWideRing.code 0 (entry (.pair T40 (.pair T40 (.pair T3 T24))) (a0, a1, a2, a3, a4, ())).st answers (Ret (tourkeep2_PolyWideRing.cx k) Try.f6 cmds (.one (.dp T4)) y) := by
  unfold tourkeep2_PolyWideRing; exact
   Owp.bnd fun o14 e15 =>
   Owp.bif (fun e16 =>
   Owp.some (⟨[.cutR 1 ⟨[], [(0, 0), (1, 1)], (tourkeep2_PolyWideRing.c1p a0 a1 a2 a3 a4), 2, .normal, (tourkeep2_PolyWideRing.c1q a0 a1 a2 a3 a4 o14), 2⟩, .dec true], [], via (cutP trivial [(0, 0), (1, 1)] (tourkeep2_PolyWideRing.c1p a0 a1 a2 a3 a4) (((tourkeep2_PolyWideRing.c1_ok k a0 a1 a2 a3 a4).ap e15)) (retP (And.intro trivial e16) (.one (.dp T4)) (false : Bool))) (by kernel_rfl)⟩)) (fun e16 =>
   Owp.bnd fun o40 e41 =>
    Owp.bif (fun e42 =>
    Owp.some (⟨[.cutR 1 ⟨[], [(0, 0), (1, 1)], (tourkeep2_PolyWideRing.c1p a0 a1 a2 a3 a4), 2, .normal, (tourkeep2_PolyWideRing.c1q a0 a1 a2 a3 a4 o14), 2⟩, .dec false, .cutR 4 ⟨[], [(0, 0), (1, 1)], (tourkeep2_PolyWideRing.c2p a0 a1 a2 a3 a4), 2, .normal, (tourkeep2_PolyWideRing.c2q a2 a3 o40), 0⟩, .dec true], [], via (cutP trivial [(0, 0), (1, 1)] (tourkeep2_PolyWideRing.c1p a0 a1 a2 a3 a4) (((tourkeep2_PolyWideRing.c1_ok k a0 a1 a2 a3 a4).ap e15)) (cutP (And.intro (And.intro (And.intro (And.intro trivial e16) (by decide : nz (1099511627776 : Int))) (by decide : nz (1099511627776 : Int))) (by decide : nz (1099511627776 : Int))) [(0, 0), (1, 1)] (tourkeep2_PolyWideRing.c2p a0 a1 a2 a3 a4) (((tourkeep2_PolyWideRing.c2_ok k a0 a1 a2 a3 a4).ap e41)) (retP (And.intro trivial e42) (.one (.dp T4)) (false : Bool)))) (by kernel_rfl)⟩)) (fun e42 =>
    Owp.bnd fun y43 e44 =>
     Owp.bnd fun y45 e46 =>
     Owp.bif (fun e47 =>
     Owp.bnd fun o49 e50 =>
      Owp.some (⟨[.cutR 1 ⟨[], [(0, 0), (1, 1)], (tourkeep2_PolyWideRing.c1p a0 a1 a2 a3 a4), 2, .normal, (tourkeep2_PolyWideRing.c1q a0 a1 a2 a3 a4 o14), 2⟩, .dec false, .cutR 4 ⟨[], [(0, 0), (1, 1)], (tourkeep2_PolyWideRing.c2p a0 a1 a2 a3 a4), 2, .normal, (tourkeep2_PolyWideRing.c2q a2 a3 o40), 0⟩, .dec false, .res (.one (.dp T40)) y43, .res (.more (.dp T3) (.one (.dp T3))) y45, .dec true, .cutR 8 ⟨[], [], (tourkeep2_PolyWideRing.c3p y45), 0, .normal, (tourkeep2_PolyWideRing.c3q o49), 0⟩], [], via (cutP trivial [(0, 0), (1, 1)] (tourkeep2_PolyWideRing.c1p a0 a1 a2 a3 a4) (((tourkeep2_PolyWideRing.c1_ok k a0 a1 a2 a3 a4).ap e15)) (cutP (And.intro (And.intro (And.intro (And.intro trivial e16) (by decide : nz (1099511627776 : Int))) (by decide : nz (1099511627776 : Int))) (by decide : nz (1099511627776 : Int))) [(0, 0), (1, 1)] (tourkeep2_PolyWideRing.c2p a0 a1 a2 a3 a4) (((tourkeep2_PolyWideRing.c2_ok k a0 a1 a2 a3 a4).ap e41)) (cutP (And.intro (And.intro (And.intro (And.intro trivial e42) e44) e46) e47) [] (tourkeep2_PolyWideRing.c3p y45) (((tourkeep2_PolyWideRing.c3_ok k y45).ap e50)) (retP trivial (.one (.dp T4)) (o49 : Bool))))) (by kernel_rfl)⟩)) (fun e47 =>
     Owp.bif (fun e51 =>
      Owp.some (⟨[.cutR 1 ⟨[], [(0, 0), (1, 1)], (tourkeep2_PolyWideRing.c1p a0 a1 a2 a3 a4), 2, .normal, (tourkeep2_PolyWideRing.c1q a0 a1 a2 a3 a4 o14), 2⟩, .dec false, .cutR 4 ⟨[], [(0, 0), (1, 1)], (tourkeep2_PolyWideRing.c2p a0 a1 a2 a3 a4), 2, .normal, (tourkeep2_PolyWideRing.c2q a2 a3 o40), 0⟩, .dec false, .res (.one (.dp T40)) y43, .res (.more (.dp T3) (.one (.dp T3))) y45, .dec false, .dec true, .dec true, .dec true, .dec true], [], via (cutP trivial [(0, 0), (1, 1)] (tourkeep2_PolyWideRing.c1p a0 a1 a2 a3 a4) (((tourkeep2_PolyWideRing.c1_ok k a0 a1 a2 a3 a4).ap e15)) (cutP (And.intro (And.intro (And.intro (And.intro trivial e16) (by decide : nz (1099511627776 : Int))) (by decide : nz (1099511627776 : Int))) (by decide : nz (1099511627776 : Int))) [(0, 0), (1, 1)] (tourkeep2_PolyWideRing.c2p a0 a1 a2 a3 a4) (((tourkeep2_PolyWideRing.c2_ok k a0 a1 a2 a3 a4).ap e41)) (retP (And.intro (And.intro (And.intro (And.intro (And.intro (And.intro (And.intro (And.intro trivial e42) e44) e46) e47) e51) e51) e51) e51) (.one (.dp T4)) ((ieq y45.1 (irem a2 (1099511627776 : Int))) : Bool)))) (by kernel_rfl)⟩)) (fun e51 =>
      Owp.some (⟨[.cutR 1 ⟨[], [(0, 0), (1, 1)], (tourkeep2_PolyWideRing.c1p a0 a1 a2 a3 a4), 2, .normal, (tourkeep2_PolyWideRing.c1q a0 a1 a2 a3 a4 o14), 2⟩, .dec false, .cutR 4 ⟨[], [(0, 0), (1, 1)], (tourkeep2_PolyWideRing.c2p a0 a1 a2 a3 a4), 2, .normal, (tourkeep2_PolyWideRing.c2q a2 a3 o40), 0⟩, .dec false, .res (.one (.dp T40)) y43, .res (.more (.dp T3) (.one (.dp T3))) y45, .dec false, .dec false, .dec false, .dec false, .dec false], [], via (cutP trivial [(0, 0), (1, 1)] (tourkeep2_PolyWideRing.c1p a0 a1 a2 a3 a4) (((tourkeep2_PolyWideRing.c1_ok k a0 a1 a2 a3 a4).ap e15)) (cutP (And.intro (And.intro (And.intro (And.intro trivial e16) (by decide : nz (1099511627776 : Int))) (by decide : nz (1099511627776 : Int))) (by decide : nz (1099511627776 : Int))) [(0, 0), (1, 1)] (tourkeep2_PolyWideRing.c2p a0 a1 a2 a3 a4) (((tourkeep2_PolyWideRing.c2_ok k a0 a1 a2 a3 a4).ap e41)) (retP (And.intro (And.intro (And.intro (And.intro (And.intro (And.intro (And.intro (And.intro trivial e42) e44) e46) e47) e51) e51) e51) e51) (.one (.dp T4)) (false : Bool)))) (by kernel_rfl)⟩)))))
theorem tourkeep2_PolyWideRing.ok (k : Nat) : FnOk PR 6 (tourkeep2_PolyWideRing.sp k) :=
  fn_ok (tourkeep2_PolyWideRing.cok k) hmix Try.func6 (code := tourkeep2_PolyWideRing.code) (by kernel_rfl) (by kernel_rfl) (by kernel_rfl) rfl (by kernel_rfl) (by kernel_rfl) (by kernel_rfl) (fun x => Nat.le_of_ble_eq_true (by kernel_rfl)) fun x y hy => (tourkeep2_PolyWideRing.way k x.1 x.2.1 x.2.2.1 x.2.2.2.1 x.2.2.2.2.1).ap hy

/-! tourney/tourref2.OfWide -/
noncomputable def tourref2_OfWide.code : Code := Func.cd Try.f35
def tourref2_OfWide (k : Nat) (a0 : V40) : Option (List Int) :=
  bnd (tourref2_Of k (icv .i64 a0.2.1)) fun y1 =>
  bnd (tourref2_Of k a0.1) fun y3 =>
  some (cpy y1 4 y3 0 4)
noncomputable def tourref2_OfWide.sp (k : Nat) : Go.Sx.Spec := ⟨(.pair T40 .unit), (.one (.dp T52)), fun x => tourref2_OfWide k x.1, false⟩
noncomputable def tourref2_OfWide.cx (k : Nat) : Go.Sx.Ctx := ⟨tys, [(36, tourref2_Of.sp k)], eqs, 16, false⟩
theorem tourref2_OfWide.cok (k : Nat) : CtxOk PR (tourref2_OfWide.cx k) := ctx_ok tysOk eqsOk (FnsOk.cons (tourref2_Of.ok k) FnsOk.nil)
theorem tourref2_OfWide.way (k : Nat) (a0 : V40) : Owp (tourref2_OfWide k a0) fun y => ∃ answers cmds, exec PR (tourref2_OfWide.cx k) tourref2_OfWide.code 0 (entry (.pair T40 .unit) (a0, ())).st answers (Ret (tourref2_OfWide.cx k) Try.f35 cmds (.one (.dp T52)) y) := by
  unfold tourref2_OfWide; exact
   Owp.bnd fun y1 e2 =>
   Owp.bnd fun y3 e4 =>
   Owp.some (⟨[.res (.one (.dp T52)) y1, .res (.one (.dp T52)) y3], [], via (retP (And.intro (And.intro trivial e2) e4) (.one (.dp T52)) ((cpy y1 4 y3 0 4) : (List Int))) (by kernel_rfl)⟩)
theorem tourref2_OfWide.ok (k : Nat) : FnOk PR 35 (tourref2_OfWide.sp k) :=
  fn_ok (tourref2_OfWide.cok k) hmix Try.func35 (code := tourref2_OfWide.code) (by kernel_rfl) (by kernel_rfl) (by kernel_rfl) rfl (by kernel_rfl) (by kernel_rfl) (by kernel_rfl) (fun x => Nat.le_of_ble_eq_true (by kernel_rfl)) fun x y hy => (tourref2_OfWide.way k x.1).ap hy

/-! tourney/tourlaw2.PolyWide -/
noncomputable def tourlaw2_PolyWide.code : Code := Func.cd Try.f7
def tourlaw2_PolyWide.c1 (k : Nat) (a0 : V40) (a1 : V40) (a2 : V24) (a3 : V24) (y4 : (List Int)) (y6 : (List Int)) : Option (Bool) :=
  bnd (poly_Times k a2.1 a3.1) fun y8 =>
  bnd (tourref2_Of k a2.1) fun y10 =>
  bnd (tourref2_Of k a3.1) fun y12 =>
  bnd (tourref2_Big_Mul k y10 y12) fun y14 =>
  bnd (tourref2_Big_Wide k y14) fun y16 =>
  bif' (Ty.eqb T40 y8 y16)
  (bnd (poly_Wide_Plus k a0 a1) fun y19 =>
   bnd (tourref2_Big_Add k y4 y6) fun y21 =>
   bnd (tourref2_Big_Wide k y21) fun y23 =>
   bif' (Ty.eqb T40 y19 y23)
   (bnd (poly_Wide_Minus k a0 a1) fun y26 =>
    bnd (tourref2_Big_Sub k y4 y6) fun y28 =>
    bnd (tourref2_Big_Wide k y28) fun y30 =>
    bif' (Ty.eqb T40 y26 y30)
    (bnd (poly_Wide_Cmp k a0 a1) fun y33 =>
     bnd (tourref2_Big_Cmp k y4 y6) fun y35 =>
     some (ine y33 y35))
    (some true))
   (some true))
  (some true)
def tourlaw2_PolyWide.c2 (k : Nat) (a2 : V24) (a3 : V24) : Option (Bool) :=
  bnd (poly_Dot k a2 a3) fun y40 =>
  bnd (tourref2_Dot k a2 a3) fun y42 =>
  bnd (tourref2_Big_Wide k y42) fun y44 =>
  bif' (Ty.eqb T40 y40 y44)
  (bnd (poly_Cross k a2 a3) fun y47 =>
   bnd (tourref2_Cross k a2 a3) fun y49 =>
   bnd (tourref2_Big_Wide k y49) fun y51 =>
   some (!(Ty.eqb T40 y47 y51)))
  (some true)
def tourlaw2_PolyWide.c3 (k : Nat) (a0 : V40) (a4 : Int) : Option (Bool) :=
  bif' (ige a0.1 2305843009213693952)
  (some true)
  (bif' (ilt a0.1 (-2305843009213693952))
   (some true)
   (bif' (igt a4 2305843009213693952)
    (some true)
    (some (ilt a4 (-2305843009213693952)))))
def tourlaw2_PolyWide (k : Nat) (a0 : V40) (a1 : V40) (a2 : V24) (a3 : V24) (a4 : Int) : Option Bool :=
  bnd (poly_Times k (-3) 5) fun y1 =>
  bif' (Ty.eqb T40 y1 ((-1 : Int), (18446744073709551601 : Int), ()))
  (bnd (tourref2_OfWide k a0) fun y4 =>
   bnd (tourref2_OfWide k a1) fun y6 =>
   bnd (tourlaw2_PolyWide.c1 k a0 a1 a2 a3 y4 y6) fun o37 =>
   bif' o37
   (some false)
   (bnd (tourlaw2_PolyWide.c2 k a2 a3) fun o53 =>
    bif' o53
    (some false)
    (bnd (tourlaw2_PolyWide.c3 k a0 a4) fun o59 =>
     bif' o59
     (some true)
     (bnd (poly_Wide_Over k a0 a4) fun y62 =>
      bnd (tourref2_Big_Over k y4 a4) fun y64 =>
      bif' (ieq y62.1 y64.1)
      (some (ieq y62.2 y64.2))
      (some false)))))
  (some false)
noncomputable def tourlaw2_PolyWide.sp (k : Nat) : Go.Sx.Spec := ⟨(.pair T40 (.pair T40 (.pair T24 (.pair T24 (.pair T3 .unit))))), (.one (.dp T4)), fun x => tourlaw2_PolyWide k x.1 x.2.1 x.2.2.1 x.2.2.2.1 x.2.2.2.2.1, false⟩
noncomputable def tourlaw2_PolyWide.cx (k : Nat) : Go.Sx.Ctx := ⟨tys, [(31, poly_Times.sp k), (35, tourref2_OfWide.sp k), (36, tourref2_Of.sp k), (37, tourref2_Big_Mul.sp k), (38, tourref2_Big_Wide.sp k), (32, poly_Wide_Plus.sp k), (39, tourref2_Big_Add.sp k), (33, poly_Wide_Minus.sp k), (40, tourref2_Big_Sub.sp k), (29, poly_Wide_Cmp.sp k), (41, tourref2_Big_Cmp.sp k), (28, poly_Dot.sp k), (42, tourref2_Dot.sp k), (43, poly_Cross.sp k), (44, tourref2_Cross.sp k), (34, poly_Wide_Over.sp k), (45, tourref2_Big_Over.sp k)], eqs, 121, false⟩
theorem tourlaw2_PolyWide.cok (k : Nat) : CtxOk PR (tourlaw2_PolyWide.cx k) := ctx_ok tysOk eqsOk (FnsOk.cons (poly_Times.ok k) (FnsOk.cons (tourref2_OfWide.ok k) (FnsOk.cons (tourref2_Of.ok k) (FnsOk.cons (tourref2_Big_Mul.ok k) (FnsOk.cons (tourref2_Big_Wide.ok k) (FnsOk.cons (poly_Wide_Plus.ok k) (FnsOk.cons (tourref2_Big_Add.ok k) (FnsOk.cons (poly_Wide_Minus.ok k) (FnsOk.cons (tourref2_Big_Sub.ok k) (FnsOk.cons (poly_Wide_Cmp.ok k) (FnsOk.cons (tourref2_Big_Cmp.ok k) (FnsOk.cons (poly_Dot.ok k) (FnsOk.cons (tourref2_Dot.ok k) (FnsOk.cons (poly_Cross.ok k) (FnsOk.cons (tourref2_Cross.ok k) (FnsOk.cons (poly_Wide_Over.ok k) (FnsOk.cons (tourref2_Big_Over.ok k) FnsOk.nil)))))))))))))))))
noncomputable def tourlaw2_PolyWide.c1p (a0 : V40) (a1 : V40) (a2 : V24) (a3 : V24) (a4 : Int) (y4 : (List Int)) (y6 : (List Int)) : SL := ⟨[(4, (.val T3 a4)), (5, (.val .ptr ⟨0, 0, (0 : Int), 0, 0⟩)), (6, (.val .ptr ⟨1, 0, (0 : Int), 0, 0⟩)), (7, (.val .ptr ⟨2, 0, (0 : Int), 0, 0⟩)), (8, (.val .ptr ⟨3, 0, (0 : Int), 0, 0⟩)), (11, (.val .ptr ⟨4, 0, (0 : Int), 0, 0⟩)), (12, (.val .ptr ⟨5, 0, (0 : Int), 0, 0⟩))], [(0, .cells T40 a0), (1, .cells T40 a1), (2, .cells T24 a2), (3, .cells T24 a3), (4, .cells T52 y4), (5, .cells T52 y6)]⟩
noncomputable def tourlaw2_PolyWide.c1q (a0 : V40) (a2 : V24) (a3 : V24) (a4 : Int) (y4 : (List Int)) (o : Bool) : SL := (fun v => ⟨[(4, (.val T3 a4)), (5, (.val .ptr ⟨0, 0, (0 : Int), 0, 0⟩)), (7, (.val .ptr ⟨1, 0, (0 : Int), 0, 0⟩)), (8, (.val .ptr ⟨2, 0, (0 : Int), 0, 0⟩)), (11, (.val .ptr ⟨3, 0, (0 : Int), 0, 0⟩)), (66, (.val T4 v))], [(0, .cells T40 a0), (1, .cells T24 a2), (2, .cells T24 a3), (3, .cells T52 y4)]⟩) o
noncomputable def tourlaw2_PolyWide.c1x (o : Bool) : Ex := (fun _ => .normal) o
noncomputable def tourlaw2_PolyWide.c1n (o : Bool) : Nat := (fun _ => 4) o
theorem tourlaw2_PolyWide.c1_ok (k : Nat) (a0 : V40) (a1 : V40) (a2 : V24) (a3 : V24) (a4 : Int) (y4 : (List Int)) (y6 : (List Int)) : Owp (tourlaw2_PolyWide.c1 k a0 a1 a2 a3 y4 y6) fun o => Triple PR (tourlaw2_PolyWide.cx k) (sub tourlaw2_PolyWide.code [1, 1, 1, 0, 0]) 6 (tourlaw2_PolyWide.c1p a0 a1 a2 a3 a4 y4 y6) (tourlaw2_PolyWide.c1x o) (tourlaw2_PolyWide.c1n o) (tourlaw2_PolyWide.c1q a0 a2 a3 a4 y4 o) := by
  unfold tourlaw2_PolyWide.c1; exact
   Owp.bnd fun y8 e9 =>
   Owp.bnd fun y10 e11 =>
   Owp.bnd fun y12 e13 =>
   Owp.bnd fun y14 e15 =>
   Owp.bnd fun y16 e17 =>
   Owp.bif (fun e18 =>
   Owp.bnd fun y19 e20 =>
    Owp.bnd fun y21 e22 =>
    Owp.bnd fun y23 e24 =>
    Owp.bif (fun e25 =>
    Owp.bnd fun y26 e27 =>
     Owp.bnd fun y28 e29 =>
     Owp.bnd fun y30 e31 =>
     Owp.bif (fun e32 =>
     Owp.bnd fun y33 e34 =>
      Owp.bnd fun y35 e36 =>
      Owp.some (triple_way (tourlaw2_PolyWide.cok k) hmix [.res (.one (.dp T40)) y8, .res (.one (.dp T52)) y10, .res (.one (.dp T52)) y12, .res (.one (.dp T52)) y14, .res (.one (.dp T40)) y16, .dec false, .dec false, .dec false, .res (.one (.dp T40)) y19, .dec false, .dec false, .dec false, .res (.one (.dp T52)) y21, .dec false, .res (.one (.dp T40)) y23, .dec false, .dec false, .dec false, .dec false, .dec false, .res (.one (.dp T40)) y26, .dec false, .dec false, .dec false, .res (.one (.dp T52)) y28, .dec false, .res (.one (.dp T40)) y30, .dec false, .dec false, .dec false, .dec false, .dec false, .res (.one (.dp T3)) y33, .dec false, .dec false, .dec false, .res (.one (.dp T3)) y35, .dec false, .dec false] [] [(0, 0), (1, 2), (2, 3), (3, 4)] (via (finP (And.intro (And.intro (And.intro (And.intro (And.intro (And.intro (And.intro (And.intro (And.intro (And.intro (And.intro (And.intro (And.intro (And.intro (And.intro (And.intro (And.intro (And.intro (And.intro (And.intro (And.intro (And.intro (And.intro (And.intro (And.intro (And.intro (And.intro (And.intro (And.intro (And.intro (And.intro trivial e9) e11) e13) e15) e17) (congrArg not e18)) (congrArg not e18)) (And.intro (congrArg not e18) e20)) (congrArg not e18)) (congrArg not e18)) (And.intro (congrArg not e18) e22)) (And.intro (congrArg not e18) e24)) (congrArg not e18)) (congrArg not e18)) (congrArg not e25)) (congrArg not e25)) (And.intro (congrArg not e25) e27)) (congrArg not e25)) (congrArg not e25)) (And.intro (congrArg not e25) e29)) (And.intro (congrArg not e25) e31)) (congrArg not e25)) (congrArg not e25)) (congrArg not e32)) (congrArg not e32)) (And.intro (congrArg not e32) e34)) (congrArg not e32)) (congrArg not e32)) (And.intro (congrArg not e32) e36)) (congrArg not e32)) (congrArg not e32)) .normal [(0, 0), (1, 2), (2, 3), (3, 4)] (tourlaw2_PolyWide.c1q a0 a2 a3 a4 y4 (ine y33 y35))) (by kernel_rfl)))) (fun e32 =>
     Owp.some (triple_way (tourlaw2_PolyWide.cok k) hmix [.res (.one (.dp T40)) y8, .res (.one (.dp T52)) y10, .res (.one (.dp T52)) y12, .res (.one (.dp T52)) y14, .res (.one (.dp T40)) y16, .dec false, .dec false, .dec false, .res (.one (.dp T40)) y19, .dec false, .dec false, .dec false, .res (.one (.dp T52)) y21, .dec false, .res (.one (.dp T40)) y23, .dec false, .dec false, .dec false, .dec false, .dec false, .res (.one (.dp T40)) y26, .dec false, .dec false, .dec false, .res (.one (.dp T52)) y28, .dec false, .res (.one (.dp T40)) y30, .dec false, .dec false, .dec true, .dec true, .dec true, .dec true, .dec true, .dec true, .dec true, .dec true, .dec true, .dec true] [] [(0, 0), (1, 2), (2, 3), (3, 4)] (via (finP (And.intro (And.intro (And.intro (And.intro (And.intro (And.intro (And.intro (And.intro (And.intro (And.intro (And.intro (And.intro (And.intro (And.intro (And.intro (And.intro (And.intro (And.intro (And.intro (And.intro (And.intro (And.intro (And.intro (And.intro (And.intro (And.intro (And.intro (And.intro (And.intro (And.intro (And.intro trivial e9) e11) e13) e15) e17) (congrArg not e18)) (congrArg not e18)) (And.intro (congrArg not e18) e20)) (congrArg not e18)) (congrArg not e18)) (And.intro (congrArg not e18) e22)) (And.intro (congrArg not e18) e24)) (congrArg not e18)) (congrArg not e18)) (congrArg not e25)) (congrArg not e25)) (And.intro (congrArg not e25) e27)) (congrArg not e25)) (congrArg not e25)) (And.intro (congrArg not e25) e29)) (And.intro (congrArg not e25) e31)) (congrArg not e25)) (congrArg not e25)) (congrArg not e32)) (congrArg not e32)) (congrArg not e32)) (congrArg not e32)) (congrArg not e32)) (congrArg not e32)) (congrArg not e32)) (congrArg not e32)) .normal [(0, 0), (1, 2), (2, 3), (3, 4)] (tourlaw2_PolyWide.c1q a0 a2 a3 a4 y4 true)) (by kernel_rfl))))) (fun e25 =>
    Owp.some (triple_way (tourlaw2_PolyWide.cok k) hmix [.res (.one (.dp T40)) y8, .res (.one (.dp T52)) y10, .res (.one (.dp T52)) y12, .res (.one (.dp T52)) y14, .res (.one (.dp T40)) y16, .dec false, .dec false, .dec false, .res (.one (.dp T40)) y19, .dec false, .dec false, .dec false, .res (.one (.dp T52)) y21, .dec false, .res (.one (.dp T40)) y23, .dec false, .dec false, .dec true, .dec true, .dec true, .dec true, .dec true, .dec true, .dec true, .dec true, .dec true, .dec true, .dec true, .dec true, .dec true, .dec true, .dec true, .dec true, .dec true, .dec true, .dec true, .dec true, .dec true, .dec true] [] [(0, 0), (1, 2), (2, 3), (3, 4)] (via (finP (And.intro (And.intro (And.intro (And.intro (And.intro (And.intro (And.intro (And.intro (And.intro (And.intro (And.intro (And.intro (And.intro (And.intro (And.intro (And.intro (And.intro (And.intro (And.intro (And.intro (And.intro (And.intro (And.intro (And.intro (And.intro (And.intro (And.intro (And.intro (And.intro (And.intro (And.intro trivial e9) e11) e13) e15) e17) (congrArg not e18)) (congrArg not e18)) (And.intro (congrArg not e18) e20)) (congrArg not e18)) (congrArg not e18)) (And.intro (congrArg not e18) e22)) (And.intro (congrArg not e18) e24)) (congrArg not e18)) (congrArg not e18)) (congrArg not e25)) (congrArg not e25)) (congrArg not e25)) (congrArg not e25)) (congrArg not e25)) (congrArg not e25)) (congrArg not e25)) (congrArg not e25)) (congrArg not e25)) tt) tt) tt) tt) tt) tt) tt) tt) .normal [(0, 0), (1, 2), (2, 3), (3, 4)] (tourlaw2_PolyWide.c1q a0 a2 a3 a4 y4 true)) (by kernel_rfl))))) (fun e18 =>
   Owp.some (triple_way (tourlaw2_PolyWide.cok k) hmix [.res (.one (.dp T40)) y8, .res (.one (.dp T52)) y10, .res (.one (.dp T52)) y12, .res (.one (.dp T52)) y14, .res (.one (.dp T40)) y16, .dec true, .dec true, .dec true, .dec true, .dec true, .dec true, .dec true, .dec true, .dec true, .dec true, .dec true, .dec true, .dec true, .dec true, .dec true, .dec true, .dec true, .dec true, .dec true, .dec true, .dec true, .dec true, .dec true, .dec true, .dec true, .dec true, .dec true, .dec true, .dec true, .dec true, .dec true, .dec true, .dec true, .dec true] [] [(0, 0), (1, 2), (2, 3), (3, 4)] (via (finP (And.intro (And.intro (And.intro (And.intro (And.intro (And.intro (And.intro (And.intro (And.intro (And.intro (And.intro (And.intro (And.intro (And.intro (And.intro (And.intro (And.intro (And.intro (And.intro (And.intro (And.intro (And.intro (And.intro (And.intro (And.intro (And.intro (And.intro (And.intro (And.intro (And.intro (And.intro trivial e9) e11) e13) e15) e17) (congrArg not e18)) (congrArg not e18)) (congrArg not e18)) (congrArg not e18)) (congrArg not e18)) (congrArg not e18)) (congrArg not e18)) (congrArg not e18)) (congrArg not e18)) tt) tt) tt) tt) tt) tt) tt) tt) tt) tt) tt) tt) tt) tt) tt) tt) tt) .normal [(0, 0), (1, 2), (2, 3), (3, 4)] (tourlaw2_PolyWide.c1q a0 a2 a3 a4 y4 true)) (by kernel_rfl))))
noncomputable def tourlaw2_PolyWide.c2p (a0 : V40) (a2 : V24) (a3 : V24) (a4 : Int) (y4 : (List Int)) : SL := ⟨[(4, (.val T3 a4)), (5, (.val .ptr ⟨0, 0, (0 : Int), 0, 0⟩)), (7, (.val .ptr ⟨1, 0, (0 : Int), 0, 0⟩)), (8, (.val .ptr ⟨2, 0, (0 : Int), 0, 0⟩)), (11, (.val .ptr ⟨3, 0, (0 : Int), 0, 0⟩))], [(0, .cells T40 a0), (1, .cells T24 a2), (2, .cells T24 a3), (3, .cells T52 y4)]⟩
noncomputable def tourlaw2_PolyWide.c2q (a0 : V40) (a4 : Int) (y4 : (List Int)) (o : Bool) : SL := (fun v => ⟨[(4, (.val T3 a4)), (5, (.val .ptr ⟨0, 0, (0 : Int), 0, 0⟩)), (11, (.val .ptr ⟨1, 0, (0 : Int), 0, 0⟩)), (84, (.val T4 v))], [(0, .cells T40 a0), (1, .cells T52 y4)]⟩) o
noncomputable def tourlaw2_PolyWide.c2x (o : Bool) : Ex := (fun _ => .normal) o
noncomputable def tourlaw2_PolyWide.c2n (o : Bool) : Nat := (fun _ => 2) o
theorem tourlaw2_PolyWide.c2_ok (k : Nat) (a0 : V40) (a2 : V24) (a3 : V24) (a4 : Int) (y4 : (List Int)) : Owp (tourlaw2_PolyWide.c2 k a2 a3) fun o => Triple PR (tourlaw2_PolyWide.cx k) (sub tourlaw2_PolyWide.code [1, 1, 1, 1, 0, 0]) 4 (tourlaw2_PolyWide.c2p a0 a2 a3 a4 y4) (tourlaw2_PolyWide.c2x o) (tourlaw2_PolyWide.c2n o) (tourlaw2_PolyWide.c2q a0 a4 y4 o) := by
  unfold tourlaw2_PolyWide.c2; exact
   Owp.bnd fun y40 e41 =>
   Owp.bnd fun y42 e43 =>
   Owp.bnd fun y44 e45 =>
   Owp.bif (fun e46 =>
   Owp.bnd fun y47 e48 =>
    Owp.bnd fun y49 e50 =>
    Owp.bnd fun y51 e52 =>
    Owp.some (triple_way (tourlaw2_PolyWide.cok k) hmix [.res (.one (.dp T40)) y40, .res (.one (.dp T52)) y42, .res (.one (.dp T40)) y44, .dec false, .dec false, .dec false, .res (.one (.dp T40)) y47, .dec false, .dec false, .dec false, .res (.one (.dp T52)) y49, .dec false, .res (.one (.dp T40)) y51, .dec false, .dec false] [] [(0, 0), (1, 3)] (via (finP (And.intro (And.intro (And.intro (And.intro (And.intro (And.intro (And.intro (And.intro (And.intro (And.intro (And.intro (And.intro trivial e41) e43) e45) (congrArg not e46)) (congrArg not e46)) (And.intro (congrArg not e46) e48)) (congrArg not e46)) (congrArg not e46)) (And.intro (congrArg not e46) e50)) (And.intro (congrArg not e46) e52)) (congrArg not e46)) (congrArg not e46)) .normal [(0, 0), (1, 3)] (tourlaw2_PolyWide.c2q a0 a4 y4 (!(Ty.eqb T40 y47 y51)))) (by kernel_rfl)))) (fun e46 =>
   Owp.some (triple_way (tourlaw2_PolyWide.cok k) hmix [.res (.one (.dp T40)) y40, .res (.one (.dp T52)) y42, .res (.one (.dp T40)) y44, .dec true, .dec true, .dec true, .dec true, .dec true, .dec true, .dec true, .dec true, .dec true, .dec true, .dec true, .dec true] [] [(0, 0), (1, 3)] (via (finP (And.intro (And.intro (And.intro (And.intro (And.intro (And.intro (And.intro (And.intro (And.intro (And.intro (And.intro (And.intro trivial e41) e43) e45) (congrArg not e46)) (congrArg not e46)) (congrArg not e46)) (congrArg not e46)) (congrArg not e46)) (congrArg not e46)) (congrArg not e46)) (congrArg not e46)) (congrArg not e46)) .normal [(0, 0), (1, 3)] (tourlaw2_PolyWide.c2q a0 a4 y4 true)) (by kernel_rfl))))
noncomputable def tourlaw2_PolyWide.c3p (a0 : V40) (a4 : Int) (y4 : (List Int)) : SL := ⟨[(4, (.val T3 a4)), (5, (.val .ptr ⟨0, 0, (0 : Int), 0, 0⟩)), (11, (.val .ptr ⟨1, 0, (0 : Int), 0, 0⟩))], [(0, .cells T40 a0), (1, .cells T52 y4)]⟩
noncomputable def tourlaw2_PolyWide.c3q (a0 : V40) (a4 : Int) (y4 : (List Int)) (o : Bool) : SL := (fun v => ⟨[(4, (.val T3 a4)), (5, (.val .ptr ⟨0, 0, (0 : Int), 0, 0⟩)), (11, (.val .ptr ⟨1, 0, (0 : Int), 0, 0⟩)), (100, (.val T4 v))], [(0, .cells T40 a0), (1, .cells T52 y4)]⟩) o
noncomputable def tourlaw2_PolyWide.c3x (o : Bool) : Ex := (fun _ => .normal) o
noncomputable def tourlaw2_PolyWide.c3n (o : Bool) : Nat := (fun _ => 2) o
theorem tourlaw2_PolyWide.c3_ok (k : Nat) (a0 : V40) (a4 : Int) (y4 : (List Int)) : Owp (tourlaw2_PolyWide.c3 k a0 a4) fun o => Triple PR (tourlaw2_PolyWide.cx k) (sub tourlaw2_PolyWide.code [1, 1, 1, 1, 1, 0, 0]) 2 (tourlaw2_PolyWide.c3p a0 a4 y4) (tourlaw2_PolyWide.c3x o) (tourlaw2_PolyWide.c3n o) (tourlaw2_PolyWide.c3q a0 a4 y4 o) := by
  unfold tourlaw2_PolyWide.c3; exact
   Owp.bif (fun e56 =>
   Owp.some (triple_way (tourlaw2_PolyWide.cok k) hmix [.dec true, .dec true, .dec true, .dec true, .dec true, .dec true, .dec true, .dec true, .dec true, .dec true] [] [(0, 0), (1, 1)] (via (finP (And.intro (And.intro (And.intro (And.intro (And.intro (And.intro (And.intro (And.intro (And.intro (And.intro trivial e56) e56) e56) e56) tt) tt) tt) tt) tt) tt) .normal [(0, 0), (1, 1)] (tourlaw2_PolyWide.c3q a0 a4 y4 true)) (by kernel_rfl)))) (fun e56 =>
   Owp.bif (fun e57 =>
    Owp.some (triple_way (tourlaw2_PolyWide.cok k) hmix [.dec false, .dec false, .dec false, .dec false, .dec true, .dec true, .dec true, .dec true, .dec true, .dec true] [] [(0, 0), (1, 1)] (via (finP (And.intro (And.intro (And.intro (And.intro (And.intro (And.intro (And.intro (And.intro (And.intro (And.intro trivial e56) e56) e56) e56) e57) e57) e57) tt) tt) tt) .normal [(0, 0), (1, 1)] (tourlaw2_PolyWide.c3q a0 a4 y4 true)) (by kernel_rfl)))) (fun e57 =>
    Owp.bif (fun e58 =>
     Owp.some (triple_way (tourlaw2_PolyWide.cok k) hmix [.dec false, .dec false, .dec false, .dec false, .dec false, .dec false, .dec false, .dec true, .dec true, .dec true] [] [(0, 0), (1, 1)] (via (finP (And.intro (And.intro (And.intro (And.intro (And.intro (And.intro (And.intro (And.intro (And.intro (And.intro trivial e56) e56) e56) e56) e57) e57) e57) e58) e58) e58) .normal [(0, 0), (1, 1)] (tourlaw2_PolyWide.c3q a0 a4 y4 true)) (by kernel_rfl)))) (fun e58 =>
     Owp.some (triple_way (tourlaw2_PolyWide.cok k) hmix [.dec false, .dec false, .dec false, .dec false, .dec false, .dec false, .dec false, .dec false, .dec false, .dec false] [] [(0, 0), (1, 1)] (via (finP (And.intro (And.intro (And.intro (And.intro (And.intro (And.intro (And.intro (And.intro (And.intro (And.intro trivial e56) e56) e56) e56) e57) e57) e57) e58) e58) e58) .normal [(0, 0), (1, 1)] (tourlaw2_PolyWide.c3q a0 a4 y4 (ilt a4 (-2305843009213693952 : Int)))) (by kernel_rfl))))))
theorem tourlaw2_PolyWide.way (k : Nat) (a0 : V40) (a1 : V40) (a2 : V24) (a3 : V24) (a4 : Int) : Owp (tourlaw2_PolyWide k a0 a1 a2 a3 a4) fun y => ∃ answers cmds, exec PR (tourlaw2_PolyWide.cx k) tourlaw2_PolyWide.code 0 (entry (.pair T40 (.pair T40 (.pair T24 (.pair T24 (.pair T3 .unit))))) (a0, a1, a2, a3, a4, ())).st answers (Ret (tourlaw2_PolyWide.cx k) Try.f7 cmds (.one (.dp T4)) y) := by
  unfold tourlaw2_PolyWide; exact
   Owp.bnd fun y1 e2 =>
   Owp.bif (fun e3 =>
   Owp.bnd fun y4 e5 =>
    Owp.bnd fun y6 e7 =>
    Owp.bnd fun o37 e38 =>
    Owp.bif (fun e39 =>
    Owp.some (⟨[.res (.one (.dp T40)) y1, .dec false, .res (.one (.dp T52)) y4, .res (.one (.dp T52)) y6, .cutR 4 ⟨[], [(0, 0), (1, 1), (2, 2), (3, 3), (4, 12), (5, 13)], (tourlaw2_PolyWide.c1p a0 a1 a2 a3 a4 y4 y6), 6, .normal, (tourlaw2_PolyWide.c1q a0 a2 a3 a4 y4 o37), 4⟩, .dec true], [], via (cutP (And.intro (And.intro (And.intro (And.intro trivial e2) (congrArg not e3)) e5) e7) [(0, 0), (1, 1), (2, 2), (3, 3), (4, 12), (5, 13)] (tourlaw2_PolyWide.c1p a0 a1 a2 a3 a4 y4 y6) (((tourlaw2_PolyWide.c1_ok k a0 a1 a2 a3 a4 y4 y6).ap e38)) (retP (And.intro trivial e39) (.one (.dp T4)) (false : Bool))) (by kernel_rfl)⟩)) (fun e39 =>
    Owp.bnd fun o53 e54 =>
     Owp.bif (fun e55 =>
     Owp.some (⟨[.res (.one (.dp T40)) y1, .dec false, .res (.one (.dp T52)) y4, .res (.one (.dp T52)) y6, .cutR 4 ⟨[], [(0, 0), (1, 1), (2, 2), (3, 3), (4, 12), (5, 13)], (tourlaw2_PolyWide.c1p a0 a1 a2 a3 a4 y4 y6), 6, .normal, (tourlaw2_PolyWide.c1q a0 a2 a3 a4 y4 o37), 4⟩, .dec false, .cutR 6 ⟨[], [(0, 0), (1, 1), (2, 2), (3, 3)], (tourlaw2_PolyWide.c2p a0 a2 a3 a4 y4), 4, .normal, (tourlaw2_PolyWide.c2q a0 a4 y4 o53), 2⟩, .dec true], [], via (cutP (And.intro (And.intro (And.intro (And.intro trivial e2) (congrArg not e3)) e5) e7) [(0, 0), (1, 1), (2, 2), (3, 3), (4, 12), (5, 13)] (tourlaw2_PolyWide.c1p a0 a1 a2 a3 a4 y4 y6) (((tourlaw2_PolyWide.c1_ok k a0 a1 a2 a3 a4 y4 y6).ap e38)) (cutP (And.intro trivial e39) [(0, 0), (1, 1), (2, 2), (3, 3)] (tourlaw2_PolyWide.c2p a0 a2 a3 a4 y4) (((tourlaw2_PolyWide.c2_ok k a0 a2 a3 a4 y4).ap e54)) (retP (And.intro trivial e55) (.one (.dp T4)) (false : Bool)))) (by kernel_rfl)⟩)) (fun e55 =>
     Owp.bnd fun o59 e60 =>
      Owp.bif (fun e61 =>
      Owp.some (⟨[.res (.one (.dp T40)) y1, .dec false, .res (.one (.dp T52)) y4, .res (.one (.dp T52)) y6, .cutR 4 ⟨[], [(0, 0), (1, 1), (2, 2), (3, 3), (4, 12), (5, 13)], (tourlaw2_PolyWide.c1p a0 a1 a2 a3 a4 y4 y6), 6, .normal, (tourlaw2_PolyWide.c1q a0 a2 a3 a4 y4 o37), 4⟩, .dec false, .cutR 6 ⟨[], [(0, 0), (1, 1), (2, 2), (3, 3)], (tourlaw2_PolyWide.c2p a0 a2 a3 a4 y4), 4, .normal, (tourlaw2_PolyWide.c2q a0 a4 y4 o53), 2⟩, .dec false, .cutR 8 ⟨[], [(0, 0), (1, 1)], (tourlaw2_PolyWide.c3p a0 a4 y4), 2, .normal, (tourlaw2_PolyWide.c3q a0 a4 y4 o59), 2⟩, .dec true], [], via (cutP (And.intro (And.intro (And.intro (And.intro trivial e2) (congrArg not e3)) e5) e7) [(0, 0), (1, 1), (2, 2), (3, 3), (4, 12), (5, 13)] (tourlaw2_PolyWide.c1p a0 a1 a2 a3 a4 y4 y6) (((tourlaw2_PolyWide.c1_ok k a0 a1 a2 a3 a4 y4 y6).ap e38)) (cutP (And.intro trivial e39) [(0, 0), (1, 1), (2, 2), (3, 3)] (tourlaw2_PolyWide.c2p a0 a2 a3 a4 y4) (((tourlaw2_PolyWide.c2_ok k a0 a2 a3 a4 y4).ap e54)) (cutP (And.intro trivial e55) [(0, 0), (1, 1)] (tourlaw2_PolyWide.c3p a0 a4 y4) (((tourlaw2_PolyWide.c3_ok k a0 a4 y4).ap e60)) (retP (And.intro trivial e61) (.one (.dp T4)) (true : Bool))))) (by kernel_rfl)⟩)) (fun e61 =>
      Owp.bnd fun y62 e63 =>
       Owp.bnd fun y64 e65 =>
       Owp.bif (fun e66 =>
       Owp.some (⟨[.res (.one (.dp T40)) y1, .dec false, .res (.one (.dp T52)) y4, .res (.one (.dp T52)) y6, .cutR 4 ⟨[], [(0, 0), (1, 1), (2, 2), (3, 3), (4, 12), (5, 13)], (tourlaw2_PolyWide.c1p a0 a1 a2 a3 a4 y4 y6), 6, .normal, (tourlaw2_PolyWide.c1q a0 a2 a3 a4 y4 o37), 4⟩, .dec false, .cutR 6 ⟨[], [(0, 0), (1, 1), (2, 2), (3, 3)], (tourlaw2_PolyWide.c2p a0 a2 a3 a4 y4), 4, .normal, (tourlaw2_PolyWide.c2q a0 a4 y4 o53), 2⟩, .dec false, .cutR 8 ⟨[], [(0, 0), (1, 1)], (tourlaw2_PolyWide.c3p a0 a4 y4), 2, .normal, (tourlaw2_PolyWide.c3q a0 a4 y4 o59), 2⟩, .dec false, .res (.more (.dp T3) (.one (.dp T3))) y62, .res (.more (.dp T3) (.one (.dp T3))) y64, .dec true, .dec true, .dec true, .dec true], [], via (cutP (And.intro (And.intro (And.intro (And.intro trivial e2) (congrArg not e3)) e5) e7) [(0, 0), (1, 1), (2, 2), (3, 3), (4, 12), (5, 13)] (tourlaw2_PolyWide.c1p a0 a1 a2 a3 a4 y4 y6) (((tourlaw2_PolyWide.c1_ok k a0 a1 a2 a3 a4 y4 y6).ap e38)) (cutP (And.intro trivial e39) [(0, 0), (1, 1), (2, 2), (3, 3)] (tourlaw2_PolyWide.c2p a0 a2 a3 a4 y4) (((tourlaw2_PolyWide.c2_ok k a0 a2 a3 a4 y4).ap e54)) (cutP (And.intro trivial e55) [(0, 0), (1, 1)] (tourlaw2_PolyWide.c3p a0 a4 y4) (((tourlaw2_PolyWide.c3_ok k a0 a4 y4).ap e60)) (retP (And.intro (And.intro (And.intro (And.intro (And.intro (And.intro (And.intro trivial e61) e63) e65) e66) e66) e66) e66) (.one (.dp T4)) ((ieq y62.2 y64.2) : Bool))))) (by kernel_rfl)⟩)) (fun e66 =>
       Owp.some (⟨[.res (.one (.dp T40)) y1, .dec false, .res (.one (.dp T52)) y4, .res (.one (.dp T52)) y6, .cutR 4 ⟨[], [(0, 0), (1, 1), (2, 2), (3, 3), (4, 12), (5, 13)], (tourlaw2_PolyWide.c1p a0 a1 a2 a3 a4 y4 y6), 6, .normal, (tourlaw2_PolyWide.c1q a0 a2 a3 a4 y4 o37), 4⟩, .dec false, .cutR 6 ⟨[], [(0, 0), (1, 1), (2, 2), (3, 3)], (tourlaw2_PolyWide.c2p a0 a2 a3 a4 y4), 4, .normal, (tourlaw2_PolyWide.c2q a0 a4 y4 o53), 2⟩, .dec false, .cutR 8 ⟨[], [(0, 0), (1, 1)], (tourlaw2_PolyWide.c3p a0 a4 y4), 2, .normal, (tourlaw2_PolyWide.c3q a0 a4 y4 o59), 2⟩, .dec false, .res (.more (.dp T3) (.one (.dp T3))) y62, .res (.more (.dp T3) (.one (.dp T3))) y64, .dec false, .dec false, .dec false, .dec false], [], via (cutP (And.intro (And.intro (And.intro (And.intro trivial e2) (congrArg not e3)) e5) e7) [(0, 0), (1, 1), (2, 2), (3, 3), (4, 12), (5, 13)] (tourlaw2_PolyWide.c1p a0 a1 a2 a3 a4 y4 y6) (((tourlaw2_PolyWide.c1_ok k a0 a1 a2 a3 a4 y4 y6).ap e38)) (cutP (And.intro trivial e39) [(0, 0), (1, 1), (2, 2), (3, 3)] (tourlaw2_PolyWide.c2p a0 a2 a3 a4 y4) (((tourlaw2_PolyWide.c2_ok k a0 a2 a3 a4 y4).ap e54)) (cutP (And.intro trivial e55) [(0, 0), (1, 1)] (tourlaw2_PolyWide.c3p a0 a4 y4) (((tourlaw2_PolyWide.c3_ok k a0 a4 y4).ap e60)) (retP (And.intro (And.intro (And.intro (And.intro (And.intro (And.intro (And.intro trivial e61) e63) e65) e66) e66) e66) e66) (.one (.dp T4)) (false : Bool))))) (by kernel_rfl)⟩)))))) (fun e3 =>
   Owp.some (⟨[.res (.one (.dp T40)) y1, .dec true], [], via (retP (And.intro (And.intro trivial e2) (congrArg not e3)) (.one (.dp T4)) (false : Bool)) (by kernel_rfl)⟩))
theorem tourlaw2_PolyWide.ok (k : Nat) : FnOk PR 7 (tourlaw2_PolyWide.sp k) :=
  fn_ok (tourlaw2_PolyWide.cok k) hmix Try.func7 (code := tourlaw2_PolyWide.code) (by kernel_rfl) (by kernel_rfl) (by kernel_rfl) rfl (by kernel_rfl) (by kernel_rfl) (by kernel_rfl) (fun x => Nat.le_of_ble_eq_true (by kernel_rfl)) fun x y hy => (tourlaw2_PolyWide.way k x.1 x.2.1 x.2.2.1 x.2.2.2.1 x.2.2.2.2.1).ap hy

/-! slices.Equal[[]tourney/api.Vec,tourney/api.Vec] -/
noncomputable def slices_Equal.code : Code := Func.cd Try.f51
def slices_Equal.c1 (k : Nat) (a0 : (List V24)) (a1 : (List V24)) : Nat → Int → Option (Unit ⊕ Unit)
  | 0, _ => none
  | n + 1, v2 =>
   bif' (ilt v2 (len a0))
   (req (inL v2 a0) <|
    req (inL v2 a1) <|
    bif' (Ty.eqb T24 (el Z24 a0 v2) (el Z24 a1 v2))
    (slices_Equal.c1 k a0 a1 n (iadd .i64 v2 1))
    (some (.inl ())))
   (some (.inr ()))
def slices_Equal (k : Nat) (a0 : (List V24)) (a1 : (List V24)) : Option Bool :=
  bif' (ine (len a0) (len a1))
  (some false)
  (bnd (slices_Equal.c1 k a0 a1 k 0) fun o7 =>
   two o7 (fun y9 =>
   some false) (fun y11 =>
   some true))
noncomputable def slices_Equal.sp (k : Nat) : Go.Sx.Spec := ⟨(.pair T22 (.pair T22 .unit)), (.one (.dp T4)), fun x => slices_Equal k x.1 x.2.1, false⟩
noncomputable def slices_Equal.cx (k : Nat) : Go.Sx.Ctx := ⟨tys, [], eqs, 26, false⟩
theorem slices_Equal.cok (k : Nat) : CtxOk PR (slices_Equal.cx k) := ctx_ok tysOk eqsOk FnsOk.nil
noncomputable def slices_Equal.c1p (a0 : (List V24)) (a1 : (List V24)) (v2 : Int) : SL := ⟨[(0, (.val T22 a0)), (1, (.val T22 a1)), (12, (.val T3 (len a0))), (13, (.val T3 v2))], []⟩
noncomputable def slices_Equal.c1q (o : Unit ⊕ Unit) : SL := (fun o => two o (fun v => ⟨[(4, (.val T4 false))], []⟩) (fun v => ⟨[], []⟩)) o
noncomputable def slices_Equal.c1x (o : Unit ⊕ Unit) : Ex := (fun o => two o (fun _ => .ret) (fun _ => (.exit 0))) o
noncomputable def slices_Equal.c1n (o : Unit ⊕ Unit) : Nat := (fun o => two o (fun _ => 0) (fun _ => 0)) o
theorem slices_Equal.c1_ok (k : Nat) (a0 : (List V24)) (a1 : (List V24)) : ∀ (n : Nat) (v2 : Int), Owp (slices_Equal.c1 k a0 a1 n v2) fun o => LTriple PR (slices_Equal.cx k) (sub slices_Equal.code [1, 1, 0, 1, 0, 0]) 0 (slices_Equal.c1p a0 a1 v2) (slices_Equal.c1x o) (slices_Equal.c1n o) (slices_Equal.c1q o)
  | 0, _ => fun _ h => nomatch h
  | n + 1, v2 => Owp.of (slices_Equal.c1.eq_2 ..) (
   Owp.bif (fun e3 =>
   Owp.req fun h4 =>
    Owp.req fun h5 =>
    Owp.bif (fun e6 =>
    fun y hy => loop_back (slices_Equal.cok k) hmix 0 (slices_Equal.c1p a0 a1 (iadd .i64 v2 (1 : Int))) [.dec true, .dec false] [] [] (via (finP (And.intro (And.intro (And.intro (And.intro trivial e3) h4) h5) (congrArg not e6)) .normal [] (slices_Equal.c1p a0 a1 (iadd .i64 v2 (1 : Int)))) (by kernel_rfl)) ((slices_Equal.c1_ok k a0 a1 n (iadd .i64 v2 (1 : Int))).ap hy)) (fun e6 =>
    Owp.some (loop_exit (slices_Equal.cok k) hmix [.dec true, .dec true] [] [] exne_ret (via (finP (And.intro (And.intro (And.intro (And.intro trivial e3) h4) h5) (congrArg not e6)) .ret [] (slices_Equal.c1q (.inl ()))) (by kernel_rfl))))) (fun e3 =>
   Owp.some (loop_exit (slices_Equal.cok k) hmix [.dec false] [] [] (exne 0) (via (finP (And.intro trivial e3) (.exit 0) [] (slices_Equal.c1q (.inr ()))) (by kernel_rfl)))))
theorem slices_Equal.way (k : Nat) (a0 : (List V24)) (a1 : (List V24)) : Owp (slices_Equal k a0 a1) fun y => ∃ answers cmds, exec PR (slices_Equal.cx k) slices_Equal.code 0 (entry (.pair T22 (.pair T22 .unit)) (a0, a1, ())).st answers (Ret (slices_Equal.cx k) Try.f51 cmds (.one (.dp T4)) y) := by
  unfold slices_Equal; exact
   Owp.bif (fun e1 =>
   Owp.some (⟨[.dec true], [], via (retP (And.intro trivial e1) (.one (.dp T4)) (false : Bool)) (by kernel_rfl)⟩)) (fun e1 =>
   Owp.bnd fun o7 e8 =>
    Owp.two (fun y9 e10 =>
    Owp.some (⟨[.dec false, .cut ⟨[], [], (slices_Equal.c1p a0 a1 (0 : Int)), 0, .ret, (slices_Equal.c1q (.inl ())), 0⟩], [], via (cutP (And.intro trivial e1) [] (slices_Equal.c1p a0 a1 (0 : Int)) (((slices_Equal.c1_ok k a0 a1 k (0 : Int)).ap (e8.trans (congrArg some e10))).triple) (retP trivial (.one (.dp T4)) (false : Bool))) (by kernel_rfl)⟩)) (fun y11 e12 =>
    Owp.some (⟨[.dec false, .cut ⟨[], [], (slices_Equal.c1p a0 a1 (0 : Int)), 0, (.exit 0), (slices_Equal.c1q (.inr ())), 0⟩], [], via (cutP (And.intro trivial e1) [] (slices_Equal.c1p a0 a1 (0 : Int)) (((slices_Equal.c1_ok k a0 a1 k (0 : Int)).ap (e8.trans (congrArg some e12))).triple) (retP trivial (.one (.dp T4)) (true : Bool))) (by kernel_rfl)⟩)))
theorem slices_Equal.ok (k : Nat) : FnOk PR 51 (slices_Equal.sp k) :=
  fn_ok (slices_Equal.cok k) hmix Try.func51 (code := slices_Equal.code) (by kernel_rfl) (by kernel_rfl) (by kernel_rfl) rfl (by kernel_rfl) (by kernel_rfl) (by kernel_rfl) (fun x => Nat.le_of_ble_eq_true (by kernel_rfl)) fun x y hy => (slices_Equal.way k x.1 x.2.1).ap hy

/-! slices.Clone[[]tourney/api.Vec,tourney/api.Vec] -/
noncomputable def slices_Clone.code : Code := Func.cd Try.f117
def slices_Clone (k : Nat) (a0 : (List V24)) : Option (List V24) :=
  req (room0 16 a0) <|
  some a0
noncomputable def slices_Clone.sp (k : Nat) : Go.Sx.Spec := ⟨(.pair T22 .unit), (.one (.dp T22)), fun x => slices_Clone k x.1, false⟩
noncomputable def slices_Clone.cx (k : Nat) : Go.Sx.Ctx := ⟨tys, [], eqs, 8, false⟩
theorem slices_Clone.cok (k : Nat) : CtxOk PR (slices_Clone.cx k) := ctx_ok tysOk eqsOk FnsOk.nil
theorem slices_Clone.way (k : Nat) (a0 : (List V24)) : Owp (slices_Clone k a0) fun y => ∃ answers cmds, exec PR (slices_Clone.cx k) slices_Clone.code 0 (entry (.pair T22 .unit) (a0, ())).st answers (Ret (slices_Clone.cx k) Try.f117 cmds (.one (.dp T22)) y) := by
  unfold slices_Clone; exact
   Owp.req fun h1 =>
   Owp.some (⟨[.fork [] [.dec true]], [.deep 2 T24], via (show (List.length a0 = 0 → (True ∧ (True ∧ AV.val T22 ([] : (List V24)) = AV.val T22 a0))) ∧ ((True ∧ room0 16 a0) ∧ (True ∧ AV.val T22 a0 = AV.val T22 a0)) from ⟨fun h0 => ⟨trivial, trivial, by rw [List.eq_nil_of_length_eq_zero h0]⟩, ⟨trivial, h1⟩, trivial, rfl⟩) (by kernel_rfl)⟩)
theorem slices_Clone.ok (k : Nat) : FnOk PR 117 (slices_Clone.sp k) :=
  fn_ok (slices_Clone.cok k) hmix Try.func117 (code := slices_Clone.code) (by kernel_rfl) (by kernel_rfl) (by kernel_rfl) rfl (by kernel_rfl) (by kernel_rfl) (by kernel_rfl) (fun x => Nat.le_of_ble_eq_true (by kernel_rfl)) fun x y hy => (slices_Clone.way k x.1).ap hy

/-! tourney/mass.cross -/
noncomputable def mass_cross.code : Code := Func.cd Try.f96
def mass_cross (k : Nat) (a0 : V24) (a1 : V24) : Option Int :=
  some (isub .i64 (imul .i64 a0.1 a1.2.1) (imul .i64 a0.2.1 a1.1))
noncomputable def mass_cross.sp (k : Nat) : Go.Sx.Spec := ⟨(.pair T24 (.pair T24 .unit)), (.one (.dp T3)), fun x => mass_cross k x.1 x.2.1, false⟩
noncomputable def mass_cross.cx (k : Nat) : Go.Sx.Ctx := ⟨tys, [], eqs, 16, false⟩
theorem mass_cross.cok (k : Nat) : CtxOk PR (mass_cross.cx k) := ctx_ok tysOk eqsOk FnsOk.nil
theorem mass_cross.way (k : Nat) (a0 : V24) (a1 : V24) : Owp (mass_cross k a0 a1) fun y => ∃ answers cmds, exec PR (mass_cross.cx k) mass_cross.code 0 (entry (.pair T24 (.pair T24 .unit)) (a0, a1, ())).st answers (Ret (mass_cross.cx k) Try.f96 cmds (.one (.dp T3)) y) := by
  unfold mass_cross; exact
   Owp.some (⟨[], [], via (retP trivial (.one (.dp T3)) ((isub .i64 (imul .i64 a0.1 a1.2.1) (imul .i64 a0.2.1 a1.1)) : Int)) (by kernel_rfl)⟩)
theorem mass_cross.ok (k : Nat) : FnOk PR 96 (mass_cross.sp k) :=
  fn_ok (mass_cross.cok k) hmix Try.func96 (code := mass_cross.code) (by kernel_rfl) (by kernel_rfl) (by kernel_rfl) rfl (by kernel_rfl) (by kernel_rfl) (by kernel_rfl) (fun x => Nat.le_of_ble_eq_true (by kernel_rfl)) fun x y hy => (mass_cross.way k x.1 x.2.1).ap hy

/-! tourney/mass.centre -/
noncomputable def mass_centre.code : Code := Func.cd Try.f95
def mass_centre.c1 (k : Nat) (a0 : (List V24)) : Nat → Int → V40 → V40 → Option ((V40 × V40))
  | 0, _, _, _ => none
  | n + 1, v1, v2, v3 =>
   bif' (ilt v1 (len a0))
   (req (inL v1 a0) <|
    req (nz (len a0)) <|
    req (inL (irem (iadd .i64 v1 1) (len a0)) a0) <|
    bnd (mass_cross k (el Z24 a0 v1) (el Z24 a0 (irem (iadd .i64 v1 1) (len a0)))) fun y8 =>
    bnd (poly_Times k (iadd .i64 (el Z24 a0 v1).1 (el Z24 a0 (irem (iadd .i64 v1 1) (len a0))).1) y8) fun y10 =>
    bnd (poly_Wide_Plus k v2 y10) fun y12 =>
    bnd (poly_Times k (iadd .i64 (el Z24 a0 v1).2.1 (el Z24 a0 (irem (iadd .i64 v1 1) (len a0))).2.1) y8) fun y14 =>
    bnd (poly_Wide_Plus k v3 y14) fun y16 =>
    mass_centre.c1 k a0 n (iadd .i64 v1 1) y12 y16)
   (some (v2, v3))
def mass_centre (k : Nat) (a0 : (List V24)) (a1 : Int) : Option V24 :=
  bnd (mass_centre.c1 k a0 k 0 (0, 0, ()) (0, 0, ())) fun o18 =>
  bnd (poly_Wide_Over k o18.1 (imul .i64 3 a1)) fun y20 =>
  bnd (poly_Wide_Over k o18.2 (imul .i64 3 a1)) fun y22 =>
  some (y20.1, y22.1, ())
noncomputable def mass_centre.sp (k : Nat) : Go.Sx.Spec := ⟨(.pair T22 (.pair T3 .unit)), (.one (.dp T24)), fun x => mass_centre k x.1 x.2.1, false⟩
noncomputable def mass_centre.cx (k : Nat) : Go.Sx.Ctx := ⟨tys, [(96, mass_cross.sp k), (31, poly_Times.sp k), (32, poly_Wide_Plus.sp k), (34, poly_Wide_Over.sp k)], eqs, 69, false⟩
theorem mass_centre.cok (k : Nat) : CtxOk PR (mass_centre.cx k) := ctx_ok tysOk eqsOk (FnsOk.cons (mass_cross.ok k) (FnsOk.cons (poly_Times.ok k) (FnsOk.cons (poly_Wide_Plus.ok k) (FnsOk.cons (poly_Wide_Over.ok k) FnsOk.nil))))
noncomputable def mass_centre.c1p (a0 : (List V24)) (a1 : Int) (v1 : Int) (v2 : V40) (v3 : V40) : SL := ⟨[(0, (.val T22 a0)), (1, (.val T3 a1)), (4, (.val .ptr ⟨0, 0, (0 : Int), 0, 0⟩)), (5, (.val .ptr ⟨1, 0, (0 : Int), 0, 0⟩)), (6, (.val .ptr ⟨2, 0, (0 : Int), 0, 0⟩)), (15, (.val T22 a0)), (16, (.val T3 (len a0))), (17, (.val T3 v1))], [(0, .cells T24 ((0 : Int), (0 : Int), ())), (1, .cells T40 v2), (2, .cells T40 v3)]⟩
noncomputable def mass_centre.c1q (a1 : Int) (o : (V40 × V40)) : SL := (fun v => ⟨[(1, (.val T3 a1)), (4, (.val .ptr ⟨0, 0, (0 : Int), 0, 0⟩)), (5, (.val .ptr ⟨1, 0, (0 : Int), 0, 0⟩)), (6, (.val .ptr ⟨2, 0, (0 : Int), 0, 0⟩))], [(0, .cells T24 ((0 : Int), (0 : Int), ())), (1, .cells T40 v.1), (2, .cells T40 v.2)]⟩) o
noncomputable def mass_centre.c1x (o : (V40 × V40)) : Ex := (fun _ => (.exit 0)) o
noncomputable def mass_centre.c1n (o : (V40 × V40)) : Nat := (fun _ => 3) o
theorem mass_centre.c1_ok (k : Nat) (a0 : (List V24)) (a1 : Int) : ∀ (n : Nat) (v1 : Int) (v2 : V40) (v3 : V40), Owp (mass_centre.c1 k a0 n v1 v2 v3) fun o => LTriple PR (mass_centre.cx k) (sub mass_centre.code [1, 1, 0, 1, 0, 0]) 3 (mass_centre.c1p a0 a1 v1 v2 v3) (mass_centre.c1x o) (mass_centre.c1n o) (mass_centre.c1q a1 o)
  | 0, _, _, _ => fun _ h => nomatch h
  | n + 1, v1, v2, v3 => Owp.of (mass_centre.c1.eq_2 ..) (
   Owp.bif (fun e4 =>
   Owp.req fun h5 =>
    Owp.req fun h6 =>
    Owp.req fun h7 =>
    Owp.bnd fun y8 e9 =>
    Owp.bnd fun y10 e11 =>
    Owp.bnd fun y12 e13 =>
    Owp.bnd fun y14 e15 =>
    Owp.bnd fun y16 e17 =>
    fun y hy => loop_back (mass_centre.cok k) hmix 3 (mass_centre.c1p a0 a1 (iadd .i64 v1 (1 : Int)) y12 y16) [.dec true, .res (.one (.dp T3)) y8, .res (.one (.dp T40)) y10, .res (.one (.dp T40)) y12, .res (.one (.dp T40)) y14, .res (.one (.dp T40)) y16] [] [(0, 0), (1, 1), (2, 2)] (via (finP (And.intro (And.intro (And.intro (And.intro (And.intro (And.intro (And.intro (And.intro (And.intro trivial e4) h5) h6) h7) e9) e11) e13) e15) e17) .normal [(0, 0), (1, 1), (2, 2)] (mass_centre.c1p a0 a1 (iadd .i64 v1 (1 : Int)) y12 y16)) (by kernel_rfl)) ((mass_centre.c1_ok k a0 a1 n (iadd .i64 v1 (1 : Int)) y12 y16).ap hy)) (fun e4 =>
   Owp.some (loop_exit (mass_centre.cok k) hmix [.dec false] [] [(0, 0), (1, 1), (2, 2)] (exne 0) (via (finP (And.intro trivial e4) (.exit 0) [(0, 0), (1, 1), (2, 2)] (mass_centre.c1q a1 (v2, v3))) (by kernel_rfl)))))
theorem mass_centre.way (k : Nat) (a0 : (List V24)) (a1 : Int) : Owp (mass_centre k a0 a1) fun y => ∃ answers cmds, exec PR (mass_centre.cx k) mass_centre.code 0 (entry (.pair T22 (.pair T3 .unit)) (a0, a1, ())).st answers (Ret (mass_centre.cx k) Try.f95 cmds (.one (.dp T24)) y) := by
  unfold mass_centre; exact
   Owp.bnd fun o18 e19 =>
   Owp.bnd fun y20 e21 =>
   Owp.bnd fun y22 e23 =>
   Owp.some (⟨[.cut ⟨[], [(0, 0), (1, 1), (2, 2)], (mass_centre.c1p a0 a1 (0 : Int) ((0 : Int), (0 : Int), ()) ((0 : Int), (0 : Int), ())), 3, (.exit 0), (mass_centre.c1q a1 o18), 3⟩, .res (.more (.dp T3) (.one (.dp T3))) y20, .res (.more (.dp T3) (.one (.dp T3))) y22], [], via (cutP trivial [(0, 0), (1, 1), (2, 2)] (mass_centre.c1p a0 a1 (0 : Int) ((0 : Int), (0 : Int), ()) ((0 : Int), (0 : Int), ())) (((mass_centre.c1_ok k a0 a1 k (0 : Int) ((0 : Int), (0 : Int), ()) ((0 : Int), (0 : Int), ())).ap e19).triple) (retP (And.intro (And.intro trivial e21) e23) (.one (.dp T24)) ((y20.1, y22.1, ()) : V24))) (by kernel_rfl)⟩)
theorem mass_centre.ok (k : Nat) : FnOk PR 95 (mass_centre.sp k) :=
  fn_ok (mass_centre.cok k) hmix Try.func95 (code := mass_centre.code) (by kernel_rfl) (by kernel_rfl) (by kernel_rfl) rfl (by kernel_rfl) (by kernel_rfl) (by kernel_rfl) (fun x => Nat.le_of_ble_eq_true (by kernel_rfl)) fun x y hy => (mass_centre.way k x.1 x.2.1).ap hy

/-! tourney/mass.times -/
noncomputable def mass_times.code : Code := Func.cd Try.f97
def mass_times (k : Nat) (a0 : Int) (a1 : Int) (a2 : Int) : Option Int :=
  bnd (poly_Times k a0 a1) fun y1 =>
  bnd (poly_Wide_Over k y1 a2) fun y3 =>
  some y3.1
noncomputable def mass_times.sp (k : Nat) : Go.Sx.Spec := ⟨(.pair T3 T24), (.one (.dp T3)), fun x => mass_times k x.1 x.2.1 x.2.2.1, false⟩
noncomputable def mass_times.cx (k : Nat) : Go.Sx.Ctx := ⟨tys, [(31, poly_Times.sp k), (34, poly_Wide_Over.sp k)], eqs, 18, false⟩
theorem mass_times.cok (k : Nat) : CtxOk PR (mass_times.cx k) := ctx_ok tysOk eqsOk (FnsOk.cons (poly_Times.ok k) (FnsOk.cons (poly_Wide_Over.ok k) FnsOk.nil))
theorem mass_times.way (k : Nat) (a0 : Int) (a1 : Int) (a2 : Int) : Owp (mass_times k a0 a1 a2) fun y => ∃ answers cmds, exec PR (mass_times.cx k) mass_times.code 0 (entry (.pair T3 T24) (a0, a1, a2, ())).st answers (Ret (mass_times.cx k) Try.f97 cmds (.one (.dp T3)) y) := by
  unfold mass_times; exact
   Owp.bnd fun y1 e2 =>
   Owp.bnd fun y3 e4 =>
   Owp.some (⟨[.res (.one (.dp T40)) y1, .res (.more (.dp T3) (.one (.dp T3))) y3], [], via (retP (And.intro (And.intro trivial e2) e4) (.one (.dp T3)) (y3.1 : Int)) (by kernel_rfl)⟩)
theorem mass_times.ok (k : Nat) : FnOk PR 97 (mass_times.sp k) :=
  fn_ok (mass_times.cok k) hmix Try.func97 (code := mass_times.code) (by kernel_rfl) (by kernel_rfl) (by kernel_rfl) rfl (by kernel_rfl) (by kernel_rfl) (by kernel_rfl) (fun x => Nat.le_of_ble_eq_true (by kernel_rfl)) fun x y hy => (mass_times.way k x.1 x.2.1 x.2.2.1).ap hy

/-! tourney/mass.Of -/
noncomputable def mass_Of.code : Code := Func.cd Try.f55
def mass_Of.c1 (k : Nat) (a0 : (List V24)) : Nat → Int → Option (Unit ⊕ Unit)
  | 0, _ => none
  | n + 1, v4 =>
   bif' (ilt v4 (len a0))
   (req (inL v4 a0) <|
    bif' (igt (imax (imax (imax (el Z24 a0 v4).1 (ineg .i64 (el Z24 a0 v4).1)) (el Z24 a0 v4).2.1) (ineg .i64 (el Z24 a0 v4).2.1)) 2097152)
    (some (.inl ()))
    (mass_Of.c1 k a0 n (iadd .i64 v4 1)))
   (some (.inr ()))
def mass_Of.c2 (k : Nat) (a1 : Int) : Option (Bool) :=
  bif' (ilt a1 1)
  (some true)
  (some (igt a1 1048576))
def mass_Of.c3 (k : Nat) (a0 : (List V24)) (y18 : V24) : Nat → Int → V40 → Option (V40)
  | 0, _, _ => none
  | n + 1, v20, v21 =>
   bif' (ilt v20 (len a0))
   (req (inL v20 a0) <|
    req (nz (len a0)) <|
    req (inL (irem (iadd .i64 v20 1) (len a0)) a0) <|
    bnd (mass_cross k ((isub .i64 (el Z24 a0 v20).1 y18.1), (isub .i64 (el Z24 a0 v20).2.1 y18.2.1), ()) ((isub .i64 (el Z24 a0 (irem (iadd .i64 v20 1) (len a0))).1 y18.1), (isub .i64 (el Z24 a0 (irem (iadd .i64 v20 1) (len a0))).2.1 y18.2.1), ())) fun y26 =>
    bnd (poly_Times k y26 (iadd .i64 (iadd .i64 (iadd .i64 (iadd .i64 (iadd .i64 (imul .i64 (isub .i64 (el Z24 a0 v20).1 y18.1) (isub .i64 (el Z24 a0 v20).1 y18.1)) (imul .i64 (isub .i64 (el Z24 a0 v20).1 y18.1) (isub .i64 (el Z24 a0 (irem (iadd .i64 v20 1) (len a0))).1 y18.1))) (imul .i64 (isub .i64 (el Z24 a0 (irem (iadd .i64 v20 1) (len a0))).1 y18.1) (isub .i64 (el Z24 a0 (irem (iadd .i64 v20 1) (len a0))).1 y18.1))) (imul .i64 (isub .i64 (el Z24 a0 v20).2.1 y18.2.1) (isub .i64 (el Z24 a0 v20).2.1 y18.2.1))) (imul .i64 (isub .i64 (el Z24 a0 v20).2.1 y18.2.1) (isub .i64 (el Z24 a0 (irem (iadd .i64 v20 1) (len a0))).2.1 y18.2.1))) (imul .i64 (isub .i64 (el Z24 a0 (irem (iadd .i64 v20 1) (len a0))).2.1 y18.2.1) (isub .i64 (el Z24 a0 (irem (iadd .i64 v20 1) (len a0))).2.1 y18.2.1)))) fun y28 =>
    bnd (poly_Wide_Plus k v21 y28) fun y30 =>
    mass_Of.c3 k a0 y18 n (iadd .i64 v20 1) y30)
   (some v21)
def mass_Of.c4 (k : Nat) (y36 : Int) (y38 : Int) : Option (Bool) :=
  bif' (ieq y36 0)
  (some true)
  (some (ieq y38 0))
def mass_Of.c5 (k : Nat) (y36 : Int) (y38 : Int) : Option (Bool) :=
  bif' (igt y36 1099511627776)
  (some true)
  (some (igt y38 1099511627776))
def mass_Of (k : Nat) (a0 : (List V24)) (a1 : Int) : Option (Int × (Int × (V24 × Int))) :=
  bnd (poly_Area k a0) fun y1 =>
  bif' (ine y1.2 0)
  (some (0, 0, (0, 0, ()), y1.2))
  (bnd (mass_Of.c1 k a0 k 0) fun o8 =>
   two o8 (fun y10 =>
   some (0, 0, (0, 0, ()), 1)) (fun y12 =>
   bnd (mass_Of.c2 k a1) fun o15 =>
    bif' o15
    (some (0, 0, (0, 0, ()), 1))
    (bnd (mass_centre k a0 y1.1) fun y18 =>
     bnd (mass_Of.c3 k a0 y18 k 0 (0, 0, ())) fun o32 =>
     bnd (poly_Wide_Over k o32 51539607552) fun y34 =>
     bnd (mass_times k y1.1 a1 8589934592) fun y36 =>
     bnd (mass_times k y34.1 a1 4294967296) fun y38 =>
     bnd (mass_Of.c4 k y36 y38) fun o41 =>
     bif' o41
     (some (0, 0, (0, 0, ()), 17))
     (bnd (mass_Of.c5 k y36 y38) fun o45 =>
      bif' o45
      (some (0, 0, (0, 0, ()), 2))
      (some (y36, y38, y18, 0))))))
noncomputable def mass_Of.sp (k : Nat) : Go.Sx.Spec := ⟨(.pair T22 (.pair T3 .unit)), (.more (.dp T3) (.more (.dp T3) (.more (.dp T24) (.one (.dp T3))))), fun x => mass_Of k x.1 x.2.1, false⟩
noncomputable def mass_Of.cx (k : Nat) : Go.Sx.Ctx := ⟨tys, [(17, poly_Area.sp k), (95, mass_centre.sp k), (96, mass_cross.sp k), (31, poly_Times.sp k), (32, poly_Wide_Plus.sp k), (34, poly_Wide_Over.sp k), (97, mass_times.sp k)], eqs, 173, false⟩
theorem mass_Of.cok (k : Nat) : CtxOk PR (mass_Of.cx k) := ctx_ok tysOk eqsOk (FnsOk.cons (poly_Area.ok k) (FnsOk.cons (mass_centre.ok k) (FnsOk.cons (mass_cross.ok k) (FnsOk.cons (poly_Times.ok k) (FnsOk.cons (poly_Wide_Plus.ok k) (FnsOk.cons (poly_Wide_Over.ok k) (FnsOk.cons (mass_times.ok k) FnsOk.nil)))))))
noncomputable def mass_Of.c1p (a0 : (List V24)) (a1 : Int) (y1 : (Int × Int)) (v4 : Int) : SL := ⟨[(0, (.val T22 a0)), (1, (.val T3 a1)), (6, (.val .ptr ⟨0, 0, (0 : Int), 0, 0⟩)), (8, (.val T3 y1.1)), (31, (.val T22 a0)), (32, (.val T3 (len a0))), (33, (.val T3 v4))], [(0, .cells T24 ((0 : Int), (0 : Int), ()))]⟩
noncomputable def mass_Of.c1q (a0 : (List V24)) (a1 : Int) (y1 : (Int × Int)) (o : Unit ⊕ Unit) : SL := (fun o => two o (fun v => ⟨[(4, (.val T3 (0 : Int))), (5, (.val T3 (0 : Int))), (6, (.val .ptr ⟨0, 0, (0 : Int), 0, 0⟩)), (7, (.val T3 (1 : Int)))], [(0, .cells T24 ((0 : Int), (0 : Int), ()))]⟩) (fun v => ⟨[(0, (.val T22 a0)), (1, (.val T3 a1)), (6, (.val .ptr ⟨0, 0, (0 : Int), 0, 0⟩)), (8, (.val T3 y1.1))], [(0, .cells T24 ((0 : Int), (0 : Int), ()))]⟩)) o
noncomputable def mass_Of.c1x (o : Unit ⊕ Unit) : Ex := (fun o => two o (fun _ => .ret) (fun _ => (.exit 0))) o
noncomputable def mass_Of.c1n (o : Unit ⊕ Unit) : Nat := (fun o => two o (fun _ => 1) (fun _ => 1)) o
theorem mass_Of.c1_ok (k : Nat) (a0 : (List V24)) (a1 : Int) (y1 : (Int × Int)) : ∀ (n : Nat) (v4 : Int), Owp (mass_Of.c1 k a0 n v4) fun o => LTriple PR (mass_Of.cx k) (sub mass_Of.code [1, 1, 1, 0, 1, 0, 0]) 1 (mass_Of.c1p a0 a1 y1 v4) (mass_Of.c1x o) (mass_Of.c1n o) (mass_Of.c1q a0 a1 y1 o)
  | 0, _ => fun _ h => nomatch h
  | n + 1, v4 => Owp.of (mass_Of.c1.eq_2 ..) (
   Owp.bif (fun e5 =>
   Owp.req fun h6 =>
    Owp.bif (fun e7 =>
    Owp.some (loop_exit (mass_Of.cok k) hmix [.dec true, .dec true] [] [(0, 0)] exne_ret (via (finP (And.intro (And.intro (And.intro trivial e5) h6) e7) .ret [(0, 0)] (mass_Of.c1q a0 a1 y1 (.inl ()))) (by kernel_rfl)))) (fun e7 =>
    fun y hy => loop_back (mass_Of.cok k) hmix 1 (mass_Of.c1p a0 a1 y1 (iadd .i64 v4 (1 : Int))) [.dec true, .dec false] [] [(0, 0)] (via (finP (And.intro (And.intro (And.intro trivial e5) h6) e7) .normal [(0, 0)] (mass_Of.c1p a0 a1 y1 (iadd .i64 v4 (1 : Int)))) (by kernel_rfl)) ((mass_Of.c1_ok k a0 a1 y1 n (iadd .i64 v4 (1 : Int))).ap hy))) (fun e5 =>
   Owp.some (loop_exit (mass_Of.cok k) hmix [.dec false] [] [(0, 0)] (exne 0) (via (finP (And.intro trivial e5) (.exit 0) [(0, 0)] (mass_Of.c1q a0 a1 y1 (.inr ()))) (by kernel_rfl)))))
noncomputable def mass_Of.c2p (a0 : (List V24)) (a1 : Int) (y1 : (Int × Int)) : SL := ⟨[(0, (.val T22 a0)), (1, (.val T3 a1)), (6, (.val .ptr ⟨0, 0, (0 : Int), 0, 0⟩)), (8, (.val T3 y1.1))], [(0, .cells T24 ((0 : Int), (0 : Int), ()))]⟩
noncomputable def mass_Of.c2q (a0 : (List V24)) (a1 : Int) (y1 : (Int × Int)) (o : Bool) : SL := (fun v => ⟨[(0, (.val T22 a0)), (1, (.val T3 a1)), (6, (.val .ptr ⟨0, 0, (0 : Int), 0, 0⟩)), (8, (.val T3 y1.1)), (56, (.val T4 v))], [(0, .cells T24 ((0 : Int), (0 : Int), ()))]⟩) o
noncomputable def mass_Of.c2x (o : Bool) : Ex := (fun _ => .normal) o
noncomputable def mass_Of.c2n (o : Bool) : Nat := (fun _ => 1) o
theorem mass_Of.c2_ok (k : Nat) (a0 : (List V24)) (a1 : Int) (y1 : (Int × Int)) : Owp (mass_Of.c2 k a1) fun o => Triple PR (mass_Of.cx k) (sub mass_Of.code [1, 1, 1, 1, 0, 0]) 1 (mass_Of.c2p a0 a1 y1) (mass_Of.c2x o) (mass_Of.c2n o) (mass_Of.c2q a0 a1 y1 o) := by
  unfold mass_Of.c2; exact
   Owp.bif (fun e14 =>
   Owp.some (triple_way (mass_Of.cok k) hmix [.dec true, .dec true, .dec true] [] [(0, 0)] (via (finP (And.intro (And.intro (And.intro trivial e14) e14) e14) .normal [(0, 0)] (mass_Of.c2q a0 a1 y1 true)) (by kernel_rfl)))) (fun e14 =>
   Owp.some (triple_way (mass_Of.cok k) hmix [.dec false, .dec false, .dec false] [] [(0, 0)] (via (finP (And.intro (And.intro (And.intro trivial e14) e14) e14) .normal [(0, 0)] (mass_Of.c2q a0 a1 y1 (igt a1 (1048576 : Int)))) (by kernel_rfl))))
noncomputable def mass_Of.c3p (a0 : (List V24)) (a1 : Int) (y1 : (Int × Int)) (y18 : V24) (v20 : Int) (v21 : V40) : SL := ⟨[(0, (.val T22 a0)), (1, (.val T3 a1)), (6, (.val .ptr ⟨0, 0, (0 : Int), 0, 0⟩)), (8, (.val T3 y1.1)), (12, (.val .ptr ⟨1, 0, (0 : Int), 0, 0⟩)), (13, (.val .ptr ⟨2, 0, (0 : Int), 0, 0⟩)), (62, (.val T3 (len a0))), (63, (.val T3 v20))], [(0, .cells T24 ((0 : Int), (0 : Int), ())), (1, .cells T24 y18), (2, .cells T40 v21)]⟩
noncomputable def mass_Of.c3q (a1 : Int) (y1 : (Int × Int)) (y18 : V24) (o : V40) : SL := (fun v => ⟨[(1, (.val T3 a1)), (6, (.val .ptr ⟨0, 0, (0 : Int), 0, 0⟩)), (8, (.val T3 y1.1)), (12, (.val .ptr ⟨1, 0, (0 : Int), 0, 0⟩)), (13, (.val .ptr ⟨2, 0, (0 : Int), 0, 0⟩))], [(0, .cells T24 ((0 : Int), (0 : Int), ())), (1, .cells T24 y18), (2, .cells T40 v)]⟩) o
noncomputable def mass_Of.c3x (o : V40) : Ex := (fun _ => (.exit 2)) o
noncomputable def mass_Of.c3n (o : V40) : Nat := (fun _ => 3) o
theorem mass_Of.c3_ok (k : Nat) (a0 : (List V24)) (a1 : Int) (y1 : (Int × Int)) (y18 : V24) : ∀ (n : Nat) (v20 : Int) (v21 : V40), Owp (mass_Of.c3 k a0 y18 n v20 v21) fun o => LTriple PR (mass_Of.cx k) (sub mass_Of.code [1, 1, 1, 1, 1, 1, 1, 0, 1, 0, 0]) 3 (mass_Of.c3p a0 a1 y1 y18 v20 v21) (mass_Of.c3x o) (mass_Of.c3n o) (mass_Of.c3q a1 y1 y18 o)
  | 0, _, _ => fun _ h => nomatch h
  | n + 1, v20, v21 => Owp.of (mass_Of.c3.eq_2 ..) (
   Owp.bif (fun e22 =>
   Owp.req fun h23 =>
    Owp.req fun h24 =>
    Owp.req fun h25 =>
    Owp.bnd fun y26 e27 =>
    Owp.bnd fun y28 e29 =>
    Owp.bnd fun y30 e31 =>
    fun y hy => loop_back (mass_Of.cok k) hmix 3 (mass_Of.c3p a0 a1 y1 y18 (iadd .i64 v20 (1 : Int)) y30) [.dec true, .res (.one (.dp T3)) y26, .res (.one (.dp T40)) y28, .res (.one (.dp T40)) y30] [] [(0, 0), (1, 1), (2, 2)] (via (finP (And.intro (And.intro (And.intro (And.intro (And.intro (And.intro (And.intro trivial e22) h23) h24) h25) e27) e29) e31) .normal [(0, 0), (1, 1), (2, 2)] (mass_Of.c3p a0 a1 y1 y18 (iadd .i64 v20 (1 : Int)) y30)) (by kernel_rfl)) ((mass_Of.c3_ok k a0 a1 y1 y18 n (iadd .i64 v20 (1 : Int)) y30).ap hy)) (fun e22 =>
   Owp.some (loop_exit (mass_Of.cok k) hmix [.dec false] [] [(0, 0), (1, 1), (2, 2)] (exne 2) (via (finP (And.intro trivial e22) (.exit 2) [(0, 0), (1, 1), (2, 2)] (mass_Of.c3q a1 y1 y18 v21)) (by kernel_rfl)))))
noncomputable def mass_Of.c4p (y18 : V24) (y36 : Int) (y38 : Int) : SL := ⟨[(6, (.val .ptr ⟨0, 0, (0 : Int), 0, 0⟩)), (12, (.val .ptr ⟨1, 0, (0 : Int), 0, 0⟩)), (20, (.val T3 y36)), (21, (.val T3 y38))], [(0, .cells T24 ((0 : Int), (0 : Int), ())), (1, .cells T24 y18)]⟩
noncomputable def mass_Of.c4q (y18 : V24) (y36 : Int) (y38 : Int) (o : Bool) : SL := (fun v => ⟨[(6, (.val .ptr ⟨0, 0, (0 : Int), 0, 0⟩)), (12, (.val .ptr ⟨1, 0, (0 : Int), 0, 0⟩)), (20, (.val T3 y36)), (21, (.val T3 y38)), (154, (.val T4 v))], [(0, .cells T24 ((0 : Int), (0 : Int), ())), (1, .cells T24 y18)]⟩) o
noncomputable def mass_Of.c4x (o : Bool) : Ex := (fun _ => .normal) o
noncomputable def mass_Of.c4n (o : Bool) : Nat := (fun _ => 2) o
theorem mass_Of.c4_ok (k : Nat) (y18 : V24) (y36 : Int) (y38 : Int) : Owp (mass_Of.c4 k y36 y38) fun o => Triple PR (mass_Of.cx k) (sub mass_Of.code [1, 1, 1, 1, 1, 1, 1, 1, 1, 1, 0, 0, 0]) 2 (mass_Of.c4p y18 y36 y38) (mass_Of.c4x o) (mass_Of.c4n o) (mass_Of.c4q y18 y36 y38 o) := by
  unfold mass_Of.c4; exact
   Owp.bif (fun e40 =>
   Owp.some (triple_way (mass_Of.cok k) hmix [.dec true, .dec true, .dec true] [] [(0, 0), (1, 1)] (via (finP (And.intro (And.intro (And.intro trivial e40) e40) e40) .normal [(0, 0), (1, 1)] (mass_Of.c4q y18 y36 y38 true)) (by kernel_rfl)))) (fun e40 =>
   Owp.some (triple_way (mass_Of.cok k) hmix [.dec false, .dec false, .dec false] [] [(0, 0), (1, 1)] (via (finP (And.intro (And.intro (And.intro trivial e40) e40) e40) .normal [(0, 0), (1, 1)] (mass_Of.c4q y18 y36 y38 (ieq y38 (0 : Int)))) (by kernel_rfl))))
noncomputable def mass_Of.c5p (y18 : V24) (y36 : Int) (y38 : Int) : SL := ⟨[(6, (.val .ptr ⟨0, 0, (0 : Int), 0, 0⟩)), (12, (.val .ptr ⟨1, 0, (0 : Int), 0, 0⟩)), (20, (.val T3 y36)), (21, (.val T3 y38))], [(0, .cells T24 ((0 : Int), (0 : Int), ())), (1, .cells T24 y18)]⟩
noncomputable def mass_Of.c5q (y18 : V24) (y36 : Int) (y38 : Int) (o : Bool) : SL := (fun v => ⟨[(6, (.val .ptr ⟨0, 0, (0 : Int), 0, 0⟩)), (12, (.val .ptr ⟨1, 0, (0 : Int), 0, 0⟩)), (20, (.val T3 y36)), (21, (.val T3 y38)), (162, (.val T4 v))], [(0, .cells T24 ((0 : Int), (0 : Int), ())), (1, .cells T24 y18)]⟩) o
noncomputable def mass_Of.c5x (o : Bool) : Ex := (fun _ => .normal) o
noncomputable def mass_Of.c5n (o : Bool) : Nat := (fun _ => 2) o
theorem mass_Of.c5_ok (k : Nat) (y18 : V24) (y36 : Int) (y38 : Int) : Owp (mass_Of.c5 k y36 y38) fun o => Triple PR (mass_Of.cx k) (sub mass_Of.code [1, 1, 1, 1, 1, 1, 1, 1, 1, 1, 0, 0, 1, 1, 0]) 2 (mass_Of.c5p y18 y36 y38) (mass_Of.c5x o) (mass_Of.c5n o) (mass_Of.c5q y18 y36 y38 o) := by
  unfold mass_Of.c5; exact
   Owp.bif (fun e44 =>
   Owp.some (triple_way (mass_Of.cok k) hmix [.dec true, .dec true, .dec true] [] [(0, 0), (1, 1)] (via (finP (And.intro (And.intro (And.intro trivial e44) e44) e44) .normal [(0, 0), (1, 1)] (mass_Of.c5q y18 y36 y38 true)) (by kernel_rfl)))) (fun e44 =>
   Owp.some (triple_way (mass_Of.cok k) hmix [.dec false, .dec false, .dec false] [] [(0, 0), (1, 1)] (via (finP (And.intro (And.intro (And.intro trivial e44) e44) e44) .normal [(0, 0), (1, 1)] (mass_Of.c5q y18 y36 y38 (igt y38 (1099511627776 : Int)))) (by kernel_rfl))))
theorem mass_Of.way (k : Nat) (a0 : (List V24)) (a1 : Int) : Owp (mass_Of k a0 a1) fun y => ∃ answers cmds, exec PR (mass_Of.cx k) mass_Of.code 0 (entry (.pair T22 (.pair T3 .unit)) (a0, a1, ())).st answers (Ret (mass_Of.cx k) Try.f55 cmds (.more (.dp T3) (.more (.dp T3) (.more (.dp T24) (.one (.dp T3))))) y) := by
  unfold mass_Of; exact
   Owp.bnd fun y1 e2 =>
   Owp.bif (fun e3 =>
   Owp.some (⟨[.res (.more (.dp T3) (.one (.dp T3))) y1, .dec true], [], via (retP (And.intro (And.intro trivial e2) e3) (.more (.dp T3) (.more (.dp T3) (.more (.dp T24) (.one (.dp T3))))) (((0 : Int), (0 : Int), ((0 : Int), (0 : Int), ()), y1.2) : (Int × (Int × (V24 × Int))))) (by kernel_rfl)⟩)) (fun e3 =>
   Owp.bnd fun o8 e9 =>
    Owp.two (fun y10 e11 =>
    Owp.some (⟨[.res (.more (.dp T3) (.one (.dp T3))) y1, .dec false, .cut ⟨[], [(0, 2)], (mass_Of.c1p a0 a1 y1 (0 : Int)), 1, .ret, (mass_Of.c1q a0 a1 y1 (.inl ())), 1⟩], [], via (cutP (And.intro (And.intro trivial e2) e3) [(0, 2)] (mass_Of.c1p a0 a1 y1 (0 : Int)) (((mass_Of.c1_ok k a0 a1 y1 k (0 : Int)).ap (e9.trans (congrArg some e11))).triple) (retP trivial (.more (.dp T3) (.more (.dp T3) (.more (.dp T24) (.one (.dp T3))))) (((0 : Int), (0 : Int), ((0 : Int), (0 : Int), ()), (1 : Int)) : (Int × (Int × (V24 × Int)))))) (by kernel_rfl)⟩)) (fun y12 e13 =>
    Owp.bnd fun o15 e16 =>
     Owp.bif (fun e17 =>
     Owp.some (⟨[.res (.more (.dp T3) (.one (.dp T3))) y1, .dec false, .cut ⟨[], [(0, 2)], (mass_Of.c1p a0 a1 y1 (0 : Int)), 1, (.exit 0), (mass_Of.c1q a0 a1 y1 (.inr ())), 1⟩, .cutR 10 ⟨[], [(0, 0)], (mass_Of.c2p a0 a1 y1), 1, .normal, (mass_Of.c2q a0 a1 y1 o15), 1⟩, .dec true], [], via (cutP (And.intro (And.intro trivial e2) e3) [(0, 2)] (mass_Of.c1p a0 a1 y1 (0 : Int)) (((mass_Of.c1_ok k a0 a1 y1 k (0 : Int)).ap (e9.trans (congrArg some e13))).triple) (cutP trivial [(0, 0)] (mass_Of.c2p a0 a1 y1) (((mass_Of.c2_ok k a0 a1 y1).ap e16)) (retP (And.intro trivial e17) (.more (.dp T3) (.more (.dp T3) (.more (.dp T24) (.one (.dp T3))))) (((0 : Int), (0 : Int), ((0 : Int), (0 : Int), ()), (1 : Int)) : (Int × (Int × (V24 × Int))))))) (by kernel_rfl)⟩)) (fun e17 =>
     Owp.bnd fun y18 e19 =>
      Owp.bnd fun o32 e33 =>
      Owp.bnd fun y34 e35 =>
      Owp.bnd fun y36 e37 =>
      Owp.bnd fun y38 e39 =>
      Owp.bnd fun o41 e42 =>
      Owp.bif (fun e43 =>
      Owp.some (⟨[.res (.more (.dp T3) (.one (.dp T3))) y1, .dec false, .cut ⟨[], [(0, 2)], (mass_Of.c1p a0 a1 y1 (0 : Int)), 1, (.exit 0), (mass_Of.c1q a0 a1 y1 (.inr ())), 1⟩, .cutR 10 ⟨[], [(0, 0)], (mass_Of.c2p a0 a1 y1), 1, .normal, (mass_Of.c2q a0 a1 y1 o15), 1⟩, .dec false, .res (.one (.dp T24)) y18, .cut ⟨[], [(0, 0), (1, 4), (2, 6)], (mass_Of.c3p a0 a1 y1 y18 (0 : Int) ((0 : Int), (0 : Int), ())), 3, (.exit 2), (mass_Of.c3q a1 y1 y18 o32), 3⟩, .res (.more (.dp T3) (.one (.dp T3))) y34, .res (.one (.dp T3)) y36, .res (.one (.dp T3)) y38, .cutR 24 ⟨[], [(0, 0), (1, 1)], (mass_Of.c4p y18 y36 y38), 2, .normal, (mass_Of.c4q y18 y36 y38 o41), 2⟩, .dec true], [], via (cutP (And.intro (And.intro trivial e2) e3) [(0, 2)] (mass_Of.c1p a0 a1 y1 (0 : Int)) (((mass_Of.c1_ok k a0 a1 y1 k (0 : Int)).ap (e9.trans (congrArg some e13))).triple) (cutP trivial [(0, 0)] (mass_Of.c2p a0 a1 y1) (((mass_Of.c2_ok k a0 a1 y1).ap e16)) (cutP (And.intro (And.intro trivial e17) e19) [(0, 0), (1, 4), (2, 6)] (mass_Of.c3p a0 a1 y1 y18 (0 : Int) ((0 : Int), (0 : Int), ())) (((mass_Of.c3_ok k a0 a1 y1 y18 k (0 : Int) ((0 : Int), (0 : Int), ())).ap e33).triple) (cutP (And.intro (And.intro (And.intro trivial e35) e37) e39) [(0, 0), (1, 1)] (mass_Of.c4p y18 y36 y38) (((mass_Of.c4_ok k y18 y36 y38).ap e42)) (retP (And.intro trivial e43) (.more (.dp T3) (.more (.dp T3) (.more (.dp T24) (.one (.dp T3))))) (((0 : Int), (0 : Int), ((0 : Int), (0 : Int), ()), (17 : Int)) : (Int × (Int × (V24 × Int))))))))) (by kernel_rfl)⟩)) (fun e43 =>
      Owp.bnd fun o45 e46 =>
       Owp.bif (fun e47 =>
       Owp.some (⟨[.res (.more (.dp T3) (.one (.dp T3))) y1, .dec false, .cut ⟨[], [(0, 2)], (mass_Of.c1p a0 a1 y1 (0 : Int)), 1, (.exit 0), (mass_Of.c1q a0 a1 y1 (.inr ())), 1⟩, .cutR 10 ⟨[], [(0, 0)], (mass_Of.c2p a0 a1 y1), 1, .normal, (mass_Of.c2q a0 a1 y1 o15), 1⟩, .dec false, .res (.one (.dp T24)) y18, .cut ⟨[], [(0, 0), (1, 4), (2, 6)], (mass_Of.c3p a0 a1 y1 y18 (0 : Int) ((0 : Int), (0 : Int), ())), 3, (.exit 2), (mass_Of.c3q a1 y1 y18 o32), 3⟩, .res (.more (.dp T3) (.one (.dp T3))) y34, .res (.one (.dp T3)) y36, .res (.one (.dp T3)) y38, .cutR 24 ⟨[], [(0, 0), (1, 1)], (mass_Of.c4p y18 y36 y38), 2, .normal, (mass_Of.c4q y18 y36 y38 o41), 2⟩, .dec false, .cutR 26 ⟨[], [(0, 0), (1, 1)], (mass_Of.c5p y18 y36 y38), 2, .normal, (mass_Of.c5q y18 y36 y38 o45), 2⟩, .dec true], [], via (cutP (And.intro (And.intro trivial e2) e3) [(0, 2)] (mass_Of.c1p a0 a1 y1 (0 : Int)) (((mass_Of.c1_ok k a0 a1 y1 k (0 : Int)).ap (e9.trans (congrArg some e13))).triple) (cutP trivial [(0, 0)] (mass_Of.c2p a0 a1 y1) (((mass_Of.c2_ok k a0 a1 y1).ap e16)) (cutP (And.intro (And.intro trivial e17) e19) [(0, 0), (1, 4), (2, 6)] (mass_Of.c3p a0 a1 y1 y18 (0 : Int) ((0 : Int), (0 : Int), ())) (((mass_Of.c3_ok k a0 a1 y1 y18 k (0 : Int) ((0 : Int), (0 : Int), ())).ap e33).triple) (cutP (And.intro (And.intro (And.intro trivial e35) e37) e39) [(0, 0), (1, 1)] (mass_Of.c4p y18 y36 y38) (((mass_Of.c4_ok k y18 y36 y38).ap e42)) (cutP (And.intro trivial e43) [(0, 0), (1, 1)] (mass_Of.c5p y18 y36 y38) (((mass_Of.c5_ok k y18 y36 y38).ap e46)) (retP (And.intro trivial e47) (.more (.dp T3) (.more (.dp T3) (.more (.dp T24) (.one (.dp T3))))) (((0 : Int), (0 : Int), ((0 : Int), (0 : Int), ()), (2 : Int)) : (Int × (Int × (V24 × Int)))))))))) (by kernel_rfl)⟩)) (fun e47 =>
       Owp.some (⟨[.res (.more (.dp T3) (.one (.dp T3))) y1, .dec false, .cut ⟨[], [(0, 2)], (mass_Of.c1p a0 a1 y1 (0 : Int)), 1, (.exit 0), (mass_Of.c1q a0 a1 y1 (.inr ())), 1⟩, .cutR 10 ⟨[], [(0, 0)], (mass_Of.c2p a0 a1 y1), 1, .normal, (mass_Of.c2q a0 a1 y1 o15), 1⟩, .dec false, .res (.one (.dp T24)) y18, .cut ⟨[], [(0, 0), (1, 4), (2, 6)], (mass_Of.c3p a0 a1 y1 y18 (0 : Int) ((0 : Int), (0 : Int), ())), 3, (.exit 2), (mass_Of.c3q a1 y1 y18 o32), 3⟩, .res (.more (.dp T3) (.one (.dp T3))) y34, .res (.one (.dp T3)) y36, .res (.one (.dp T3)) y38, .cutR 24 ⟨[], [(0, 0), (1, 1)], (mass_Of.c4p y18 y36 y38), 2, .normal, (mass_Of.c4q y18 y36 y38 o41), 2⟩, .dec false, .cutR 26 ⟨[], [(0, 0), (1, 1)], (mass_Of.c5p y18 y36 y38), 2, .normal, (mass_Of.c5q y18 y36 y38 o45), 2⟩, .dec false], [], via (cutP (And.intro (And.intro trivial e2) e3) [(0, 2)] (mass_Of.c1p a0 a1 y1 (0 : Int)) (((mass_Of.c1_ok k a0 a1 y1 k (0 : Int)).ap (e9.trans (congrArg some e13))).triple) (cutP trivial [(0, 0)] (mass_Of.c2p a0 a1 y1) (((mass_Of.c2_ok k a0 a1 y1).ap e16)) (cutP (And.intro (And.intro trivial e17) e19) [(0, 0), (1, 4), (2, 6)] (mass_Of.c3p a0 a1 y1 y18 (0 : Int) ((0 : Int), (0 : Int), ())) (((mass_Of.c3_ok k a0 a1 y1 y18 k (0 : Int) ((0 : Int), (0 : Int), ())).ap e33).triple) (cutP (And.intro (And.intro (And.intro trivial e35) e37) e39) [(0, 0), (1, 1)] (mass_Of.c4p y18 y36 y38) (((mass_Of.c4_ok k y18 y36 y38).ap e42)) (cutP (And.intro trivial e43) [(0, 0), (1, 1)] (mass_Of.c5p y18 y36 y38) (((mass_Of.c5_ok k y18 y36 y38).ap e46)) (retP (And.intro trivial e47) (.more (.dp T3) (.more (.dp T3) (.more (.dp T24) (.one (.dp T3))))) ((y36, y38, y18, (0 : Int)) : (Int × (Int × (V24 × Int)))))))))) (by kernel_rfl)⟩))))))
theorem mass_Of.ok (k : Nat) : FnOk PR 55 (mass_Of.sp k) :=
  fn_ok (mass_Of.cok k) hmix Try.func55 (code := mass_Of.code) (by kernel_rfl) (by kernel_rfl) (by kernel_rfl) rfl (by kernel_rfl) (by kernel_rfl) (by kernel_rfl) (fun x => Nat.le_of_ble_eq_true (by kernel_rfl)) fun x y hy => (mass_Of.way k x.1 x.2.1).ap hy

/-! tourney/tourkeep2.weighs -/
noncomputable def tourkeep2_weighs.code : Code := Func.cd Try.f56
def tourkeep2_weighs (k : Nat) : Option Bool :=
  bnd (tourkeep2_square k 0 0 1) fun y1 =>
  bnd (mass_Of k y1 65536) fun y3 =>
  bif' (ieq y3.2.2.2 0)
  (bif' (ieq y3.1 262144)
   (some (ieq y3.2.1 174763))
   (some false))
  (some false)
noncomputable def tourkeep2_weighs.sp (k : Nat) : Go.Sx.Spec := ⟨.unit, (.one (.dp T4)), fun x => tourkeep2_weighs k, false⟩
noncomputable def tourkeep2_weighs.cx (k : Nat) : Go.Sx.Ctx := ⟨tys, [(77, tourkeep2_square.sp k), (55, mass_Of.sp k)], eqs, 22, false⟩
theorem tourkeep2_weighs.cok (k : Nat) : CtxOk PR (tourkeep2_weighs.cx k) := ctx_ok tysOk eqsOk (FnsOk.cons (tourkeep2_square.ok k) (FnsOk.cons (mass_Of.ok k) FnsOk.nil))
theorem tourkeep2_weighs.way (k : Nat) : Owp (tourkeep2_weighs k) fun y => ∃ answers cmds, exec PR (tourkeep2_weighs.cx k) tourkeep2_weighs.code 0 (entry .unit ()).st answers (Ret (tourkeep2_weighs.cx k) Try.f56 cmds (.one (.dp T4)) y) := by
  unfold tourkeep2_weighs; exact
   Owp.bnd fun y1 e2 =>
   Owp.bnd fun y3 e4 =>
   Owp.bif (fun e5 =>
   Owp.bif (fun e6 =>
    Owp.some (⟨[.res (.one (.ow T24 24)) y1, .res (.more (.dp T3) (.more (.dp T3) (.more (.dp T24) (.one (.dp T3))))) y3, .dec true, .dec true, .dec true, .dec true, .dec true, .dec true], [], via (retP (And.intro (And.intro (And.intro (And.intro (And.intro (And.intro (And.intro (And.intro trivial e2) e4) e5) e5) e5) e6) e6) e6) (.one (.dp T4)) ((ieq y3.2.1 (174763 : Int)) : Bool)) (by kernel_rfl)⟩)) (fun e6 =>
    Owp.some (⟨[.res (.one (.ow T24 24)) y1, .res (.more (.dp T3) (.more (.dp T3) (.more (.dp T24) (.one (.dp T3))))) y3, .dec true, .dec true, .dec true, .dec false, .dec false, .dec false], [], via (retP (And.intro (And.intro (And.intro (And.intro (And.intro (And.intro (And.intro (And.intro trivial e2) e4) e5) e5) e5) e6) e6) e6) (.one (.dp T4)) (false : Bool)) (by kernel_rfl)⟩))) (fun e5 =>
   Owp.some (⟨[.res (.one (.ow T24 24)) y1, .res (.more (.dp T3) (.more (.dp T3) (.more (.dp T24) (.one (.dp T3))))) y3, .dec false, .dec false, .dec false, .dec false, .dec false, .dec false], [], via (retP (And.intro (And.intro (And.intro (And.intro (And.intro (And.intro (And.intro (And.intro trivial e2) e4) e5) e5) e5) ff) ff) ff) (.one (.dp T4)) (false : Bool)) (by kernel_rfl)⟩))
theorem tourkeep2_weighs.ok (k : Nat) : FnOk PR 56 (tourkeep2_weighs.sp k) :=
  fn_ok (tourkeep2_weighs.cok k) hmix Try.func56 (code := tourkeep2_weighs.code) (by kernel_rfl) (by kernel_rfl) (by kernel_rfl) rfl (by kernel_rfl) (by kernel_rfl) (by kernel_rfl) (fun x => Nat.le_of_ble_eq_true (by kernel_rfl)) fun x y hy => (tourkeep2_weighs.way k).ap hy

end Go.Proofs.T1
