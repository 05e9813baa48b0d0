import Derived.Test.YtcgcnojpcgjnmaaG0
import Derived.Test.YtcgcnojpcgjnmaaG1
namespace Go.Proofs.T1
open Go Go.Sx Go.Proofs
set_option maxRecDepth 100000
set_option linter.unusedVariables false
/-! (tourney/poly.Wide).Over -/
noncomputable def poly_Wide_Over.code : Code := Func.cd Try.f97
def poly_Wide_Over.c1 (k : Nat) (a0 : V90) : Option (V90) :=
  bif' (ilt a0.1 0)
  (bnd (poly_Wide_Minus k (0, 0, ()) a0) fun y3 =>
   some y3)
  (some a0)
def poly_Wide_Over.c2 (k : Nat) (a0 : V90) (a1 : Int) : Option ((Bool × Int)) :=
  bif' (ilt a1 0)
  (some ((!(ilt a0.1 0)), (ineg .u64 (icv .u64 a1))))
  (some ((ilt a0.1 0), (icv .u64 a1)))
def poly_Wide_Over.c3 (k : Nat) (o8 : (Bool × Int)) (y11 : (Int × Int)) : Option (Bool) :=
  bif' (igt y11.2 (isub .u64 o8.2 y11.2))
  (some true)
  (bif' (ieq y11.2 (isub .u64 o8.2 y11.2))
   (some (!o8.1))
   (some false))
def poly_Wide_Over.c4 (k : Nat) (o15 : Bool) (y11 : (Int × Int)) : Option (Unit ⊕ Int) :=
  bif' o15
  (bif' (ieq (iadd .u64 y11.1 1) 0)
   (some (.inl ()))
   (some (.inr (iadd .u64 y11.1 1))))
  (some (.inr y11.1))
def poly_Wide_Over.c5 (k : Nat) (o8 : (Bool × Int)) (y23 : Int) : Option (Bool) :=
  bif' o8.1
  (some (ile y23 9223372036854775808))
  (some false)
def poly_Wide_Over.c6 (k : Nat) (o8 : (Bool × Int)) (y23 : Int) : Option (Bool) :=
  bif' o8.1
  (some false)
  (some (ilt y23 9223372036854775808))
def poly_Wide_Over (k : Nat) (a0 : V90) (a1 : Int) : Option (Int × Int) :=
  bif' (ieq a1 0)
  (some (0, 17))
  (bnd (poly_Wide_Over.c1 k a0) fun o5 =>
   bnd (poly_Wide_Over.c2 k a0 a1) fun o8 =>
   bif' (ige (icv .u64 o5.1) o8.2)
   (some (0, 2))
   (bnd (bits_Div64 k (icv .u64 o5.1) o5.2.1 o8.2) fun y11 =>
    bnd (poly_Wide_Over.c3 k o8 y11) fun o15 =>
    bnd (poly_Wide_Over.c4 k o15 y11) fun o19 =>
    two o19 (fun y21 =>
    some (0, 2)) (fun y23 =>
    bnd (poly_Wide_Over.c5 k o8 y23) fun o26 =>
     bif' o26
     (some ((icv .i64 (ineg .u64 y23)), 0))
     (bnd (poly_Wide_Over.c6 k o8 y23) fun o30 =>
      bif' o30
      (some ((icv .i64 y23), 0))
      (some (0, 2))))))
noncomputable def poly_Wide_Over.sp (k : Nat) : Go.Sx.Spec := ⟨(.pair T90 (.pair T2 .unit)), (.more (.dp T2) (.one (.dp T2))), fun x => poly_Wide_Over k x.1 x.2.1, false⟩
noncomputable def poly_Wide_Over.cx (k : Nat) : Go.Sx.Ctx := ⟨tys, [(140, poly_Wide_Minus.sp k), (162, bits_Div64.sp k)], eqs, 82, false⟩
theorem poly_Wide_Over.cok (k : Nat) : CtxOk PR (poly_Wide_Over.cx k) := ctx_ok tysOk eqsOk (FnsOk.cons (poly_Wide_Minus.ok k) (FnsOk.cons (bits_Div64.ok k) FnsOk.nil))
noncomputable def poly_Wide_Over.c1p (a0 : V90) (a1 : Int) : SL := ⟨[(1, (.val T2 a1)), (2, (.val .ptr ⟨0, 0, (0 : Int), 0, 0⟩)), (6, (.val T4 (ilt a0.1 (0 : Int)))), (17, (.val T4 (ilt a0.1 (0 : Int))))], [(0, .cells T90 a0)]⟩
noncomputable def poly_Wide_Over.c1q (a0 : V90) (a1 : Int) (o : V90) : SL := (fun v => ⟨[(1, (.val T2 a1)), (2, (.val .ptr ⟨0, 0, (0 : Int), 0, 0⟩)), (6, (.val T4 (ilt a0.1 (0 : Int))))], [(0, .cells T90 v)]⟩) o
noncomputable def poly_Wide_Over.c1x (o : V90) : Ex := (fun _ => .normal) o
noncomputable def poly_Wide_Over.c1n (o : V90) : Nat := (fun _ => 1) o
theorem poly_Wide_Over.c1_ok (k : Nat) (a0 : V90) (a1 : Int) : Owp (poly_Wide_Over.c1 k a0) fun o => Triple PR (poly_Wide_Over.cx k) (sub poly_Wide_Over.code [1, 1, 1, 0, 1]) 1 (poly_Wide_Over.c1p a0 a1) (poly_Wide_Over.c1x o) (poly_Wide_Over.c1n o) (poly_Wide_Over.c1q a0 a1 o) := by
  unfold poly_Wide_Over.c1; exact
   Owp.bif (fun e2 =>
   Owp.bnd fun y3 e4 =>
    Owp.some (triple_way (poly_Wide_Over.cok k) hmix [.dec true, .res (.one (.dp T90)) y3] [] [(0, 0)] (via (finP (And.intro (And.intro trivial e2) e4) .normal [(0, 0)] (poly_Wide_Over.c1q a0 a1 y3)) (by kernel_rfl)))) (fun e2 =>
   Owp.some (triple_way (poly_Wide_Over.cok k) hmix [.dec false] [] [(0, 0)] (via (finP (And.intro trivial e2) .normal [(0, 0)] (poly_Wide_Over.c1q a0 a1 a0)) (by kernel_rfl))))
noncomputable def poly_Wide_Over.c2p (a0 : V90) (a1 : Int) (o5 : V90) : SL := ⟨[(2, (.val .ptr ⟨0, 0, (0 : Int), 0, 0⟩)), (6, (.val T4 (ilt a0.1 (0 : Int)))), (7, (.val T12 (icv .u64 a1))), (24, (.val T4 (ilt a1 (0 : Int))))], [(0, .cells T90 o5)]⟩
noncomputable def poly_Wide_Over.c2q (o5 : V90) (o : (Bool × Int)) : SL := (fun v => ⟨[(2, (.val .ptr ⟨0, 0, (0 : Int), 0, 0⟩)), (6, (.val T4 v.1)), (7, (.val T12 v.2))], [(0, .cells T90 o5)]⟩) o
noncomputable def poly_Wide_Over.c2x (o : (Bool × Int)) : Ex := (fun _ => .normal) o
noncomputable def poly_Wide_Over.c2n (o : (Bool × Int)) : Nat := (fun _ => 1) o
theorem poly_Wide_Over.c2_ok (k : Nat) (a0 : V90) (a1 : Int) (o5 : V90) : Owp (poly_Wide_Over.c2 k a0 a1) fun o => Triple PR (poly_Wide_Over.cx k) (sub poly_Wide_Over.code [1, 1, 1, 1, 1, 0, 1]) 1 (poly_Wide_Over.c2p a0 a1 o5) (poly_Wide_Over.c2x o) (poly_Wide_Over.c2n o) (poly_Wide_Over.c2q o5 o) := by
  unfold poly_Wide_Over.c2; exact
   Owp.bif (fun e7 =>
   Owp.some (triple_way (poly_Wide_Over.cok k) hmix [.dec true] [] [(0, 0)] (via (finP (And.intro trivial e7) .normal [(0, 0)] (poly_Wide_Over.c2q o5 ((!(ilt a0.1 (0 : Int))), (ineg .u64 (icv .u64 a1))))) (by kernel_rfl)))) (fun e7 =>
   Owp.some (triple_way (poly_Wide_Over.cok k) hmix [.dec false] [] [(0, 0)] (via (finP (And.intro trivial e7) .normal [(0, 0)] (poly_Wide_Over.c2q o5 ((ilt a0.1 (0 : Int)), (icv .u64 a1)))) (by kernel_rfl))))
noncomputable def poly_Wide_Over.c3p (o8 : (Bool × Int)) (y11 : (Int × Int)) : SL := ⟨[(6, (.val T4 o8.1)), (7, (.val T12 o8.2)), (9, (.val T12 y11.1)), (10, (.val T12 y11.2))], []⟩
noncomputable def poly_Wide_Over.c3q (o8 : (Bool × Int)) (y11 : (Int × Int)) (o : Bool) : SL := (fun v => ⟨[(6, (.val T4 o8.1)), (9, (.val T12 y11.1)), (11, (.val T4 v))], []⟩) o
noncomputable def poly_Wide_Over.c3x (o : Bool) : Ex := (fun _ => .normal) o
noncomputable def poly_Wide_Over.c3n (o : Bool) : Nat := (fun _ => 0) o
theorem poly_Wide_Over.c3_ok (k : Nat) (o8 : (Bool × Int)) (y11 : (Int × Int)) : Owp (poly_Wide_Over.c3 k o8 y11) fun o => Triple PR (poly_Wide_Over.cx k) (sub poly_Wide_Over.code [1, 1, 1, 1, 1, 1, 1, 1, 1, 0]) 0 (poly_Wide_Over.c3p o8 y11) (poly_Wide_Over.c3x o) (poly_Wide_Over.c3n o) (poly_Wide_Over.c3q o8 y11 o) := by
  unfold poly_Wide_Over.c3; exact
   Owp.bif (fun e13 =>
   Owp.some (triple_way (poly_Wide_Over.cok k) hmix [.dec true, .dec true, .dec true, .dec true, .dec true, .dec true, .dec true, .dec true, .dec true, .dec true, .dec true] [] [] (via (finP (And.intro (And.intro (And.intro (And.intro (And.intro (And.intro (And.intro (And.intro trivial e13) e13) e13) e13) e13) e13) e13) e13) .normal [] (poly_Wide_Over.c3q o8 y11 true)) (by kernel_rfl)))) (fun e13 =>
   Owp.bif (fun e14 =>
    Owp.some (triple_way (poly_Wide_Over.cok k) hmix [.dec false, .dec false, .dec false, .dec false, .dec false, .dec false, .dec true, .dec true, .dec false, .dec true, .dec false] [] [] (via (finP (And.intro (And.intro (And.intro (And.intro (And.intro (And.intro (And.intro (And.intro (And.intro (And.intro trivial e13) e13) e13) e13) e13) e13) e14) e14) (And.intro e13 e14)) e13) .normal [] (poly_Wide_Over.c3q o8 y11 (!o8.1))) (by kernel_rfl)))) (fun e14 =>
    Owp.some (triple_way (poly_Wide_Over.cok k) hmix [.dec false, .dec false, .dec false, .dec false, .dec false, .dec false, .dec false, .dec false, .dec false, .dec false, .dec false] [] [] (via (finP (And.intro (And.intro (And.intro (And.intro (And.intro (And.intro (And.intro (And.intro (And.intro (And.intro trivial e13) e13) e13) e13) e13) e13) e14) e14) (And.intro e13 e14)) e13) .normal [] (poly_Wide_Over.c3q o8 y11 false)) (by kernel_rfl)))))
noncomputable def poly_Wide_Over.c4p (o8 : (Bool × Int)) (o15 : Bool) (y11 : (Int × Int)) : SL := ⟨[(6, (.val T4 o8.1)), (9, (.val T12 y11.1)), (59, (.val T4 o15))], []⟩
noncomputable def poly_Wide_Over.c4q (o8 : (Bool × Int)) (o : Unit ⊕ Int) : SL := (fun o => two o (fun v => ⟨[(4, (.val T2 (0 : Int))), (5, (.val T2 (2 : Int)))], []⟩) (fun v => ⟨[(6, (.val T4 o8.1)), (9, (.val T12 v))], []⟩)) o
noncomputable def poly_Wide_Over.c4x (o : Unit ⊕ Int) : Ex := (fun o => two o (fun _ => .ret) (fun _ => .normal)) o
noncomputable def poly_Wide_Over.c4n (o : Unit ⊕ Int) : Nat := (fun o => two o (fun _ => 0) (fun _ => 0)) o
theorem poly_Wide_Over.c4_ok (k : Nat) (o8 : (Bool × Int)) (o15 : Bool) (y11 : (Int × Int)) : Owp (poly_Wide_Over.c4 k o15 y11) fun o => Triple PR (poly_Wide_Over.cx k) (sub poly_Wide_Over.code [1, 1, 1, 1, 1, 1, 1, 1, 1, 1, 0, 1]) 0 (poly_Wide_Over.c4p o8 o15 y11) (poly_Wide_Over.c4x o) (poly_Wide_Over.c4n o) (poly_Wide_Over.c4q o8 o) := by
  unfold poly_Wide_Over.c4; exact
   Owp.bif (fun e17 =>
   Owp.bif (fun e18 =>
    Owp.some (triple_way (poly_Wide_Over.cok k) hmix [.dec true, .dec true] [] [] (via (finP (And.intro (And.intro trivial e17) e18) .ret [] (poly_Wide_Over.c4q o8 (.inl ()))) (by kernel_rfl)))) (fun e18 =>
    Owp.some (triple_way (poly_Wide_Over.cok k) hmix [.dec true, .dec false] [] [] (via (finP (And.intro (And.intro trivial e17) e18) .normal [] (poly_Wide_Over.c4q o8 (.inr (iadd .u64 y11.1 (1 : Int))))) (by kernel_rfl))))) (fun e17 =>
   Owp.some (triple_way (poly_Wide_Over.cok k) hmix [.dec false] [] [] (via (finP (And.intro trivial e17) .normal [] (poly_Wide_Over.c4q o8 (.inr y11.1))) (by kernel_rfl))))
noncomputable def poly_Wide_Over.c5p (o8 : (Bool × Int)) (y23 : Int) : SL := ⟨[(6, (.val T4 o8.1)), (9, (.val T12 y23))], []⟩
noncomputable def poly_Wide_Over.c5q (o8 : (Bool × Int)) (y23 : Int) (o : Bool) : SL := (fun v => ⟨[(6, (.val T4 o8.1)), (9, (.val T12 y23)), (64, (.val T4 v))], []⟩) o
noncomputable def poly_Wide_Over.c5x (o : Bool) : Ex := (fun _ => .normal) o
noncomputable def poly_Wide_Over.c5n (o : Bool) : Nat := (fun _ => 0) o
theorem poly_Wide_Over.c5_ok (k : Nat) (o8 : (Bool × Int)) (y23 : Int) : Owp (poly_Wide_Over.c5 k o8 y23) fun o => Triple PR (poly_Wide_Over.cx k) (sub poly_Wide_Over.code [1, 1, 1, 1, 1, 1, 1, 1, 1, 1, 1, 0, 0, 0]) 0 (poly_Wide_Over.c5p o8 y23) (poly_Wide_Over.c5x o) (poly_Wide_Over.c5n o) (poly_Wide_Over.c5q o8 y23 o) := by
  unfold poly_Wide_Over.c5; exact
   Owp.bif (fun e25 =>
   Owp.some (triple_way (poly_Wide_Over.cok k) hmix [.dec true, .dec true, .dec true] [] [] (via (finP (And.intro (And.intro (And.intro trivial e25) e25) e25) .normal [] (poly_Wide_Over.c5q o8 y23 (ile y23 (9223372036854775808 : Int)))) (by kernel_rfl)))) (fun e25 =>
   Owp.some (triple_way (poly_Wide_Over.cok k) hmix [.dec false, .dec false, .dec false] [] [] (via (finP (And.intro (And.intro (And.intro trivial e25) e25) e25) .normal [] (poly_Wide_Over.c5q o8 y23 false)) (by kernel_rfl))))
noncomputable def poly_Wide_Over.c6p (o8 : (Bool × Int)) (y23 : Int) : SL := ⟨[(6, (.val T4 o8.1)), (9, (.val T12 y23))], []⟩
noncomputable def poly_Wide_Over.c6q (y23 : Int) (o : Bool) : SL := (fun v => ⟨[(9, (.val T12 y23)), (73, (.val T4 v))], []⟩) o
noncomputable def poly_Wide_Over.c6x (o : Bool) : Ex := (fun _ => .normal) o
noncomputable def poly_Wide_Over.c6n (o : Bool) : Nat := (fun _ => 0) o
theorem poly_Wide_Over.c6_ok (k : Nat) (o8 : (Bool × Int)) (y23 : Int) : Owp (poly_Wide_Over.c6 k o8 y23) fun o => Triple PR (poly_Wide_Over.cx k) (sub poly_Wide_Over.code [1, 1, 1, 1, 1, 1, 1, 1, 1, 1, 1, 0, 0, 1, 1, 0]) 0 (poly_Wide_Over.c6p o8 y23) (poly_Wide_Over.c6x o) (poly_Wide_Over.c6n o) (poly_Wide_Over.c6q y23 o) := by
  unfold poly_Wide_Over.c6; exact
   Owp.bif (fun e29 =>
   Owp.some (triple_way (poly_Wide_Over.cok k) hmix [.dec false, .dec false, .dec false] [] [] (via (finP (And.intro (And.intro (And.intro trivial (congrArg not e29)) (congrArg not e29)) (congrArg not e29)) .normal [] (poly_Wide_Over.c6q y23 false)) (by kernel_rfl)))) (fun e29 =>
   Owp.some (triple_way (poly_Wide_Over.cok k) hmix [.dec true, .dec true, .dec true] [] [] (via (finP (And.intro (And.intro (And.intro trivial (congrArg not e29)) (congrArg not e29)) (congrArg not e29)) .normal [] (poly_Wide_Over.c6q y23 (ilt y23 (9223372036854775808 : Int)))) (by kernel_rfl))))
theorem poly_Wide_Over.way (k : Nat) (a0 : V90) (a1 : Int) : Owp (poly_Wide_Over k a0 a1) fun y => ∃ answers cmds, exec PR (poly_Wide_Over.cx k) poly_Wide_Over.code 0 (entry (.pair T90 (.pair T2 .unit)) (a0, a1, ())).st answers (Ret (poly_Wide_Over.cx k) Try.f97 cmds (.more (.dp T2) (.one (.dp T2))) y) := by
  unfold poly_Wide_Over; exact
   Owp.bif (fun e1 =>
   Owp.some (⟨[.dec true], [], via (retP (And.intro trivial e1) (.more (.dp T2) (.one (.dp T2))) (((0 : Int), (17 : Int)) : (Int × Int))) (by kernel_rfl)⟩)) (fun e1 =>
   Owp.bnd fun o5 e6 =>
    Owp.bnd fun o8 e9 =>
    Owp.bif (fun e10 =>
    Owp.some (⟨[.dec false, .cut ⟨[], [(0, 0)], (poly_Wide_Over.c1p a0 a1), 1, .normal, (poly_Wide_Over.c1q a0 a1 o5), 1⟩, .cut ⟨[], [(0, 0)], (poly_Wide_Over.c2p a0 a1 o5), 1, .normal, (poly_Wide_Over.c2q o5 o8), 1⟩, .dec true], [], via (cutP (And.intro trivial e1) [(0, 0)] (poly_Wide_Over.c1p a0 a1) (((poly_Wide_Over.c1_ok k a0 a1).ap e6)) (cutP trivial [(0, 0)] (poly_Wide_Over.c2p a0 a1 o5) (((poly_Wide_Over.c2_ok k a0 a1 o5).ap e9)) (retP (And.intro trivial e10) (.more (.dp T2) (.one (.dp T2))) (((0 : Int), (2 : Int)) : (Int × Int))))) (by kernel_rfl)⟩)) (fun e10 =>
    Owp.bnd fun y11 e12 =>
     Owp.bnd fun o15 e16 =>
     Owp.bnd fun o19 e20 =>
     Owp.two (fun y21 e22 =>
     Owp.some (⟨[.dec false, .cut ⟨[], [(0, 0)], (poly_Wide_Over.c1p a0 a1), 1, .normal, (poly_Wide_Over.c1q a0 a1 o5), 1⟩, .cut ⟨[], [(0, 0)], (poly_Wide_Over.c2p a0 a1 o5), 1, .normal, (poly_Wide_Over.c2q o5 o8), 1⟩, .dec false, .res (.more (.dp T12) (.one (.dp T12))) y11, .cutR 13 ⟨[], [], (poly_Wide_Over.c3p o8 y11), 0, .normal, (poly_Wide_Over.c3q o8 y11 o15), 0⟩, .cut ⟨[], [], (poly_Wide_Over.c4p o8 o15 y11), 0, .ret, (poly_Wide_Over.c4q o8 (.inl ())), 0⟩], [], via (cutP (And.intro trivial e1) [(0, 0)] (poly_Wide_Over.c1p a0 a1) (((poly_Wide_Over.c1_ok k a0 a1).ap e6)) (cutP trivial [(0, 0)] (poly_Wide_Over.c2p a0 a1 o5) (((poly_Wide_Over.c2_ok k a0 a1 o5).ap e9)) (cutP (And.intro (And.intro trivial e10) e12) [] (poly_Wide_Over.c3p o8 y11) (((poly_Wide_Over.c3_ok k o8 y11).ap e16)) (cutP trivial [] (poly_Wide_Over.c4p o8 o15 y11) (((poly_Wide_Over.c4_ok k o8 o15 y11).ap (e20.trans (congrArg some e22)))) (retP trivial (.more (.dp T2) (.one (.dp T2))) (((0 : Int), (2 : Int)) : (Int × Int))))))) (by kernel_rfl)⟩)) (fun y23 e24 =>
     Owp.bnd fun o26 e27 =>
      Owp.bif (fun e28 =>
      Owp.some (⟨[.dec false, .cut ⟨[], [(0, 0)], (poly_Wide_Over.c1p a0 a1), 1, .normal, (poly_Wide_Over.c1q a0 a1 o5), 1⟩, .cut ⟨[], [(0, 0)], (poly_Wide_Over.c2p a0 a1 o5), 1, .normal, (poly_Wide_Over.c2q o5 o8), 1⟩, .dec false, .res (.more (.dp T12) (.one (.dp T12))) y11, .cutR 13 ⟨[], [], (poly_Wide_Over.c3p o8 y11), 0, .normal, (poly_Wide_Over.c3q o8 y11 o15), 0⟩, .cut ⟨[], [], (poly_Wide_Over.c4p o8 o15 y11), 0, .normal, (poly_Wide_Over.c4q o8 (.inr y23)), 0⟩, .cutR 18 ⟨[], [], (poly_Wide_Over.c5p o8 y23), 0, .normal, (poly_Wide_Over.c5q o8 y23 o26), 0⟩, .dec true], [], via (cutP (And.intro trivial e1) [(0, 0)] (poly_Wide_Over.c1p a0 a1) (((poly_Wide_Over.c1_ok k a0 a1).ap e6)) (cutP trivial [(0, 0)] (poly_Wide_Over.c2p a0 a1 o5) (((poly_Wide_Over.c2_ok k a0 a1 o5).ap e9)) (cutP (And.intro (And.intro trivial e10) e12) [] (poly_Wide_Over.c3p o8 y11) (((poly_Wide_Over.c3_ok k o8 y11).ap e16)) (cutP trivial [] (poly_Wide_Over.c4p o8 o15 y11) (((poly_Wide_Over.c4_ok k o8 o15 y11).ap (e20.trans (congrArg some e24)))) (cutP trivial [] (poly_Wide_Over.c5p o8 y23) (((poly_Wide_Over.c5_ok k o8 y23).ap e27)) (retP (And.intro trivial e28) (.more (.dp T2) (.one (.dp T2))) (((icv .i64 (ineg .u64 y23)), (0 : Int)) : (Int × Int)))))))) (by kernel_rfl)⟩)) (fun e28 =>
      Owp.bnd fun o30 e31 =>
       Owp.bif (fun e32 =>
       Owp.some (⟨[.dec false, .cut ⟨[], [(0, 0)], (poly_Wide_Over.c1p a0 a1), 1, .normal, (poly_Wide_Over.c1q a0 a1 o5), 1⟩, .cut ⟨[], [(0, 0)], (poly_Wide_Over.c2p a0 a1 o5), 1, .normal, (poly_Wide_Over.c2q o5 o8), 1⟩, .dec false, .res (.more (.dp T12) (.one (.dp T12))) y11, .cutR 13 ⟨[], [], (poly_Wide_Over.c3p o8 y11), 0, .normal, (poly_Wide_Over.c3q o8 y11 o15), 0⟩, .cut ⟨[], [], (poly_Wide_Over.c4p o8 o15 y11), 0, .normal, (poly_Wide_Over.c4q o8 (.inr y23)), 0⟩, .cutR 18 ⟨[], [], (poly_Wide_Over.c5p o8 y23), 0, .normal, (poly_Wide_Over.c5q o8 y23 o26), 0⟩, .dec false, .cutR 20 ⟨[], [], (poly_Wide_Over.c6p o8 y23), 0, .normal, (poly_Wide_Over.c6q y23 o30), 0⟩, .dec true], [], via (cutP (And.intro trivial e1) [(0, 0)] (poly_Wide_Over.c1p a0 a1) (((poly_Wide_Over.c1_ok k a0 a1).ap e6)) (cutP trivial [(0, 0)] (poly_Wide_Over.c2p a0 a1 o5) (((poly_Wide_Over.c2_ok k a0 a1 o5).ap e9)) (cutP (And.intro (And.intro trivial e10) e12) [] (poly_Wide_Over.c3p o8 y11) (((poly_Wide_Over.c3_ok k o8 y11).ap e16)) (cutP trivial [] (poly_Wide_Over.c4p o8 o15 y11) (((poly_Wide_Over.c4_ok k o8 o15 y11).ap (e20.trans (congrArg some e24)))) (cutP trivial [] (poly_Wide_Over.c5p o8 y23) (((poly_Wide_Over.c5_ok k o8 y23).ap e27)) (cutP (And.intro trivial e28) [] (poly_Wide_Over.c6p o8 y23) (((poly_Wide_Over.c6_ok k o8 y23).ap e31)) (retP (And.intro trivial e32) (.more (.dp T2) (.one (.dp T2))) (((icv .i64 y23), (0 : Int)) : (Int × Int))))))))) (by kernel_rfl)⟩)) (fun e32 =>
       Owp.some (⟨[.dec false, .cut ⟨[], [(0, 0)], (poly_Wide_Over.c1p a0 a1), 1, .normal, (poly_Wide_Over.c1q a0 a1 o5), 1⟩, .cut ⟨[], [(0, 0)], (poly_Wide_Over.c2p a0 a1 o5), 1, .normal, (poly_Wide_Over.c2q o5 o8), 1⟩, .dec false, .res (.more (.dp T12) (.one (.dp T12))) y11, .cutR 13 ⟨[], [], (poly_Wide_Over.c3p o8 y11), 0, .normal, (poly_Wide_Over.c3q o8 y11 o15), 0⟩, .cut ⟨[], [], (poly_Wide_Over.c4p o8 o15 y11), 0, .normal, (poly_Wide_Over.c4q o8 (.inr y23)), 0⟩, .cutR 18 ⟨[], [], (poly_Wide_Over.c5p o8 y23), 0, .normal, (poly_Wide_Over.c5q o8 y23 o26), 0⟩, .dec false, .cutR 20 ⟨[], [], (poly_Wide_Over.c6p o8 y23), 0, .normal, (poly_Wide_Over.c6q y23 o30), 0⟩, .dec false], [], via (cutP (And.intro trivial e1) [(0, 0)] (poly_Wide_Over.c1p a0 a1) (((poly_Wide_Over.c1_ok k a0 a1).ap e6)) (cutP trivial [(0, 0)] (poly_Wide_Over.c2p a0 a1 o5) (((poly_Wide_Over.c2_ok k a0 a1 o5).ap e9)) (cutP (And.intro (And.intro trivial e10) e12) [] (poly_Wide_Over.c3p o8 y11) (((poly_Wide_Over.c3_ok k o8 y11).ap e16)) (cutP trivial [] (poly_Wide_Over.c4p o8 o15 y11) (((poly_Wide_Over.c4_ok k o8 o15 y11).ap (e20.trans (congrArg some e24)))) (cutP trivial [] (poly_Wide_Over.c5p o8 y23) (((poly_Wide_Over.c5_ok k o8 y23).ap e27)) (cutP (And.intro trivial e28) [] (poly_Wide_Over.c6p o8 y23) (((poly_Wide_Over.c6_ok k o8 y23).ap e31)) (retP (And.intro trivial e32) (.more (.dp T2) (.one (.dp T2))) (((0 : Int), (2 : Int)) : (Int × Int))))))))) (by kernel_rfl)⟩))))))
theorem poly_Wide_Over.ok (k : Nat) : FnOk PR 97 (poly_Wide_Over.sp k) :=
  fn_ok (poly_Wide_Over.cok k) hmix Try.func97 (code := poly_Wide_Over.code) (by kernel_rfl) (by kernel_rfl) (by kernel_rfl) rfl (by kernel_rfl) (by kernel_rfl) (by kernel_rfl) (fun x => Nat.le_of_ble_eq_true (by kernel_rfl)) fun x y hy => (poly_Wide_Over.way k x.1 x.2.1).ap hy

theorem bits_Add64.ok (k : Nat) : FnOk PR 184 (bits_Add64.sp k) := add64_ok Try.func184 (by kernel_rfl) (by kernel_rfl) (by kernel_rfl) (by kernel_rfl) k

/-! (tourney/poly.Wide).Plus -/
noncomputable def poly_Wide_Plus.code : Code := Func.cd Try.f201
def poly_Wide_Plus (k : Nat) (a0 : V90) (a1 : V90) : Option V90 :=
  bnd (bits_Add64 k a0.2.1 a1.2.1 0) fun y1 =>
  some ((iadd .i64 (iadd .i64 a0.1 a1.1) (icv .i64 y1.2)), y1.1, ())
noncomputable def poly_Wide_Plus.sp (k : Nat) : Go.Sx.Spec := ⟨(.pair T90 (.pair T90 .unit)), (.one (.dp T90)), fun x => poly_Wide_Plus k x.1 x.2.1, false⟩
noncomputable def poly_Wide_Plus.cx (k : Nat) : Go.Sx.Ctx := ⟨tys, [(184, bits_Add64.sp k)], eqs, 25, false⟩
theorem poly_Wide_Plus.cok (k : Nat) : CtxOk PR (poly_Wide_Plus.cx k) := ctx_ok tysOk eqsOk (FnsOk.cons (bits_Add64.ok k) FnsOk.nil)
theorem poly_Wide_Plus.way (k : Nat) (a0 : V90) (a1 : V90) : Owp (poly_Wide_Plus k a0 a1) fun y => ∃ answers cmds, exec PR (poly_Wide_Plus.cx k) poly_Wide_Plus.code 0 (entry (.pair T90 (.pair T90 .unit)) (a0, a1, ())).st answers (Ret (poly_Wide_Plus.cx k) Try.f201 cmds (.one (.dp T90)) y) := by
  unfold poly_Wide_Plus; exact
   Owp.bnd fun y1 e2 =>
   Owp.some (⟨[.res (.more (.dp T12) (.one (.dp T12))) y1], [], via (retP (And.intro trivial e2) (.one (.dp T90)) (((iadd .i64 (iadd .i64 a0.1 a1.1) (icv .i64 y1.2)), y1.1, ()) : V90)) (by kernel_rfl)⟩)
theorem poly_Wide_Plus.ok (k : Nat) : FnOk PR 201 (poly_Wide_Plus.sp k) :=
  fn_ok (poly_Wide_Plus.cok k) hmix Try.func201 (code := poly_Wide_Plus.code) (by kernel_rfl) (by kernel_rfl) (by kernel_rfl) rfl (by kernel_rfl) (by kernel_rfl) (by kernel_rfl) (fun x => Nat.le_of_ble_eq_true (by kernel_rfl)) fun x y hy => (poly_Wide_Plus.way k x.1 x.2.1).ap hy

/-! tourney/poly.Dot -/
noncomputable def poly_Dot.code : Code := Func.cd Try.f188
def poly_Dot (k : Nat) (a0 : V22) (a1 : V22) : Option V90 :=
  bnd (poly_Times k a0.1 a1.1) fun y1 =>
  bnd (poly_Times k a0.2.1 a1.2.1) fun y3 =>
  bnd (poly_Wide_Plus k y1 y3) fun y5 =>
  some y5
noncomputable def poly_Dot.sp (k : Nat) : Go.Sx.Spec := ⟨(.pair T22 (.pair T22 .unit)), (.one (.dp T90)), fun x => poly_Dot k x.1 x.2.1, false⟩
noncomputable def poly_Dot.cx (k : Nat) : Go.Sx.Ctx := ⟨tys, [(96, poly_Times.sp k), (201, poly_Wide_Plus.sp k)], eqs, 16, false⟩
theorem poly_Dot.cok (k : Nat) : CtxOk PR (poly_Dot.cx k) := ctx_ok tysOk eqsOk (FnsOk.cons (poly_Times.ok k) (FnsOk.cons (poly_Wide_Plus.ok k) FnsOk.nil))
theorem poly_Dot.way (k : Nat) (a0 : V22) (a1 : V22) : Owp (poly_Dot k a0 a1) fun y => ∃ answers cmds, exec PR (poly_Dot.cx k) poly_Dot.code 0 (entry (.pair T22 (.pair T22 .unit)) (a0, a1, ())).st answers (Ret (poly_Dot.cx k) Try.f188 cmds (.one (.dp T90)) y) := by
  unfold poly_Dot; exact
   Owp.bnd fun y1 e2 =>
   Owp.bnd fun y3 e4 =>
   Owp.bnd fun y5 e6 =>
   Owp.some (⟨[.res (.one (.dp T90)) y1, .res (.one (.dp T90)) y3, .res (.one (.dp T90)) y5], [], via (retP (And.intro (And.intro (And.intro trivial e2) e4) e6) (.one (.dp T90)) (y5 : V90)) (by kernel_rfl)⟩)
theorem poly_Dot.ok (k : Nat) : FnOk PR 188 (poly_Dot.sp k) :=
  fn_ok (poly_Dot.cok k) hmix Try.func188 (code := poly_Dot.code) (by kernel_rfl) (by kernel_rfl) (by kernel_rfl) rfl (by kernel_rfl) (by kernel_rfl) (by kernel_rfl) (fun x => Nat.le_of_ble_eq_true (by kernel_rfl)) fun x y hy => (poly_Dot.way k x.1 x.2.1).ap hy

/-! tourney/poly.Support -/
noncomputable def poly_Support.code : Code := Func.cd Try.f146
def poly_Support.c1 (k : Nat) (a0 : (List V22)) (a1 : V22) : Nat → Int → Int → Option (Int)
  | 0, _, _ => none
  | n + 1, v4, v5 =>
   bif' (ilt v5 (len a0))
   (req (inL v5 a0) <|
    bnd (poly_Dot k (el Z22 a0 v5) a1) fun y8 =>
    req (inL v4 a0) <|
    bnd (poly_Dot k (el Z22 a0 v4) a1) fun y11 =>
    bnd (poly_Wide_Cmp k y8 y11) fun y13 =>
    bif' (igt y13 0)
    (poly_Support.c1 k a0 a1 n v5 (iadd .i64 v5 1))
    (poly_Support.c1 k a0 a1 n v4 (iadd .i64 v5 1)))
   (some v4)
def poly_Support (k : Nat) (a0 : (List V22)) (a1 : V22) : Option Int :=
  bnd (poly_Check k a0) fun y1 =>
  bif' (ine y1 0)
  (some (-1))
  (bnd (poly_Support.c1 k a0 a1 k 0 0) fun o16 =>
   some o16)
noncomputable def poly_Support.sp (k : Nat) : Go.Sx.Spec := ⟨(.pair T24 (.pair T22 .unit)), (.one (.dp T2)), fun x => poly_Support k x.1 x.2.1, false⟩
noncomputable def poly_Support.cx (k : Nat) : Go.Sx.Ctx := ⟨tys, [(39, poly_Check.sp k), (188, poly_Dot.sp k), (67, poly_Wide_Cmp.sp k)], eqs, 32, false⟩
theorem poly_Support.cok (k : Nat) : CtxOk PR (poly_Support.cx k) := ctx_ok tysOk eqsOk (FnsOk.cons (poly_Check.ok k) (FnsOk.cons (poly_Dot.ok k) (FnsOk.cons (poly_Wide_Cmp.ok k) FnsOk.nil)))
noncomputable def poly_Support.c1p (a0 : (List V22)) (a1 : V22) (v4 : Int) (v5 : Int) : SL := ⟨[(0, (.val T24 a0)), (3, (.val .ptr ⟨0, 0, (0 : Int), 0, 0⟩)), (5, (.val T2 v4)), (11, (.val T24 a0)), (12, (.val T2 (len a0))), (13, (.val T2 v5))], [(0, .cells T22 a1)]⟩
noncomputable def poly_Support.c1q (o : Int) : SL := (fun v => ⟨[(5, (.val T2 v))], []⟩) o
noncomputable def poly_Support.c1x (o : Int) : Ex := (fun _ => (.exit 0)) o
noncomputable def poly_Support.c1n (o : Int) : Nat := (fun _ => 0) o
theorem poly_Support.c1_ok (k : Nat) (a0 : (List V22)) (a1 : V22) : ∀ (n : Nat) (v4 : Int) (v5 : Int), Owp (poly_Support.c1 k a0 a1 n v4 v5) fun o => LTriple PR (poly_Support.cx k) (sub poly_Support.code [1, 1, 1, 0, 1, 0, 0]) 1 (poly_Support.c1p a0 a1 v4 v5) (poly_Support.c1x o) (poly_Support.c1n o) (poly_Support.c1q o)
  | 0, _, _ => fun _ h => nomatch h
  | n + 1, v4, v5 => Owp.of (poly_Support.c1.eq_2 ..) (
   Owp.bif (fun e6 =>
   Owp.req fun h7 =>
    Owp.bnd fun y8 e9 =>
    Owp.req fun h10 =>
    Owp.bnd fun y11 e12 =>
    Owp.bnd fun y13 e14 =>
    Owp.bif (fun e15 =>
    fun y hy => loop_back (poly_Support.cok k) hmix 1 (poly_Support.c1p a0 a1 v5 (iadd .i64 v5 (1 : Int))) [.dec true, .res (.one (.dp T90)) y8, .res (.one (.dp T90)) y11, .res (.one (.dp T2)) y13, .dec true] [] [(0, 0)] (via (finP (And.intro (And.intro (And.intro (And.intro (And.intro (And.intro (And.intro trivial e6) h7) e9) h10) e12) e14) e15) .normal [(0, 0)] (poly_Support.c1p a0 a1 v5 (iadd .i64 v5 (1 : Int)))) (by kernel_rfl)) ((poly_Support.c1_ok k a0 a1 n v5 (iadd .i64 v5 (1 : Int))).ap hy)) (fun e15 =>
    fun y hy => loop_back (poly_Support.cok k) hmix 1 (poly_Support.c1p a0 a1 v4 (iadd .i64 v5 (1 : Int))) [.dec true, .res (.one (.dp T90)) y8, .res (.one (.dp T90)) y11, .res (.one (.dp T2)) y13, .dec false] [] [(0, 0)] (via (finP (And.intro (And.intro (And.intro (And.intro (And.intro (And.intro (And.intro trivial e6) h7) e9) h10) e12) e14) e15) .normal [(0, 0)] (poly_Support.c1p a0 a1 v4 (iadd .i64 v5 (1 : Int)))) (by kernel_rfl)) ((poly_Support.c1_ok k a0 a1 n v4 (iadd .i64 v5 (1 : Int))).ap hy))) (fun e6 =>
   Owp.some (loop_exit (poly_Support.cok k) hmix [.dec false] [] [] (exne 0) (via (finP (And.intro trivial e6) (.exit 0) [] (poly_Support.c1q v4)) (by kernel_rfl)))))
theorem poly_Support.way (k : Nat) (a0 : (List V22)) (a1 : V22) : Owp (poly_Support k a0 a1) fun y => ∃ answers cmds, exec PR (poly_Support.cx k) poly_Support.code 0 (entry (.pair T24 (.pair T22 .unit)) (a0, a1, ())).st answers (Ret (poly_Support.cx k) Try.f146 cmds (.one (.dp T2)) y) := by
  unfold poly_Support; exact
   Owp.bnd fun y1 e2 =>
   Owp.bif (fun e3 =>
   Owp.some (⟨[.res (.one (.dp T2)) y1, .dec true], [], via (retP (And.intro (And.intro trivial e2) e3) (.one (.dp T2)) ((-1 : Int) : Int)) (by kernel_rfl)⟩)) (fun e3 =>
   Owp.bnd fun o16 e17 =>
    Owp.some (⟨[.res (.one (.dp T2)) y1, .dec false, .cut ⟨[], [(0, 0)], (poly_Support.c1p a0 a1 (0 : Int) (0 : Int)), 1, (.exit 0), (poly_Support.c1q o16), 0⟩], [], via (cutP (And.intro (And.intro trivial e2) e3) [(0, 0)] (poly_Support.c1p a0 a1 (0 : Int) (0 : Int)) (((poly_Support.c1_ok k a0 a1 k (0 : Int) (0 : Int)).ap e17).triple) (retP trivial (.one (.dp T2)) (o16 : Int))) (by kernel_rfl)⟩))
theorem poly_Support.ok (k : Nat) : FnOk PR 146 (poly_Support.sp k) :=
  fn_ok (poly_Support.cok k) hmix Try.func146 (code := poly_Support.code) (by kernel_rfl) (by kernel_rfl) (by kernel_rfl) rfl (by kernel_rfl) (by kernel_rfl) (by kernel_rfl) (fun x => Nat.le_of_ble_eq_true (by kernel_rfl)) fun x y hy => (poly_Support.way k x.1 x.2.1).ap hy

/-! tourney/poly.Has -/
noncomputable def poly_Has.code : Code := Func.cd Try.f174
def poly_Has.c1 (k : Nat) (a0 : (List V22)) (a1 : V22) : Option (Bool) :=
  bnd (poly_Check k a0) fun y1 =>
  bif' (ine y1 0)
  (some true)
  (bnd (poly_within k a1) fun y4 =>
   some (!y4))
def poly_Has.c2 (k : Nat) (a0 : (List V22)) (a1 : V22) : Nat → Int → Option (Unit ⊕ Unit)
  | 0, _ => none
  | n + 1, v9 =>
   bif' (ilt v9 (len a0))
   (req (inL v9 a0) <|
    req (nz (len a0)) <|
    req (inL (irem (iadd .i64 v9 1) (len a0)) a0) <|
    bnd (poly_side k (el Z22 a0 v9) (el Z22 a0 (irem (iadd .i64 v9 1) (len a0))) a1) fun y14 =>
    bif' (ilt y14 0)
    (some (.inl ()))
    (poly_Has.c2 k a0 a1 n (iadd .i64 v9 1)))
   (some (.inr ()))
def poly_Has (k : Nat) (a0 : (List V22)) (a1 : V22) : Option Bool :=
  bnd (poly_Has.c1 k a0 a1) fun o6 =>
  bif' o6
  (some false)
  (bnd (poly_Has.c2 k a0 a1 k 0) fun o17 =>
   two o17 (fun y19 =>
   some false) (fun y21 =>
   some true))
noncomputable def poly_Has.sp (k : Nat) : Go.Sx.Spec := ⟨(.pair T24 (.pair T22 .unit)), (.one (.dp T4)), fun x => poly_Has k x.1 x.2.1, false⟩
noncomputable def poly_Has.cx (k : Nat) : Go.Sx.Ctx := ⟨tys, [(39, poly_Check.sp k), (110, poly_within.sp k), (111, poly_side.sp k)], eqs, 35, false⟩
theorem poly_Has.cok (k : Nat) : CtxOk PR (poly_Has.cx k) := ctx_ok tysOk eqsOk (FnsOk.cons (poly_Check.ok k) (FnsOk.cons (poly_within.ok k) (FnsOk.cons (poly_side.ok k) FnsOk.nil)))
noncomputable def poly_Has.c1p (a0 : (List V22)) (a1 : V22) : SL := ⟨[(0, (.val T24 a0)), (3, (.val .ptr ⟨0, 0, (0 : Int), 0, 0⟩))], [(0, .cells T22 a1)]⟩
noncomputable def poly_Has.c1q (a0 : (List V22)) (a1 : V22) (o : Bool) : SL := (fun v => ⟨[(0, (.val T24 a0)), (3, (.val .ptr ⟨0, 0, (0 : Int), 0, 0⟩)), (14, (.val T4 v))], [(0, .cells T22 a1)]⟩) o
noncomputable def poly_Has.c1x (o : Bool) : Ex := (fun _ => .normal) o
noncomputable def poly_Has.c1n (o : Bool) : Nat := (fun _ => 1) o
theorem poly_Has.c1_ok (k : Nat) (a0 : (List V22)) (a1 : V22) : Owp (poly_Has.c1 k a0 a1) fun o => Triple PR (poly_Has.cx k) (sub poly_Has.code [1, 0, 0]) 1 (poly_Has.c1p a0 a1) (poly_Has.c1x o) (poly_Has.c1n o) (poly_Has.c1q a0 a1 o) := by
  unfold poly_Has.c1; exact
   Owp.bnd fun y1 e2 =>
   Owp.bif (fun e3 =>
   Owp.some (triple_way (poly_Has.cok k) hmix [.res (.one (.dp T2)) y1, .dec true, .dec true, .dec true, .dec true, .dec true] [] [(0, 0)] (via (finP (And.intro (And.intro (And.intro (And.intro (And.intro trivial e2) e3) e3) e3) e3) .normal [(0, 0)] (poly_Has.c1q a0 a1 true)) (by kernel_rfl)))) (fun e3 =>
   Owp.bnd fun y4 e5 =>
    Owp.some (triple_way (poly_Has.cok k) hmix [.res (.one (.dp T2)) y1, .dec false, .dec false, .res (.one (.dp T4)) y4, .dec false, .dec false] [] [(0, 0)] (via (finP (And.intro (And.intro (And.intro (And.intro (And.intro trivial e2) e3) (And.intro e3 e5)) e3) e3) .normal [(0, 0)] (poly_Has.c1q a0 a1 (!y4))) (by kernel_rfl))))
noncomputable def poly_Has.c2p (a0 : (List V22)) (a1 : V22) (v9 : Int) : SL := ⟨[(0, (.val T24 a0)), (3, (.val .ptr ⟨0, 0, (0 : Int), 0, 0⟩)), (15, (.val T24 a0)), (16, (.val T2 (len a0))), (17, (.val T2 v9))], [(0, .cells T22 a1)]⟩
noncomputable def poly_Has.c2q (o : Unit ⊕ Unit) : SL := (fun o => two o (fun v => ⟨[(4, (.val T4 false))], []⟩) (fun v => ⟨[], []⟩)) o
noncomputable def poly_Has.c2x (o : Unit ⊕ Unit) : Ex := (fun o => two o (fun _ => .ret) (fun _ => (.exit 0))) o
noncomputable def poly_Has.c2n (o : Unit ⊕ Unit) : Nat := (fun o => two o (fun _ => 0) (fun _ => 0)) o
theorem poly_Has.c2_ok (k : Nat) (a0 : (List V22)) (a1 : V22) : ∀ (n : Nat) (v9 : Int), Owp (poly_Has.c2 k a0 a1 n v9) fun o => LTriple PR (poly_Has.cx k) (sub poly_Has.code [1, 1, 0, 1, 0, 0]) 1 (poly_Has.c2p a0 a1 v9) (poly_Has.c2x o) (poly_Has.c2n o) (poly_Has.c2q o)
  | 0, _ => fun _ h => nomatch h
  | n + 1, v9 => Owp.of (poly_Has.c2.eq_2 ..) (
   Owp.bif (fun e10 =>
   Owp.req fun h11 =>
    Owp.req fun h12 =>
    Owp.req fun h13 =>
    Owp.bnd fun y14 e15 =>
    Owp.bif (fun e16 =>
    Owp.some (loop_exit (poly_Has.cok k) hmix [.dec true, .res (.one (.dp T2)) y14, .dec true] [] [] exne_ret (via (finP (And.intro (And.intro (And.intro (And.intro (And.intro (And.intro trivial e10) h11) h12) h13) e15) e16) .ret [] (poly_Has.c2q (.inl ()))) (by kernel_rfl)))) (fun e16 =>
    fun y hy => loop_back (poly_Has.cok k) hmix 1 (poly_Has.c2p a0 a1 (iadd .i64 v9 (1 : Int))) [.dec true, .res (.one (.dp T2)) y14, .dec false] [] [(0, 0)] (via (finP (And.intro (And.intro (And.intro (And.intro (And.intro (And.intro trivial e10) h11) h12) h13) e15) e16) .normal [(0, 0)] (poly_Has.c2p a0 a1 (iadd .i64 v9 (1 : Int)))) (by kernel_rfl)) ((poly_Has.c2_ok k a0 a1 n (iadd .i64 v9 (1 : Int))).ap hy))) (fun e10 =>
   Owp.some (loop_exit (poly_Has.cok k) hmix [.dec false] [] [] (exne 0) (via (finP (And.intro trivial e10) (.exit 0) [] (poly_Has.c2q (.inr ()))) (by kernel_rfl)))))
theorem poly_Has.way (k : Nat) (a0 : (List V22)) (a1 : V22) : Owp (poly_Has k a0 a1) fun y => ∃ answers cmds, exec PR (poly_Has.cx k) poly_Has.code 0 (entry (.pair T24 (.pair T22 .unit)) (a0, a1, ())).st answers (Ret (poly_Has.cx k) Try.f174 cmds (.one (.dp T4)) y) := by
  unfold poly_Has; exact
   Owp.bnd fun o6 e7 =>
   Owp.bif (fun e8 =>
   Owp.some (⟨[.cutR 1 ⟨[], [(0, 0)], (poly_Has.c1p a0 a1), 1, .normal, (poly_Has.c1q a0 a1 o6), 1⟩, .dec true], [], via (cutP trivial [(0, 0)] (poly_Has.c1p a0 a1) (((poly_Has.c1_ok k a0 a1).ap e7)) (retP (And.intro trivial e8) (.one (.dp T4)) (false : Bool))) (by kernel_rfl)⟩)) (fun e8 =>
   Owp.bnd fun o17 e18 =>
    Owp.two (fun y19 e20 =>
    Owp.some (⟨[.cutR 1 ⟨[], [(0, 0)], (poly_Has.c1p a0 a1), 1, .normal, (poly_Has.c1q a0 a1 o6), 1⟩, .dec false, .cut ⟨[], [(0, 0)], (poly_Has.c2p a0 a1 (0 : Int)), 1, .ret, (poly_Has.c2q (.inl ())), 0⟩], [], via (cutP trivial [(0, 0)] (poly_Has.c1p a0 a1) (((poly_Has.c1_ok k a0 a1).ap e7)) (cutP (And.intro trivial e8) [(0, 0)] (poly_Has.c2p a0 a1 (0 : Int)) (((poly_Has.c2_ok k a0 a1 k (0 : Int)).ap (e18.trans (congrArg some e20))).triple) (retP trivial (.one (.dp T4)) (false : Bool)))) (by kernel_rfl)⟩)) (fun y21 e22 =>
    Owp.some (⟨[.cutR 1 ⟨[], [(0, 0)], (poly_Has.c1p a0 a1), 1, .normal, (poly_Has.c1q a0 a1 o6), 1⟩, .dec false, .cut ⟨[], [(0, 0)], (poly_Has.c2p a0 a1 (0 : Int)), 1, (.exit 0), (poly_Has.c2q (.inr ())), 0⟩], [], via (cutP trivial [(0, 0)] (poly_Has.c1p a0 a1) (((poly_Has.c1_ok k a0 a1).ap e7)) (cutP (And.intro trivial e8) [(0, 0)] (poly_Has.c2p a0 a1 (0 : Int)) (((poly_Has.c2_ok k a0 a1 k (0 : Int)).ap (e18.trans (congrArg some e22))).triple) (retP trivial (.one (.dp T4)) (true : Bool)))) (by kernel_rfl)⟩)))
theorem poly_Has.ok (k : Nat) : FnOk PR 174 (poly_Has.sp k) :=
  fn_ok (poly_Has.cok k) hmix Try.func174 (code := poly_Has.code) (by kernel_rfl) (by kernel_rfl) (by kernel_rfl) rfl (by kernel_rfl) (by kernel_rfl) (by kernel_rfl) (fun x => Nat.le_of_ble_eq_true (by kernel_rfl)) fun x y hy => (poly_Has.way k x.1 x.2.1).ap hy

/-! (tourney/tourref2.Big).Below -/
noncomputable def tourref2_Big_Below.code : Code := Func.cd Try.f179
def tourref2_Big_Below (k : Nat) (a0 : (List Int)) : Option Bool :=
  some (ieq (ishr .u32 (el 0 a0 7) 15) 1)
noncomputable def tourref2_Big_Below.sp (k : Nat) : Go.Sx.Spec := ⟨(.pair T134 .unit), (.one (.dp T4)), fun x => tourref2_Big_Below k x.1, false⟩
noncomputable def tourref2_Big_Below.cx (k : Nat) : Go.Sx.Ctx := ⟨tys, [], eqs, 7, false⟩
theorem tourref2_Big_Below.cok (k : Nat) : CtxOk PR (tourref2_Big_Below.cx k) := ctx_ok tysOk eqsOk FnsOk.nil
theorem tourref2_Big_Below.way (k : Nat) (a0 : (List Int)) : Owp (tourref2_Big_Below k a0) fun y => ∃ answers cmds, exec PR (tourref2_Big_Below.cx k) tourref2_Big_Below.code 0 (entry (.pair T134 .unit) (a0, ())).st answers (Ret (tourref2_Big_Below.cx k) Try.f179 cmds (.one (.dp T4)) y) := by
  unfold tourref2_Big_Below; exact
   Owp.some (⟨[], [], via (retP (And.intro (And.intro (And.intro trivial (by decide : inR (7 : Int) 8)) (by decide : inR (7 : Int) 8)) (by decide : ng (15 : Int))) (.one (.dp T4)) ((ieq (ishr .u32 (el (0 : Int) a0 (7 : Int)) (15 : Int)) (1 : Int)) : Bool)) (by kernel_rfl)⟩)
theorem tourref2_Big_Below.ok (k : Nat) : FnOk PR 179 (tourref2_Big_Below.sp k) :=
  fn_ok (tourref2_Big_Below.cok k) hmix Try.func179 (code := tourref2_Big_Below.code) (by kernel_rfl) (by kernel_rfl) (by kernel_rfl) rfl (by kernel_rfl) (by kernel_rfl) (by kernel_rfl) (fun x => Nat.le_of_ble_eq_true (by kernel_rfl)) fun x y hy => (tourref2_Big_Below.way k x.1).ap hy

/-! (tourney/tourref2.Big).Cmp -/
noncomputable def tourref2_Big_Cmp.code : Code := Func.cd Try.f126
def tourref2_Big_Cmp.c1 (k : Nat) (a0 : (List Int)) (a1 : (List Int)) : Nat → Int → Option (Int ⊕ Unit)
  | 0, _ => none
  | n + 1, v6 =>
   bif' (ige v6 0)
   (req (inR v6 8) <|
    bif' (ine (el 0 a0 v6) (el 0 a1 v6))
    (bif' (ilt (el 0 a0 v6) (el 0 a1 v6))
     (some (.inl (-1)))
     (some (.inl 1)))
    (tourref2_Big_Cmp.c1 k a0 a1 n (isub .i64 v6 1)))
   (some (.inr ()))
def tourref2_Big_Cmp (k : Nat) (a0 : (List Int)) (a1 : (List Int)) : Option Int :=
  bnd (tourref2_Big_Below k a0) fun y1 =>
  bnd (tourref2_Big_Below k a1) fun y3 =>
  bif' (Ty.eqb T4 y1 y3)
  (bnd (tourref2_Big_Cmp.c1 k a0 a1 k 7) fun o11 =>
   two o11 (fun y13 =>
   some y13) (fun y15 =>
   some 0))
  (bnd (tourref2_Big_Below k a0) fun y17 =>
   bif' y17
   (some (-1))
   (some 1))
noncomputable def tourref2_Big_Cmp.sp (k : Nat) : Go.Sx.Spec := ⟨(.pair T134 (.pair T134 .unit)), (.one (.dp T2)), fun x => tourref2_Big_Cmp k x.1 x.2.1, false⟩
noncomputable def tourref2_Big_Cmp.cx (k : Nat) : Go.Sx.Ctx := ⟨tys, [(179, tourref2_Big_Below.sp k)], eqs, 31, false⟩
theorem tourref2_Big_Cmp.cok (k : Nat) : CtxOk PR (tourref2_Big_Cmp.cx k) := ctx_ok tysOk eqsOk (FnsOk.cons (tourref2_Big_Below.ok k) FnsOk.nil)
noncomputable def tourref2_Big_Cmp.c1p (a0 : (List Int)) (a1 : (List Int)) (v6 : Int) : SL := ⟨[(2, (.val .ptr ⟨0, 0, (0 : Int), 0, 0⟩)), (3, (.val .ptr ⟨1, 0, (0 : Int), 0, 0⟩)), (5, (.val T2 v6))], [(0, .cells T134 a0), (1, .cells T134 a1)]⟩
noncomputable def tourref2_Big_Cmp.c1q (o : Int ⊕ Unit) : SL := (fun o => two o (fun v => ⟨[(4, (.val T2 v))], []⟩) (fun v => ⟨[], []⟩)) o
noncomputable def tourref2_Big_Cmp.c1x (o : Int ⊕ Unit) : Ex := (fun o => two o (fun _ => .ret) (fun _ => (.exit 0))) o
noncomputable def tourref2_Big_Cmp.c1n (o : Int ⊕ Unit) : Nat := (fun o => two o (fun _ => 0) (fun _ => 0)) o
theorem tourref2_Big_Cmp.c1_ok (k : Nat) (a0 : (List Int)) (a1 : (List Int)) : ∀ (n : Nat) (v6 : Int), Owp (tourref2_Big_Cmp.c1 k a0 a1 n v6) fun o => LTriple PR (tourref2_Big_Cmp.cx k) (sub tourref2_Big_Cmp.code [1, 1, 0, 1, 0, 0]) 2 (tourref2_Big_Cmp.c1p a0 a1 v6) (tourref2_Big_Cmp.c1x o) (tourref2_Big_Cmp.c1n o) (tourref2_Big_Cmp.c1q o)
  | 0, _ => fun _ h => nomatch h
  | n + 1, v6 => Owp.of (tourref2_Big_Cmp.c1.eq_2 ..) (
   Owp.bif (fun e7 =>
   Owp.req fun h8 =>
    Owp.bif (fun e9 =>
    Owp.bif (fun e10 =>
     Owp.some (loop_exit (tourref2_Big_Cmp.cok k) hmix [.dec true, .dec true, .dec true] [] [] exne_ret (via (finP (And.intro (And.intro (And.intro (And.intro (And.intro (And.intro (And.intro (And.intro (And.intro (And.intro (And.intro trivial e7) h8) h8) h8) h8) e9) h8) h8) h8) h8) e10) .ret [] (tourref2_Big_Cmp.c1q (.inl (-1 : Int)))) (by kernel_rfl)))) (fun e10 =>
     Owp.some (loop_exit (tourref2_Big_Cmp.cok k) hmix [.dec true, .dec true, .dec false] [] [] exne_ret (via (finP (And.intro (And.intro (And.intro (And.intro (And.intro (And.intro (And.intro (And.intro (And.intro (And.intro (And.intro trivial e7) h8) h8) h8) h8) e9) h8) h8) h8) h8) e10) .ret [] (tourref2_Big_Cmp.c1q (.inl (1 : Int)))) (by kernel_rfl))))) (fun e9 =>
    fun y hy => loop_back (tourref2_Big_Cmp.cok k) hmix 2 (tourref2_Big_Cmp.c1p a0 a1 (isub .i64 v6 (1 : Int))) [.dec true, .dec false] [] [(0, 0), (1, 1)] (via (finP (And.intro (And.intro (And.intro (And.intro (And.intro (And.intro trivial e7) h8) h8) h8) h8) e9) .normal [(0, 0), (1, 1)] (tourref2_Big_Cmp.c1p a0 a1 (isub .i64 v6 (1 : Int)))) (by kernel_rfl)) ((tourref2_Big_Cmp.c1_ok k a0 a1 n (isub .i64 v6 (1 : Int))).ap hy))) (fun e7 =>
   Owp.some (loop_exit (tourref2_Big_Cmp.cok k) hmix [.dec false] [] [] (exne 0) (via (finP (And.intro trivial e7) (.exit 0) [] (tourref2_Big_Cmp.c1q (.inr ()))) (by kernel_rfl)))))
theorem tourref2_Big_Cmp.way (k : Nat) (a0 : (List Int)) (a1 : (List Int)) : Owp (tourref2_Big_Cmp k a0 a1) fun y => ∃ answers cmds, exec PR (tourref2_Big_Cmp.cx k) tourref2_Big_Cmp.code 0 (entry (.pair T134 (.pair T134 .unit)) (a0, a1, ())).st answers (Ret (tourref2_Big_Cmp.cx k) Try.f126 cmds (.one (.dp T2)) y) := by
  unfold tourref2_Big_Cmp; exact
   Owp.bnd fun y1 e2 =>
   Owp.bnd fun y3 e4 =>
   Owp.bif (fun e5 =>
   Owp.bnd fun o11 e12 =>
    Owp.two (fun y13 e14 =>
    Owp.some (⟨[.res (.one (.dp T4)) y1, .res (.one (.dp T4)) y3, .dec false, .cut ⟨[], [(0, 0), (1, 1)], (tourref2_Big_Cmp.c1p a0 a1 (7 : Int)), 2, .ret, (tourref2_Big_Cmp.c1q (.inl y13)), 0⟩], [], via (cutP (And.intro (And.intro (And.intro trivial e2) e4) (congrArg not e5)) [(0, 0), (1, 1)] (tourref2_Big_Cmp.c1p a0 a1 (7 : Int)) (((tourref2_Big_Cmp.c1_ok k a0 a1 k (7 : Int)).ap (e12.trans (congrArg some e14))).triple) (retP trivial (.one (.dp T2)) (y13 : Int))) (by kernel_rfl)⟩)) (fun y15 e16 =>
    Owp.some (⟨[.res (.one (.dp T4)) y1, .res (.one (.dp T4)) y3, .dec false, .cut ⟨[], [(0, 0), (1, 1)], (tourref2_Big_Cmp.c1p a0 a1 (7 : Int)), 2, (.exit 0), (tourref2_Big_Cmp.c1q (.inr ())), 0⟩], [], via (cutP (And.intro (And.intro (And.intro trivial e2) e4) (congrArg not e5)) [(0, 0), (1, 1)] (tourref2_Big_Cmp.c1p a0 a1 (7 : Int)) (((tourref2_Big_Cmp.c1_ok k a0 a1 k (7 : Int)).ap (e12.trans (congrArg some e16))).triple) (retP trivial (.one (.dp T2)) ((0 : Int) : Int))) (by kernel_rfl)⟩))) (fun e5 =>
   Owp.bnd fun y17 e18 =>
    Owp.bif (fun e19 =>
    Owp.some (⟨[.res (.one (.dp T4)) y1, .res (.one (.dp T4)) y3, .dec true, .res (.one (.dp T4)) y17, .dec true], [], via (retP (And.intro (And.intro (And.intro (And.intro (And.intro trivial e2) e4) (congrArg not e5)) e18) e19) (.one (.dp T2)) ((-1 : Int) : Int)) (by kernel_rfl)⟩)) (fun e19 =>
    Owp.some (⟨[.res (.one (.dp T4)) y1, .res (.one (.dp T4)) y3, .dec true, .res (.one (.dp T4)) y17, .dec false], [], via (retP (And.intro (And.intro (And.intro (And.intro (And.intro trivial e2) e4) (congrArg not e5)) e18) e19) (.one (.dp T2)) ((1 : Int) : Int)) (by kernel_rfl)⟩)))
theorem tourref2_Big_Cmp.ok (k : Nat) : FnOk PR 126 (tourref2_Big_Cmp.sp k) :=
  fn_ok (tourref2_Big_Cmp.cok k) hmix Try.func126 (code := tourref2_Big_Cmp.code) (by kernel_rfl) (by kernel_rfl) (by kernel_rfl) rfl (by kernel_rfl) (by kernel_rfl) (by kernel_rfl) (fun x => Nat.le_of_ble_eq_true (by kernel_rfl)) fun x y hy => (tourref2_Big_Cmp.way k x.1 x.2.1).ap hy

/-! tourney/tourref2.Of -/
noncomputable def tourref2_Of.code : Code := Func.cd Try.f159
def tourref2_Of.c1 (k : Nat) (a0 : Int) : Nat → Int → (List Int) → Option ((List Int))
  | 0, _, _ => none
  | n + 1, v1, v2 =>
   bif' (ilt v1 8)
   (bif' (ilt v1 4)
    (req (ng (imul .i64 16 v1)) <|
     req (inR v1 8) <|
     tourref2_Of.c1 k a0 n (iadd .i64 v1 1) (st v2 v1 (icv .u32 (ibits .and .u64 (ishr .u64 (icv .u64 a0) (imul .i64 16 v1)) 65535))))
    (bif' (ilt a0 0)
     (req (inR v1 8) <|
      tourref2_Of.c1 k a0 n (iadd .i64 v1 1) (st v2 v1 65535))
     (tourref2_Of.c1 k a0 n (iadd .i64 v1 1) v2)))
   (some v2)
def tourref2_Of (k : Nat) (a0 : Int) : Option (List Int) :=
  bnd (tourref2_Of.c1 k a0 k 0 (List.replicate 8 0)) fun o9 =>
  some o9
noncomputable def tourref2_Of.sp (k : Nat) : Go.Sx.Spec := ⟨(.pair T2 .unit), (.one (.dp T134)), fun x => tourref2_Of k x.1, false⟩
noncomputable def tourref2_Of.cx (k : Nat) : Go.Sx.Ctx := ⟨tys, [], eqs, 27, false⟩
theorem tourref2_Of.cok (k : Nat) : CtxOk PR (tourref2_Of.cx k) := ctx_ok tysOk eqsOk FnsOk.nil
noncomputable def tourref2_Of.c1p (a0 : Int) (v1 : Int) (v2 : (List Int)) : SL := ⟨[(0, (.val T2 a0)), (2, (.val .ptr ⟨0, 0, (0 : Int), 0, 0⟩)), (3, (.val .ptr ⟨1, 0, (0 : Int), 0, 0⟩)), (4, (.val T12 (icv .u64 a0))), (8, (.val T2 v1))], [(0, .cells T134 (List.replicate 8 (0 : Int))), (1, .cells T134 v2)]⟩
noncomputable def tourref2_Of.c1q (o : (List Int)) : SL := (fun v => ⟨[(2, (.val .ptr ⟨0, 0, (0 : Int), 0, 0⟩)), (3, (.val .ptr ⟨1, 0, (0 : Int), 0, 0⟩))], [(0, .cells T134 (List.replicate 8 (0 : Int))), (1, .cells T134 v)]⟩) o
noncomputable def tourref2_Of.c1x (o : (List Int)) : Ex := (fun _ => (.exit 0)) o
noncomputable def tourref2_Of.c1n (o : (List Int)) : Nat := (fun _ => 2) o
theorem tourref2_Of.c1_ok (k : Nat) (a0 : Int) : ∀ (n : Nat) (v1 : Int) (v2 : (List Int)), Owp (tourref2_Of.c1 k a0 n v1 v2) fun o => LTriple PR (tourref2_Of.cx k) (sub tourref2_Of.code [1, 1, 1, 0, 1, 0, 0]) 2 (tourref2_Of.c1p a0 v1 v2) (tourref2_Of.c1x o) (tourref2_Of.c1n o) (tourref2_Of.c1q o)
  | 0, _, _ => fun _ h => nomatch h
  | n + 1, v1, v2 => Owp.of (tourref2_Of.c1.eq_2 ..) (
   Owp.bif (fun e3 =>
   Owp.bif (fun e4 =>
    Owp.req fun h5 =>
     Owp.req fun h6 =>
     fun y hy => loop_back (tourref2_Of.cok k) hmix 2 (tourref2_Of.c1p a0 (iadd .i64 v1 (1 : Int)) (st v2 v1 (icv .u32 (ibits .and .u64 (ishr .u64 (icv .u64 a0) (imul .i64 (16 : Int) v1)) (65535 : Int))))) [.dec true, .dec true] [] [(0, 0), (1, 1)] (via (finP (And.intro (And.intro (And.intro (And.intro (And.intro trivial e3) e4) h5) h6) h6) .normal [(0, 0), (1, 1)] (tourref2_Of.c1p a0 (iadd .i64 v1 (1 : Int)) (st v2 v1 (icv .u32 (ibits .and .u64 (ishr .u64 (icv .u64 a0) (imul .i64 (16 : Int) v1)) (65535 : Int)))))) (by kernel_rfl)) ((tourref2_Of.c1_ok k a0 n (iadd .i64 v1 (1 : Int)) (st v2 v1 (icv .u32 (ibits .and .u64 (ishr .u64 (icv .u64 a0) (imul .i64 (16 : Int) v1)) (65535 : Int))))).ap hy)) (fun e4 =>
    Owp.bif (fun e7 =>
     Owp.req fun h8 =>
      fun y hy => loop_back (tourref2_Of.cok k) hmix 2 (tourref2_Of.c1p a0 (iadd .i64 v1 (1 : Int)) (st v2 v1 (65535 : Int))) [.dec true, .dec false, .dec true] [] [(0, 0), (1, 1)] (via (finP (And.intro (And.intro (And.intro (And.intro (And.intro trivial e3) e4) e7) h8) h8) .normal [(0, 0), (1, 1)] (tourref2_Of.c1p a0 (iadd .i64 v1 (1 : Int)) (st v2 v1 (65535 : Int)))) (by kernel_rfl)) ((tourref2_Of.c1_ok k a0 n (iadd .i64 v1 (1 : Int)) (st v2 v1 (65535 : Int))).ap hy)) (fun e7 =>
     fun y hy => loop_back (tourref2_Of.cok k) hmix 2 (tourref2_Of.c1p a0 (iadd .i64 v1 (1 : Int)) v2) [.dec true, .dec false, .dec false] [] [(0, 0), (1, 1)] (via (finP (And.intro (And.intro (And.intro trivial e3) e4) e7) .normal [(0, 0), (1, 1)] (tourref2_Of.c1p a0 (iadd .i64 v1 (1 : Int)) v2)) (by kernel_rfl)) ((tourref2_Of.c1_ok k a0 n (iadd .i64 v1 (1 : Int)) v2).ap hy)))) (fun e3 =>
   Owp.some (loop_exit (tourref2_Of.cok k) hmix [.dec false] [] [(0, 0), (1, 1)] (exne 0) (via (finP (And.intro trivial e3) (.exit 0) [(0, 0), (1, 1)] (tourref2_Of.c1q v2)) (by kernel_rfl)))))
theorem tourref2_Of.way (k : Nat) (a0 : Int) : Owp (tourref2_Of k a0) fun y => ∃ answers cmds, exec PR (tourref2_Of.cx k) tourref2_Of.code 0 (entry (.pair T2 .unit) (a0, ())).st answers (Ret (tourref2_Of.cx k) Try.f159 cmds (.one (.dp T134)) y) := by
  unfold tourref2_Of; exact
   Owp.bnd fun o9 e10 =>
   Owp.some (⟨[.cut ⟨[], [(0, 0), (1, 1)], (tourref2_Of.c1p a0 (0 : Int) (List.replicate 8 (0 : Int))), 2, (.exit 0), (tourref2_Of.c1q o9), 2⟩], [], via (cutP trivial [(0, 0), (1, 1)] (tourref2_Of.c1p a0 (0 : Int) (List.replicate 8 (0 : Int))) (((tourref2_Of.c1_ok k a0 k (0 : Int) (List.replicate 8 (0 : Int))).ap e10).triple) (retP trivial (.one (.dp T134)) (o9 : (List Int)))) (by kernel_rfl)⟩)
theorem tourref2_Of.ok (k : Nat) : FnOk PR 159 (tourref2_Of.sp k) :=
  fn_ok (tourref2_Of.cok k) hmix Try.func159 (code := tourref2_Of.code) (by kernel_rfl) (by kernel_rfl) (by kernel_rfl) rfl (by kernel_rfl) (by kernel_rfl) (by kernel_rfl) (fun x => Nat.le_of_ble_eq_true (by kernel_rfl)) fun x y hy => (tourref2_Of.way k x.1).ap hy

/-! (tourney/tourref2.Big).Add -/
noncomputable def tourref2_Big_Add.code : Code := Func.cd Try.f178
def tourref2_Big_Add.c1 (k : Nat) (a0 : (List Int)) (a1 : (List Int)) : Nat → Int → Int → (List Int) → Option ((List Int))
  | 0, _, _, _ => none
  | n + 1, v1, v2, v3 =>
   bif' (ilt v2 8)
   (req (inR v2 8) <|
    tourref2_Big_Add.c1 k a0 a1 n (ishr .u32 (iadd .u32 v1 (iadd .u32 (el 0 a0 v2) (el 0 a1 v2))) 16) (iadd .i64 v2 1) (st v3 v2 (ibits .and .u32 (iadd .u32 v1 (iadd .u32 (el 0 a0 v2) (el 0 a1 v2))) 65535)))
   (some v3)
def tourref2_Big_Add (k : Nat) (a0 : (List Int)) (a1 : (List Int)) : Option (List Int) :=
  bnd (tourref2_Big_Add.c1 k a0 a1 k 0 0 (List.replicate 8 0)) fun o6 =>
  some o6
noncomputable def tourref2_Big_Add.sp (k : Nat) : Go.Sx.Spec := ⟨(.pair T134 (.pair T134 .unit)), (.one (.dp T134)), fun x => tourref2_Big_Add k x.1 x.2.1, false⟩
noncomputable def tourref2_Big_Add.cx (k : Nat) : Go.Sx.Ctx := ⟨tys, [], eqs, 28, false⟩
theorem tourref2_Big_Add.cok (k : Nat) : CtxOk PR (tourref2_Big_Add.cx k) := ctx_ok tysOk eqsOk FnsOk.nil
noncomputable def tourref2_Big_Add.c1p (a0 : (List Int)) (a1 : (List Int)) (v1 : Int) (v2 : Int) (v3 : (List Int)) : SL := ⟨[(2, (.val .ptr ⟨0, 0, (0 : Int), 0, 0⟩)), (3, (.val .ptr ⟨1, 0, (0 : Int), 0, 0⟩)), (4, (.val .ptr ⟨2, 0, (0 : Int), 0, 0⟩)), (5, (.val .ptr ⟨3, 0, (0 : Int), 0, 0⟩)), (6, (.val T133 v1)), (8, (.val T2 v2))], [(0, .cells T134 a0), (1, .cells T134 a1), (2, .cells T134 (List.replicate 8 (0 : Int))), (3, .cells T134 v3)]⟩
noncomputable def tourref2_Big_Add.c1q (o : (List Int)) : SL := (fun v => ⟨[(4, (.val .ptr ⟨0, 0, (0 : Int), 0, 0⟩)), (5, (.val .ptr ⟨1, 0, (0 : Int), 0, 0⟩))], [(0, .cells T134 (List.replicate 8 (0 : Int))), (1, .cells T134 v)]⟩) o
noncomputable def tourref2_Big_Add.c1x (o : (List Int)) : Ex := (fun _ => (.exit 0)) o
noncomputable def tourref2_Big_Add.c1n (o : (List Int)) : Nat := (fun _ => 2) o
theorem tourref2_Big_Add.c1_ok (k : Nat) (a0 : (List Int)) (a1 : (List Int)) : ∀ (n : Nat) (v1 : Int) (v2 : Int) (v3 : (List Int)), Owp (tourref2_Big_Add.c1 k a0 a1 n v1 v2 v3) fun o => LTriple PR (tourref2_Big_Add.cx k) (sub tourref2_Big_Add.code [1, 1, 1, 0, 1, 0, 0]) 4 (tourref2_Big_Add.c1p a0 a1 v1 v2 v3) (tourref2_Big_Add.c1x o) (tourref2_Big_Add.c1n o) (tourref2_Big_Add.c1q o)
  | 0, _, _, _ => fun _ h => nomatch h
  | n + 1, v1, v2, v3 => Owp.of (tourref2_Big_Add.c1.eq_2 ..) (
   Owp.bif (fun e4 =>
   Owp.req fun h5 =>
    fun y hy => loop_back (tourref2_Big_Add.cok k) hmix 4 (tourref2_Big_Add.c1p a0 a1 (ishr .u32 (iadd .u32 v1 (iadd .u32 (el (0 : Int) a0 v2) (el (0 : Int) a1 v2))) (16 : Int)) (iadd .i64 v2 (1 : Int)) (st v3 v2 (ibits .and .u32 (iadd .u32 v1 (iadd .u32 (el (0 : Int) a0 v2) (el (0 : Int) a1 v2))) (65535 : Int)))) [.dec true] [] [(0, 0), (1, 1), (2, 2), (3, 3)] (via (finP (And.intro (And.intro (And.intro (And.intro (And.intro (And.intro (And.intro (And.intro trivial e4) h5) h5) h5) h5) (by decide : ng (16 : Int))) h5) h5) .normal [(0, 0), (1, 1), (2, 2), (3, 3)] (tourref2_Big_Add.c1p a0 a1 (ishr .u32 (iadd .u32 v1 (iadd .u32 (el (0 : Int) a0 v2) (el (0 : Int) a1 v2))) (16 : Int)) (iadd .i64 v2 (1 : Int)) (st v3 v2 (ibits .and .u32 (iadd .u32 v1 (iadd .u32 (el (0 : Int) a0 v2) (el (0 : Int) a1 v2))) (65535 : Int))))) (by kernel_rfl)) ((tourref2_Big_Add.c1_ok k a0 a1 n (ishr .u32 (iadd .u32 v1 (iadd .u32 (el (0 : Int) a0 v2) (el (0 : Int) a1 v2))) (16 : Int)) (iadd .i64 v2 (1 : Int)) (st v3 v2 (ibits .and .u32 (iadd .u32 v1 (iadd .u32 (el (0 : Int) a0 v2) (el (0 : Int) a1 v2))) (65535 : Int)))).ap hy)) (fun e4 =>
   Owp.some (loop_exit (tourref2_Big_Add.cok k) hmix [.dec false] [] [(0, 2), (1, 3)] (exne 0) (via (finP (And.intro trivial e4) (.exit 0) [(0, 2), (1, 3)] (tourref2_Big_Add.c1q v3)) (by kernel_rfl)))))
theorem tourref2_Big_Add.way (k : Nat) (a0 : (List Int)) (a1 : (List Int)) : Owp (tourref2_Big_Add k a0 a1) fun y => ∃ answers cmds, exec PR (tourref2_Big_Add.cx k) tourref2_Big_Add.code 0 (entry (.pair T134 (.pair T134 .unit)) (a0, a1, ())).st answers (Ret (tourref2_Big_Add.cx k) Try.f178 cmds (.one (.dp T134)) y) := by
  unfold tourref2_Big_Add; exact
   Owp.bnd fun o6 e7 =>
   Owp.some (⟨[.cut ⟨[], [(0, 0), (1, 1), (2, 2), (3, 3)], (tourref2_Big_Add.c1p a0 a1 (0 : Int) (0 : Int) (List.replicate 8 (0 : Int))), 4, (.exit 0), (tourref2_Big_Add.c1q o6), 2⟩], [], via (cutP trivial [(0, 0), (1, 1), (2, 2), (3, 3)] (tourref2_Big_Add.c1p a0 a1 (0 : Int) (0 : Int) (List.replicate 8 (0 : Int))) (((tourref2_Big_Add.c1_ok k a0 a1 k (0 : Int) (0 : Int) (List.replicate 8 (0 : Int))).ap e7).triple) (retP trivial (.one (.dp T134)) (o6 : (List Int)))) (by kernel_rfl)⟩)
theorem tourref2_Big_Add.ok (k : Nat) : FnOk PR 178 (tourref2_Big_Add.sp k) :=
  fn_ok (tourref2_Big_Add.cok k) hmix Try.func178 (code := tourref2_Big_Add.code) (by kernel_rfl) (by kernel_rfl) (by kernel_rfl) rfl (by kernel_rfl) (by kernel_rfl) (by kernel_rfl) (fun x => Nat.le_of_ble_eq_true (by kernel_rfl)) fun x y hy => (tourref2_Big_Add.way k x.1 x.2.1).ap hy

/-! (tourney/tourref2.Big).Neg -/
noncomputable def tourref2_Big_Neg.code : Code := Func.cd Try.f180
def tourref2_Big_Neg.c1 (k : Nat) : Nat → Int → (List Int) → Option ((List Int))
  | 0, _, _ => none
  | n + 1, v1, v2 =>
   bif' (ilt v1 8)
   (req (inR v1 8) <|
    tourref2_Big_Neg.c1 k n (iadd .i64 v1 1) (st v2 v1 (ibits .xor .u32 (el 0 v2 v1) 65535)))
   (some v2)
def tourref2_Big_Neg (k : Nat) (a0 : (List Int)) : Option (List Int) :=
  bnd (tourref2_Big_Neg.c1 k k 0 a0) fun o5 =>
  bnd (tourref2_Of k 1) fun y7 =>
  bnd (tourref2_Big_Add k o5 y7) fun y9 =>
  some y9
noncomputable def tourref2_Big_Neg.sp (k : Nat) : Go.Sx.Spec := ⟨(.pair T134 .unit), (.one (.dp T134)), fun x => tourref2_Big_Neg k x.1, false⟩
noncomputable def tourref2_Big_Neg.cx (k : Nat) : Go.Sx.Ctx := ⟨tys, [(159, tourref2_Of.sp k), (178, tourref2_Big_Add.sp k)], eqs, 16, false⟩
theorem tourref2_Big_Neg.cok (k : Nat) : CtxOk PR (tourref2_Big_Neg.cx k) := ctx_ok tysOk eqsOk (FnsOk.cons (tourref2_Of.ok k) (FnsOk.cons (tourref2_Big_Add.ok k) FnsOk.nil))
noncomputable def tourref2_Big_Neg.c1p (v1 : Int) (v2 : (List Int)) : SL := ⟨[(1, (.val .ptr ⟨0, 0, (0 : Int), 0, 0⟩)), (2, (.val .ptr ⟨1, 0, (0 : Int), 0, 0⟩)), (4, (.val T2 v1))], [(0, .cells T134 v2), (1, .cells T134 (List.replicate 8 (0 : Int)))]⟩
noncomputable def tourref2_Big_Neg.c1q (o : (List Int)) : SL := (fun v => ⟨[(1, (.val .ptr ⟨0, 0, (0 : Int), 0, 0⟩)), (2, (.val .ptr ⟨1, 0, (0 : Int), 0, 0⟩))], [(0, .cells T134 v), (1, .cells T134 (List.replicate 8 (0 : Int)))]⟩) o
noncomputable def tourref2_Big_Neg.c1x (o : (List Int)) : Ex := (fun _ => (.exit 0)) o
noncomputable def tourref2_Big_Neg.c1n (o : (List Int)) : Nat := (fun _ => 2) o
theorem tourref2_Big_Neg.c1_ok (k : Nat) : ∀ (n : Nat) (v1 : Int) (v2 : (List Int)), Owp (tourref2_Big_Neg.c1 k n v1 v2) fun o => LTriple PR (tourref2_Big_Neg.cx k) (sub tourref2_Big_Neg.code [1, 0, 1, 0, 0]) 2 (tourref2_Big_Neg.c1p v1 v2) (tourref2_Big_Neg.c1x o) (tourref2_Big_Neg.c1n o) (tourref2_Big_Neg.c1q o)
  | 0, _, _ => fun _ h => nomatch h
  | n + 1, v1, v2 => Owp.of (tourref2_Big_Neg.c1.eq_2 ..) (
   Owp.bif (fun e3 =>
   Owp.req fun h4 =>
    fun y hy => loop_back (tourref2_Big_Neg.cok k) hmix 2 (tourref2_Big_Neg.c1p (iadd .i64 v1 (1 : Int)) (st v2 v1 (ibits .xor .u32 (el (0 : Int) v2 v1) (65535 : Int)))) [.dec true] [] [(0, 0), (1, 1)] (via (finP (And.intro (And.intro (And.intro (And.intro (And.intro trivial e3) h4) h4) h4) h4) .normal [(0, 0), (1, 1)] (tourref2_Big_Neg.c1p (iadd .i64 v1 (1 : Int)) (st v2 v1 (ibits .xor .u32 (el (0 : Int) v2 v1) (65535 : Int))))) (by kernel_rfl)) ((tourref2_Big_Neg.c1_ok k n (iadd .i64 v1 (1 : Int)) (st v2 v1 (ibits .xor .u32 (el (0 : Int) v2 v1) (65535 : Int)))).ap hy)) (fun e3 =>
   Owp.some (loop_exit (tourref2_Big_Neg.cok k) hmix [.dec false] [] [(0, 0), (1, 1)] (exne 0) (via (finP (And.intro trivial e3) (.exit 0) [(0, 0), (1, 1)] (tourref2_Big_Neg.c1q v2)) (by kernel_rfl)))))
theorem tourref2_Big_Neg.way (k : Nat) (a0 : (List Int)) : Owp (tourref2_Big_Neg k a0) fun y => ∃ answers cmds, exec PR (tourref2_Big_Neg.cx k) tourref2_Big_Neg.code 0 (entry (.pair T134 .unit) (a0, ())).st answers (Ret (tourref2_Big_Neg.cx k) Try.f180 cmds (.one (.dp T134)) y) := by
  unfold tourref2_Big_Neg; exact
   Owp.bnd fun o5 e6 =>
   Owp.bnd fun y7 e8 =>
   Owp.bnd fun y9 e10 =>
   Owp.some (⟨[.cut ⟨[], [(0, 0), (1, 1)], (tourref2_Big_Neg.c1p (0 : Int) a0), 2, (.exit 0), (tourref2_Big_Neg.c1q o5), 2⟩, .res (.one (.dp T134)) y7, .res (.one (.dp T134)) y9], [], via (cutP trivial [(0, 0), (1, 1)] (tourref2_Big_Neg.c1p (0 : Int) a0) (((tourref2_Big_Neg.c1_ok k k (0 : Int) a0).ap e6).triple) (retP (And.intro (And.intro trivial e8) e10) (.one (.dp T134)) (y9 : (List Int)))) (by kernel_rfl)⟩)
theorem tourref2_Big_Neg.ok (k : Nat) : FnOk PR 180 (tourref2_Big_Neg.sp k) :=
  fn_ok (tourref2_Big_Neg.cok k) hmix Try.func180 (code := tourref2_Big_Neg.code) (by kernel_rfl) (by kernel_rfl) (by kernel_rfl) rfl (by kernel_rfl) (by kernel_rfl) (by kernel_rfl) (fun x => Nat.le_of_ble_eq_true (by kernel_rfl)) fun x y hy => (tourref2_Big_Neg.way k x.1).ap hy

/-! (tourney/tourref2.Big).twice -/
noncomputable def tourref2_Big_twice.code : Code := Func.cd Try.f197
def tourref2_Big_twice (k : Nat) (a0 : (List Int)) : Option (List Int) :=
  bnd (tourref2_Big_Add k a0 a0) fun y1 =>
  some y1
noncomputable def tourref2_Big_twice.sp (k : Nat) : Go.Sx.Spec := ⟨(.pair T134 .unit), (.one (.dp T134)), fun x => tourref2_Big_twice k x.1, false⟩
noncomputable def tourref2_Big_twice.cx (k : Nat) : Go.Sx.Ctx := ⟨tys, [(178, tourref2_Big_Add.sp k)], eqs, 6, false⟩
theorem tourref2_Big_twice.cok (k : Nat) : CtxOk PR (tourref2_Big_twice.cx k) := ctx_ok tysOk eqsOk (FnsOk.cons (tourref2_Big_Add.ok k) FnsOk.nil)
theorem tourref2_Big_twice.way (k : Nat) (a0 : (List Int)) : Owp (tourref2_Big_twice k a0) fun y => ∃ answers cmds, exec PR (tourref2_Big_twice.cx k) tourref2_Big_twice.code 0 (entry (.pair T134 .unit) (a0, ())).st answers (Ret (tourref2_Big_twice.cx k) Try.f197 cmds (.one (.dp T134)) y) := by
  unfold tourref2_Big_twice; exact
   Owp.bnd fun y1 e2 =>
   Owp.some (⟨[.res (.one (.dp T134)) y1], [], via (retP (And.intro trivial e2) (.one (.dp T134)) (y1 : (List Int))) (by kernel_rfl)⟩)
theorem tourref2_Big_twice.ok (k : Nat) : FnOk PR 197 (tourref2_Big_twice.sp k) :=
  fn_ok (tourref2_Big_twice.cok k) hmix Try.func197 (code := tourref2_Big_twice.code) (by kernel_rfl) (by kernel_rfl) (by kernel_rfl) rfl (by kernel_rfl) (by kernel_rfl) (by kernel_rfl) (fun x => Nat.le_of_ble_eq_true (by kernel_rfl)) fun x y hy => (tourref2_Big_twice.way k x.1).ap hy

/-! (tourney/tourref2.Big).Sub -/
noncomputable def tourref2_Big_Sub.code : Code := Func.cd Try.f189
def tourref2_Big_Sub (k : Nat) (a0 : (List Int)) (a1 : (List Int)) : Option (List Int) :=
  bnd (tourref2_Big_Neg k a1) fun y1 =>
  bnd (tourref2_Big_Add k a0 y1) fun y3 =>
  some y3
noncomputable def tourref2_Big_Sub.sp (k : Nat) : Go.Sx.Spec := ⟨(.pair T134 (.pair T134 .unit)), (.one (.dp T134)), fun x => tourref2_Big_Sub k x.1 x.2.1, false⟩
noncomputable def tourref2_Big_Sub.cx (k : Nat) : Go.Sx.Ctx := ⟨tys, [(180, tourref2_Big_Neg.sp k), (178, tourref2_Big_Add.sp k)], eqs, 9, false⟩
theorem tourref2_Big_Sub.cok (k : Nat) : CtxOk PR (tourref2_Big_Sub.cx k) := ctx_ok tysOk eqsOk (FnsOk.cons (tourref2_Big_Neg.ok k) (FnsOk.cons (tourref2_Big_Add.ok k) FnsOk.nil))
theorem tourref2_Big_Sub.way (k : Nat) (a0 : (List Int)) (a1 : (List Int)) : Owp (tourref2_Big_Sub k a0 a1) fun y => ∃ answers cmds, exec PR (tourref2_Big_Sub.cx k) tourref2_Big_Sub.code 0 (entry (.pair T134 (.pair T134 .unit)) (a0, a1, ())).st answers (Ret (tourref2_Big_Sub.cx k) Try.f189 cmds (.one (.dp T134)) y) := by
  unfold tourref2_Big_Sub; exact
   Owp.bnd fun y1 e2 =>
   Owp.bnd fun y3 e4 =>
   Owp.some (⟨[.res (.one (.dp T134)) y1, .res (.one (.dp T134)) y3], [], via (retP (And.intro (And.intro trivial e2) e4) (.one (.dp T134)) (y3 : (List Int))) (by kernel_rfl)⟩)
theorem tourref2_Big_Sub.ok (k : Nat) : FnOk PR 189 (tourref2_Big_Sub.sp k) :=
  fn_ok (tourref2_Big_Sub.cok k) hmix Try.func189 (code := tourref2_Big_Sub.code) (by kernel_rfl) (by kernel_rfl) (by kernel_rfl) rfl (by kernel_rfl) (by kernel_rfl) (by kernel_rfl) (fun x => Nat.le_of_ble_eq_true (by kernel_rfl)) fun x y hy => (tourref2_Big_Sub.way k x.1 x.2.1).ap hy

/-! (tourney/tourref2.Big).Wide -/
noncomputable def tourref2_Big_Wide.code : Code := Func.cd Try.f190
def tourref2_Big_Wide.c1 (k : Nat) (a0 : (List Int)) : Nat → Int → Int → Int → Option ((Int × Int))
  | 0, _, _, _ => none
  | n + 1, v1, v2, v3 =>
   bif' (ilt v3 4)
   (req (inR v3 8) <|
    req (ng (imul .i64 16 v3)) <|
    req (inR (iadd .i64 4 v3) 8) <|
    tourref2_Big_Wide.c1 k a0 n (ibits .or .u64 v1 (ishl .u64 (icv .u64 (el 0 a0 v3)) (imul .i64 16 v3))) (ibits .or .u64 v2 (ishl .u64 (icv .u64 (el 0 a0 (iadd .i64 4 v3))) (imul .i64 16 v3))) (iadd .i64 v3 1))
   (some (v1, v2))
def tourref2_Big_Wide (k : Nat) (a0 : (List Int)) : Option V90 :=
  bnd (tourref2_Big_Wide.c1 k a0 k 0 0 0) fun o8 =>
  some ((icv .i64 o8.2), o8.1, ())
noncomputable def tourref2_Big_Wide.sp (k : Nat) : Go.Sx.Spec := ⟨(.pair T134 .unit), (.one (.dp T90)), fun x => tourref2_Big_Wide k x.1, false⟩
noncomputable def tourref2_Big_Wide.cx (k : Nat) : Go.Sx.Ctx := ⟨tys, [], eqs, 33, false⟩
theorem tourref2_Big_Wide.cok (k : Nat) : CtxOk PR (tourref2_Big_Wide.cx k) := ctx_ok tysOk eqsOk FnsOk.nil
noncomputable def tourref2_Big_Wide.c1p (a0 : (List Int)) (v1 : Int) (v2 : Int) (v3 : Int) : SL := ⟨[(1, (.val .ptr ⟨0, 0, (0 : Int), 0, 0⟩)), (2, (.val .ptr ⟨1, 0, (0 : Int), 0, 0⟩)), (3, (.val T12 v1)), (4, (.val T12 v2)), (6, (.val T2 v3))], [(0, .cells T134 a0), (1, .cells T90 ((0 : Int), (0 : Int), ()))]⟩
noncomputable def tourref2_Big_Wide.c1q (o : (Int × Int)) : SL := (fun v => ⟨[(2, (.val .ptr ⟨0, 0, (0 : Int), 0, 0⟩)), (3, (.val T12 v.1)), (4, (.val T12 v.2))], [(0, .cells T90 ((0 : Int), (0 : Int), ()))]⟩) o
noncomputable def tourref2_Big_Wide.c1x (o : (Int × Int)) : Ex := (fun _ => (.exit 0)) o
noncomputable def tourref2_Big_Wide.c1n (o : (Int × Int)) : Nat := (fun _ => 1) o
theorem tourref2_Big_Wide.c1_ok (k : Nat) (a0 : (List Int)) : ∀ (n : Nat) (v1 : Int) (v2 : Int) (v3 : Int), Owp (tourref2_Big_Wide.c1 k a0 n v1 v2 v3) fun o => LTriple PR (tourref2_Big_Wide.cx k) (sub tourref2_Big_Wide.code [1, 1, 0, 1, 0, 0]) 2 (tourref2_Big_Wide.c1p a0 v1 v2 v3) (tourref2_Big_Wide.c1x o) (tourref2_Big_Wide.c1n o) (tourref2_Big_Wide.c1q o)
  | 0, _, _, _ => fun _ h => nomatch h
  | n + 1, v1, v2, v3 => Owp.of (tourref2_Big_Wide.c1.eq_2 ..) (
   Owp.bif (fun e4 =>
   Owp.req fun h5 =>
    Owp.req fun h6 =>
    Owp.req fun h7 =>
    fun y hy => loop_back (tourref2_Big_Wide.cok k) hmix 2 (tourref2_Big_Wide.c1p a0 (ibits .or .u64 v1 (ishl .u64 (icv .u64 (el (0 : Int) a0 v3)) (imul .i64 (16 : Int) v3))) (ibits .or .u64 v2 (ishl .u64 (icv .u64 (el (0 : Int) a0 (iadd .i64 (4 : Int) v3))) (imul .i64 (16 : Int) v3))) (iadd .i64 v3 (1 : Int))) [.dec true] [] [(0, 0), (1, 1)] (via (finP (And.intro (And.intro (And.intro (And.intro (And.intro (And.intro (And.intro trivial e4) h5) h5) h6) h7) h7) h6) .normal [(0, 0), (1, 1)] (tourref2_Big_Wide.c1p a0 (ibits .or .u64 v1 (ishl .u64 (icv .u64 (el (0 : Int) a0 v3)) (imul .i64 (16 : Int) v3))) (ibits .or .u64 v2 (ishl .u64 (icv .u64 (el (0 : Int) a0 (iadd .i64 (4 : Int) v3))) (imul .i64 (16 : Int) v3))) (iadd .i64 v3 (1 : Int)))) (by kernel_rfl)) ((tourref2_Big_Wide.c1_ok k a0 n (ibits .or .u64 v1 (ishl .u64 (icv .u64 (el (0 : Int) a0 v3)) (imul .i64 (16 : Int) v3))) (ibits .or .u64 v2 (ishl .u64 (icv .u64 (el (0 : Int) a0 (iadd .i64 (4 : Int) v3))) (imul .i64 (16 : Int) v3))) (iadd .i64 v3 (1 : Int))).ap hy)) (fun e4 =>
   Owp.some (loop_exit (tourref2_Big_Wide.cok k) hmix [.dec false] [] [(0, 1)] (exne 0) (via (finP (And.intro trivial e4) (.exit 0) [(0, 1)] (tourref2_Big_Wide.c1q (v1, v2))) (by kernel_rfl)))))
theorem tourref2_Big_Wide.way (k : Nat) (a0 : (List Int)) : Owp (tourref2_Big_Wide k a0) fun y => ∃ answers cmds, exec PR (tourref2_Big_Wide.cx k) tourref2_Big_Wide.code 0 (entry (.pair T134 .unit) (a0, ())).st answers (Ret (tourref2_Big_Wide.cx k) Try.f190 cmds (.one (.dp T90)) y) := by
  unfold tourref2_Big_Wide; exact
   Owp.bnd fun o8 e9 =>
   Owp.some (⟨[.cut ⟨[], [(0, 0), (1, 1)], (tourref2_Big_Wide.c1p a0 (0 : Int) (0 : Int) (0 : Int)), 2, (.exit 0), (tourref2_Big_Wide.c1q o8), 1⟩], [], via (cutP trivial [(0, 0), (1, 1)] (tourref2_Big_Wide.c1p a0 (0 : Int) (0 : Int) (0 : Int)) (((tourref2_Big_Wide.c1_ok k a0 k (0 : Int) (0 : Int) (0 : Int)).ap e9).triple) (retP trivial (.one (.dp T90)) (((icv .i64 o8.2), o8.1, ()) : V90))) (by kernel_rfl)⟩)
theorem tourref2_Big_Wide.ok (k : Nat) : FnOk PR 190 (tourref2_Big_Wide.sp k) :=
  fn_ok (tourref2_Big_Wide.cok k) hmix Try.func190 (code := tourref2_Big_Wide.code) (by kernel_rfl) (by kernel_rfl) (by kernel_rfl) rfl (by kernel_rfl) (by kernel_rfl) (by kernel_rfl) (fun x => Nat.le_of_ble_eq_true (by kernel_rfl)) fun x y hy => (tourref2_Big_Wide.way k x.1).ap hy

/-! (tourney/tourref2.Big).Floor -/
noncomputable def tourref2_Big_Floor.code : Code := Func.cd Try.f198
def tourref2_Big_Floor.c1 (k : Nat) (a0 : (List Int)) (y1 : Bool) : Option ((List Int)) :=
  bif' y1
  (bnd (tourref2_Big_Neg k a0) fun y4 =>
   bnd (tourref2_Of k 1) fun y6 =>
   bnd (tourref2_Big_Sub k y4 y6) fun y8 =>
   some y8)
  (some a0)
def tourref2_Big_Floor.c3 (k : Nat) (o10 : (List Int)) (v14 : Int) (y12 : (List Int)) (y18 : (List Int)) (y20 : (List Int)) (y24 : Int) : Option (((List Int) × (List Int))) :=
  bif' (ige y24 0)
  (bnd (tourref2_Big_Sub k (st y18 0 (ibits .or .u32 (el 0 y18 0) (ibits .and .u32 (ishr .u32 (el 0 o10 (iquo .i64 v14 16)) (irem v14 16)) 1))) y12) fun y27 =>
   bnd (tourref2_Of k 1) fun y29 =>
   bnd (tourref2_Big_Add k y20 y29) fun y31 =>
   some (y31, y27))
  (some (y20, (st y18 0 (ibits .or .u32 (el 0 y18 0) (ibits .and .u32 (ishr .u32 (el 0 o10 (iquo .i64 v14 16)) (irem v14 16)) 1)))))
def tourref2_Big_Floor.c2 (k : Nat) (o10 : (List Int)) (y12 : (List Int)) : Nat → Int → (List Int) → (List Int) → Option ((List Int))
  | 0, _, _, _ => none
  | n + 1, v14, v15, v16 =>
   bif' (ige v14 0)
   (bnd (tourref2_Big_twice k v16) fun y18 =>
    bnd (tourref2_Big_twice k v15) fun y20 =>
    req (inR (iquo .i64 v14 16) 8) <|
    req (ng (irem v14 16)) <|
    bnd (tourref2_Big_Cmp k (st y18 0 (ibits .or .u32 (el 0 y18 0) (ibits .and .u32 (ishr .u32 (el 0 o10 (iquo .i64 v14 16)) (irem v14 16)) 1))) y12) fun y24 =>
    bnd (tourref2_Big_Floor.c3 k o10 v14 y12 y18 y20 y24) fun o33 =>
    tourref2_Big_Floor.c2 k o10 y12 n (isub .i64 v14 1) o33.1 o33.2)
   (some v15)
def tourref2_Big_Floor (k : Nat) (a0 : (List Int)) (a1 : Int) : Option (Int × Bool) :=
  bnd (tourref2_Big_Below k a0) fun y1 =>
  bnd (tourref2_Big_Floor.c1 k a0 y1) fun o10 =>
  bnd (tourref2_Of k a1) fun y12 =>
  bnd (tourref2_Big_Floor.c2 k o10 y12 k 127 (List.replicate 8 0) (List.replicate 8 0)) fun o35 =>
  bnd (tourref2_Of k 4611686018427387904) fun y37 =>
  bnd (tourref2_Big_twice k y37) fun y39 =>
  bnd (tourref2_Big_Cmp k o35 y39) fun y41 =>
  bif' (ige y41 0)
  (some (0, false))
  (bnd (tourref2_Big_Wide k o35) fun y44 =>
   bif' y1
   (some ((isub .i64 (ineg .i64 (icv .i64 y44.2.1)) 1), true))
   (some ((icv .i64 y44.2.1), true)))
noncomputable def tourref2_Big_Floor.sp (k : Nat) : Go.Sx.Spec := ⟨(.pair T134 (.pair T2 .unit)), (.more (.dp T2) (.one (.dp T4))), fun x => tourref2_Big_Floor k x.1 x.2.1, false⟩
noncomputable def tourref2_Big_Floor.cx (k : Nat) : Go.Sx.Ctx := ⟨tys, [(179, tourref2_Big_Below.sp k), (180, tourref2_Big_Neg.sp k), (159, tourref2_Of.sp k), (189, tourref2_Big_Sub.sp k), (197, tourref2_Big_twice.sp k), (126, tourref2_Big_Cmp.sp k), (178, tourref2_Big_Add.sp k), (190, tourref2_Big_Wide.sp k)], eqs, 65, false⟩
theorem tourref2_Big_Floor.cok (k : Nat) : CtxOk PR (tourref2_Big_Floor.cx k) := ctx_ok tysOk eqsOk (FnsOk.cons (tourref2_Big_Below.ok k) (FnsOk.cons (tourref2_Big_Neg.ok k) (FnsOk.cons (tourref2_Of.ok k) (FnsOk.cons (tourref2_Big_Sub.ok k) (FnsOk.cons (tourref2_Big_twice.ok k) (FnsOk.cons (tourref2_Big_Cmp.ok k) (FnsOk.cons (tourref2_Big_Add.ok k) (FnsOk.cons (tourref2_Big_Wide.ok k) FnsOk.nil))))))))
noncomputable def tourref2_Big_Floor.c1p (a0 : (List Int)) (a1 : Int) (y1 : Bool) : SL := ⟨[(1, (.val T2 a1)), (2, (.val .ptr ⟨0, 0, (0 : Int), 0, 0⟩)), (6, (.val T4 y1)), (14, (.val T4 y1))], [(0, .cells T134 a0)]⟩
noncomputable def tourref2_Big_Floor.c1q (a1 : Int) (y1 : Bool) (o : (List Int)) : SL := (fun v => ⟨[(1, (.val T2 a1)), (2, (.val .ptr ⟨0, 0, (0 : Int), 0, 0⟩)), (6, (.val T4 y1))], [(0, .cells T134 v)]⟩) o
noncomputable def tourref2_Big_Floor.c1x (o : (List Int)) : Ex := (fun _ => .normal) o
noncomputable def tourref2_Big_Floor.c1n (o : (List Int)) : Nat := (fun _ => 1) o
theorem tourref2_Big_Floor.c1_ok (k : Nat) (a0 : (List Int)) (a1 : Int) (y1 : Bool) : Owp (tourref2_Big_Floor.c1 k a0 y1) fun o => Triple PR (tourref2_Big_Floor.cx k) (sub tourref2_Big_Floor.code [1, 1, 0, 1]) 1 (tourref2_Big_Floor.c1p a0 a1 y1) (tourref2_Big_Floor.c1x o) (tourref2_Big_Floor.c1n o) (tourref2_Big_Floor.c1q a1 y1 o) := by
  unfold tourref2_Big_Floor.c1; exact
   Owp.bif (fun e3 =>
   Owp.bnd fun y4 e5 =>
    Owp.bnd fun y6 e7 =>
    Owp.bnd fun y8 e9 =>
    Owp.some (triple_way (tourref2_Big_Floor.cok k) hmix [.dec true, .res (.one (.dp T134)) y4, .res (.one (.dp T134)) y6, .res (.one (.dp T134)) y8] [] [(0, 0)] (via (finP (And.intro (And.intro (And.intro (And.intro trivial e3) e5) e7) e9) .normal [(0, 0)] (tourref2_Big_Floor.c1q a1 y1 y8)) (by kernel_rfl)))) (fun e3 =>
   Owp.some (triple_way (tourref2_Big_Floor.cok k) hmix [.dec false] [] [(0, 0)] (via (finP (And.intro trivial e3) .normal [(0, 0)] (tourref2_Big_Floor.c1q a1 y1 a0)) (by kernel_rfl))))
noncomputable def tourref2_Big_Floor.c3p (o10 : (List Int)) (v14 : Int) (y1 : Bool) (y12 : (List Int)) (y18 : (List Int)) (y20 : (List Int)) (y24 : Int) : SL := ⟨[(2, (.val .ptr ⟨0, 0, (0 : Int), 0, 0⟩)), (6, (.val T4 y1)), (7, (.val .ptr ⟨1, 0, (0 : Int), 0, 0⟩)), (8, (.val .ptr ⟨2, 0, (0 : Int), 0, 0⟩)), (9, (.val .ptr ⟨3, 0, (0 : Int), 0, 0⟩)), (10, (.val T2 v14)), (44, (.val T4 (ige y24 (0 : Int))))], [(0, .cells T134 o10), (1, .cells T134 y20), (2, .cells T134 (st y18 (0 : Int) (ibits .or .u32 (el (0 : Int) y18 (0 : Int)) (ibits .and .u32 (ishr .u32 (el (0 : Int) o10 (iquo .i64 v14 (16 : Int))) (irem v14 (16 : Int))) (1 : Int))))), (3, .cells T134 y12)]⟩
noncomputable def tourref2_Big_Floor.c3q (o10 : (List Int)) (v14 : Int) (y1 : Bool) (y12 : (List Int)) (o : ((List Int) × (List Int))) : SL := (fun v => ⟨[(2, (.val .ptr ⟨0, 0, (0 : Int), 0, 0⟩)), (6, (.val T4 y1)), (7, (.val .ptr ⟨1, 0, (0 : Int), 0, 0⟩)), (8, (.val .ptr ⟨2, 0, (0 : Int), 0, 0⟩)), (9, (.val .ptr ⟨3, 0, (0 : Int), 0, 0⟩)), (10, (.val T2 v14))], [(0, .cells T134 o10), (1, .cells T134 v.1), (2, .cells T134 v.2), (3, .cells T134 y12)]⟩) o
noncomputable def tourref2_Big_Floor.c3x (o : ((List Int) × (List Int))) : Ex := (fun _ => .normal) o
noncomputable def tourref2_Big_Floor.c3n (o : ((List Int) × (List Int))) : Nat := (fun _ => 4) o
theorem tourref2_Big_Floor.c3_ok (k : Nat) (o10 : (List Int)) (v14 : Int) (y1 : Bool) (y12 : (List Int)) (y18 : (List Int)) (y20 : (List Int)) (y24 : Int) : Owp (tourref2_Big_Floor.c3 k o10 v14 y12 y18 y20 y24) fun o => Triple PR (tourref2_Big_Floor.cx k) (sub tourref2_Big_Floor.code [1, 1, 1, 1, 1, 0, 1, 0, 0, 1, 0, 0, 1, 1, 1]) 4 (tourref2_Big_Floor.c3p o10 v14 y1 y12 y18 y20 y24) (tourref2_Big_Floor.c3x o) (tourref2_Big_Floor.c3n o) (tourref2_Big_Floor.c3q o10 v14 y1 y12 o) := by
  unfold tourref2_Big_Floor.c3; exact
   Owp.bif (fun e26 =>
   Owp.bnd fun y27 e28 =>
    Owp.bnd fun y29 e30 =>
    Owp.bnd fun y31 e32 =>
    Owp.some (triple_way (tourref2_Big_Floor.cok k) hmix [.dec true, .res (.one (.dp T134)) y27, .res (.one (.dp T134)) y29, .res (.one (.dp T134)) y31] [] [(0, 0), (1, 1), (2, 2), (3, 3)] (via (finP (And.intro (And.intro (And.intro (And.intro trivial e26) e28) e30) e32) .normal [(0, 0), (1, 1), (2, 2), (3, 3)] (tourref2_Big_Floor.c3q o10 v14 y1 y12 (y31, y27))) (by kernel_rfl)))) (fun e26 =>
   Owp.some (triple_way (tourref2_Big_Floor.cok k) hmix [.dec false] [] [(0, 0), (1, 1), (2, 2), (3, 3)] (via (finP (And.intro trivial e26) .normal [(0, 0), (1, 1), (2, 2), (3, 3)] (tourref2_Big_Floor.c3q o10 v14 y1 y12 (y20, (st y18 (0 : Int) (ibits .or .u32 (el (0 : Int) y18 (0 : Int)) (ibits .and .u32 (ishr .u32 (el (0 : Int) o10 (iquo .i64 v14 (16 : Int))) (irem v14 (16 : Int))) (1 : Int))))))) (by kernel_rfl))))
noncomputable def tourref2_Big_Floor.c2p (o10 : (List Int)) (y1 : Bool) (y12 : (List Int)) (v14 : Int) (v15 : (List Int)) (v16 : (List Int)) : SL := ⟨[(2, (.val .ptr ⟨0, 0, (0 : Int), 0, 0⟩)), (6, (.val T4 y1)), (7, (.val .ptr ⟨1, 0, (0 : Int), 0, 0⟩)), (8, (.val .ptr ⟨2, 0, (0 : Int), 0, 0⟩)), (9, (.val .ptr ⟨3, 0, (0 : Int), 0, 0⟩)), (10, (.val T2 v14))], [(0, .cells T134 o10), (1, .cells T134 v15), (2, .cells T134 v16), (3, .cells T134 y12)]⟩
noncomputable def tourref2_Big_Floor.c2q (y1 : Bool) (o : (List Int)) : SL := (fun v => ⟨[(6, (.val T4 y1)), (7, (.val .ptr ⟨0, 0, (0 : Int), 0, 0⟩))], [(0, .cells T134 v)]⟩) o
noncomputable def tourref2_Big_Floor.c2x (o : (List Int)) : Ex := (fun _ => (.exit 0)) o
noncomputable def tourref2_Big_Floor.c2n (o : (List Int)) : Nat := (fun _ => 1) o
theorem tourref2_Big_Floor.c2_ok (k : Nat) (o10 : (List Int)) (y1 : Bool) (y12 : (List Int)) : ∀ (n : Nat) (v14 : Int) (v15 : (List Int)) (v16 : (List Int)), Owp (tourref2_Big_Floor.c2 k o10 y12 n v14 v15 v16) fun o => LTriple PR (tourref2_Big_Floor.cx k) (sub tourref2_Big_Floor.code [1, 1, 1, 1, 1, 0, 1, 0, 0]) 4 (tourref2_Big_Floor.c2p o10 y1 y12 v14 v15 v16) (tourref2_Big_Floor.c2x o) (tourref2_Big_Floor.c2n o) (tourref2_Big_Floor.c2q y1 o)
  | 0, _, _, _ => fun _ h => nomatch h
  | n + 1, v14, v15, v16 => Owp.of (tourref2_Big_Floor.c2.eq_2 ..) (
   Owp.bif (fun e17 =>
   Owp.bnd fun y18 e19 =>
    Owp.bnd fun y20 e21 =>
    Owp.req fun h22 =>
    Owp.req fun h23 =>
    Owp.bnd fun y24 e25 =>
    Owp.bnd fun o33 e34 =>
    fun y hy => loop_back (tourref2_Big_Floor.cok k) hmix 4 (tourref2_Big_Floor.c2p o10 y1 y12 (isub .i64 v14 (1 : Int)) o33.1 o33.2) [.dec true, .res (.one (.dp T134)) y18, .res (.one (.dp T134)) y20, .res (.one (.dp T2)) y24, .cut ⟨[], [(0, 0), (1, 1), (2, 2), (3, 3)], (tourref2_Big_Floor.c3p o10 v14 y1 y12 y18 y20 y24), 4, .normal, (tourref2_Big_Floor.c3q o10 v14 y1 y12 o33), 4⟩] [] [(0, 0), (1, 1), (2, 2), (3, 3)] (via (cutP (And.intro (And.intro (And.intro (And.intro (And.intro (And.intro (And.intro (And.intro (And.intro (And.intro (And.intro (And.intro (And.intro trivial e17) e19) e21) (by decide : inR (0 : Int) 8)) (by decide : inR (0 : Int) 8)) (by decide : nz (16 : Int))) h22) h22) (by decide : nz (16 : Int))) h23) (by decide : inR (0 : Int) 8)) (by decide : inR (0 : Int) 8)) e25) [(0, 0), (1, 1), (2, 2), (3, 3)] (tourref2_Big_Floor.c3p o10 v14 y1 y12 y18 y20 y24) (((tourref2_Big_Floor.c3_ok k o10 v14 y1 y12 y18 y20 y24).ap e34)) (finP trivial .normal [(0, 0), (1, 1), (2, 2), (3, 3)] (tourref2_Big_Floor.c2p o10 y1 y12 (isub .i64 v14 (1 : Int)) o33.1 o33.2))) (by kernel_rfl)) ((tourref2_Big_Floor.c2_ok k o10 y1 y12 n (isub .i64 v14 (1 : Int)) o33.1 o33.2).ap hy)) (fun e17 =>
   Owp.some (loop_exit (tourref2_Big_Floor.cok k) hmix [.dec false] [] [(0, 1)] (exne 0) (via (finP (And.intro trivial e17) (.exit 0) [(0, 1)] (tourref2_Big_Floor.c2q y1 v15)) (by kernel_rfl)))))
theorem tourref2_Big_Floor.way (k : Nat) (a0 : (List Int)) (a1 : Int) : Owp (tourref2_Big_Floor k a0 a1) fun y => ∃ answers cmds, exec PR (tourref2_Big_Floor.cx k) tourref2_Big_Floor.code 0 (entry (.pair T134 (.pair T2 .unit)) (a0, a1, ())).st answers (Ret (tourref2_Big_Floor.cx k) Try.f198 cmds (.more (.dp T2) (.one (.dp T4))) y) := by
  unfold tourref2_Big_Floor; exact
   Owp.bnd fun y1 e2 =>
   Owp.bnd fun o10 e11 =>
   Owp.bnd fun y12 e13 =>
   Owp.bnd fun o35 e36 =>
   Owp.bnd fun y37 e38 =>
   Owp.bnd fun y39 e40 =>
   Owp.bnd fun y41 e42 =>
   Owp.bif (fun e43 =>
   Owp.some (⟨[.res (.one (.dp T4)) y1, .cut ⟨[], [(0, 0)], (tourref2_Big_Floor.c1p a0 a1 y1), 1, .normal, (tourref2_Big_Floor.c1q a1 y1 o10), 1⟩, .res (.one (.dp T134)) y12, .cut ⟨[], [(0, 0), (1, 1), (2, 2), (3, 5)], (tourref2_Big_Floor.c2p o10 y1 y12 (127 : Int) (List.replicate 8 (0 : Int)) (List.replicate 8 (0 : Int))), 4, (.exit 0), (tourref2_Big_Floor.c2q y1 o35), 1⟩, .res (.one (.dp T134)) y37, .res (.one (.dp T134)) y39, .res (.one (.dp T2)) y41, .dec true], [], via (cutP (And.intro trivial e2) [(0, 0)] (tourref2_Big_Floor.c1p a0 a1 y1) (((tourref2_Big_Floor.c1_ok k a0 a1 y1).ap e11)) (cutP (And.intro trivial e13) [(0, 0), (1, 1), (2, 2), (3, 5)] (tourref2_Big_Floor.c2p o10 y1 y12 (127 : Int) (List.replicate 8 (0 : Int)) (List.replicate 8 (0 : Int))) (((tourref2_Big_Floor.c2_ok k o10 y1 y12 k (127 : Int) (List.replicate 8 (0 : Int)) (List.replicate 8 (0 : Int))).ap e36).triple) (retP (And.intro (And.intro (And.intro (And.intro trivial e38) e40) e42) e43) (.more (.dp T2) (.one (.dp T4))) (((0 : Int), false) : (Int × Bool))))) (by kernel_rfl)⟩)) (fun e43 =>
   Owp.bnd fun y44 e45 =>
    Owp.bif (fun e46 =>
    Owp.some (⟨[.res (.one (.dp T4)) y1, .cut ⟨[], [(0, 0)], (tourref2_Big_Floor.c1p a0 a1 y1), 1, .normal, (tourref2_Big_Floor.c1q a1 y1 o10), 1⟩, .res (.one (.dp T134)) y12, .cut ⟨[], [(0, 0), (1, 1), (2, 2), (3, 5)], (tourref2_Big_Floor.c2p o10 y1 y12 (127 : Int) (List.replicate 8 (0 : Int)) (List.replicate 8 (0 : Int))), 4, (.exit 0), (tourref2_Big_Floor.c2q y1 o35), 1⟩, .res (.one (.dp T134)) y37, .res (.one (.dp T134)) y39, .res (.one (.dp T2)) y41, .dec false, .res (.one (.dp T90)) y44, .dec true], [], via (cutP (And.intro trivial e2) [(0, 0)] (tourref2_Big_Floor.c1p a0 a1 y1) (((tourref2_Big_Floor.c1_ok k a0 a1 y1).ap e11)) (cutP (And.intro trivial e13) [(0, 0), (1, 1), (2, 2), (3, 5)] (tourref2_Big_Floor.c2p o10 y1 y12 (127 : Int) (List.replicate 8 (0 : Int)) (List.replicate 8 (0 : Int))) (((tourref2_Big_Floor.c2_ok k o10 y1 y12 k (127 : Int) (List.replicate 8 (0 : Int)) (List.replicate 8 (0 : Int))).ap e36).triple) (retP (And.intro (And.intro (And.intro (And.intro (And.intro (And.intro trivial e38) e40) e42) e43) e45) e46) (.more (.dp T2) (.one (.dp T4))) (((isub .i64 (ineg .i64 (icv .i64 y44.2.1)) (1 : Int)), true) : (Int × Bool))))) (by kernel_rfl)⟩)) (fun e46 =>
    Owp.some (⟨[.res (.one (.dp T4)) y1, .cut ⟨[], [(0, 0)], (tourref2_Big_Floor.c1p a0 a1 y1), 1, .normal, (tourref2_Big_Floor.c1q a1 y1 o10), 1⟩, .res (.one (.dp T134)) y12, .cut ⟨[], [(0, 0), (1, 1), (2, 2), (3, 5)], (tourref2_Big_Floor.c2p o10 y1 y12 (127 : Int) (List.replicate 8 (0 : Int)) (List.replicate 8 (0 : Int))), 4, (.exit 0), (tourref2_Big_Floor.c2q y1 o35), 1⟩, .res (.one (.dp T134)) y37, .res (.one (.dp T134)) y39, .res (.one (.dp T2)) y41, .dec false, .res (.one (.dp T90)) y44, .dec false], [], via (cutP (And.intro trivial e2) [(0, 0)] (tourref2_Big_Floor.c1p a0 a1 y1) (((tourref2_Big_Floor.c1_ok k a0 a1 y1).ap e11)) (cutP (And.intro trivial e13) [(0, 0), (1, 1), (2, 2), (3, 5)] (tourref2_Big_Floor.c2p o10 y1 y12 (127 : Int) (List.replicate 8 (0 : Int)) (List.replicate 8 (0 : Int))) (((tourref2_Big_Floor.c2_ok k o10 y1 y12 k (127 : Int) (List.replicate 8 (0 : Int)) (List.replicate 8 (0 : Int))).ap e36).triple) (retP (And.intro (And.intro (And.intro (And.intro (And.intro (And.intro trivial e38) e40) e42) e43) e45) e46) (.more (.dp T2) (.one (.dp T4))) (((icv .i64 y44.2.1), true) : (Int × Bool))))) (by kernel_rfl)⟩)))
theorem tourref2_Big_Floor.ok (k : Nat) : FnOk PR 198 (tourref2_Big_Floor.sp k) :=
  fn_ok (tourref2_Big_Floor.cok k) hmix Try.func198 (code := tourref2_Big_Floor.code) (by kernel_rfl) (by kernel_rfl) (by kernel_rfl) rfl (by kernel_rfl) (by kernel_rfl) (by kernel_rfl) (fun x => Nat.le_of_ble_eq_true (by kernel_rfl)) fun x y hy => (tourref2_Big_Floor.way k x.1 x.2.1).ap hy

/-! (tourney/tourref2.Big).Over -/
noncomputable def tourref2_Big_Over.code : Code := Func.cd Try.f166
def tourref2_Big_Over.c1 (k : Nat) (a0 : (List Int)) (a1 : Int) : Option ((Int × (List Int))) :=
  bif' (ilt a1 0)
  (bnd (tourref2_Big_Neg k a0) fun y3 =>
   some ((ineg .i64 a1), y3))
  (some (a1, a0))
def tourref2_Big_Over (k : Nat) (a0 : (List Int)) (a1 : Int) : Option (Int × Int) :=
  bif' (ieq a1 0)
  (some (0, 17))
  (bnd (tourref2_Big_Over.c1 k a0 a1) fun o5 =>
   bnd (tourref2_Big_twice k o5.2) fun y7 =>
   bnd (tourref2_Of k o5.1) fun y9 =>
   bnd (tourref2_Big_Add k y7 y9) fun y11 =>
   bnd (tourref2_Big_Floor k y11 (imul .i64 2 o5.1)) fun y13 =>
   bif' y13.2
   (some (y13.1, 0))
   (some (0, 2)))
noncomputable def tourref2_Big_Over.sp (k : Nat) : Go.Sx.Spec := ⟨(.pair T134 (.pair T2 .unit)), (.more (.dp T2) (.one (.dp T2))), fun x => tourref2_Big_Over k x.1 x.2.1, false⟩
noncomputable def tourref2_Big_Over.cx (k : Nat) : Go.Sx.Ctx := ⟨tys, [(180, tourref2_Big_Neg.sp k), (197, tourref2_Big_twice.sp k), (159, tourref2_Of.sp k), (178, tourref2_Big_Add.sp k), (198, tourref2_Big_Floor.sp k)], eqs, 30, false⟩
theorem tourref2_Big_Over.cok (k : Nat) : CtxOk PR (tourref2_Big_Over.cx k) := ctx_ok tysOk eqsOk (FnsOk.cons (tourref2_Big_Neg.ok k) (FnsOk.cons (tourref2_Big_twice.ok k) (FnsOk.cons (tourref2_Of.ok k) (FnsOk.cons (tourref2_Big_Add.ok k) (FnsOk.cons (tourref2_Big_Floor.ok k) FnsOk.nil)))))
noncomputable def tourref2_Big_Over.c1p (a0 : (List Int)) (a1 : Int) : SL := ⟨[(1, (.val T2 a1)), (2, (.val .ptr ⟨0, 0, (0 : Int), 0, 0⟩)), (11, (.val T4 (ilt a1 (0 : Int))))], [(0, .cells T134 a0)]⟩
noncomputable def tourref2_Big_Over.c1q (o : (Int × (List Int))) : SL := (fun v => ⟨[(1, (.val T2 v.1)), (2, (.val .ptr ⟨0, 0, (0 : Int), 0, 0⟩))], [(0, .cells T134 v.2)]⟩) o
noncomputable def tourref2_Big_Over.c1x (o : (Int × (List Int))) : Ex := (fun _ => .normal) o
noncomputable def tourref2_Big_Over.c1n (o : (Int × (List Int))) : Nat := (fun _ => 1) o
theorem tourref2_Big_Over.c1_ok (k : Nat) (a0 : (List Int)) (a1 : Int) : Owp (tourref2_Big_Over.c1 k a0 a1) fun o => Triple PR (tourref2_Big_Over.cx k) (sub tourref2_Big_Over.code [1, 1, 0, 1]) 1 (tourref2_Big_Over.c1p a0 a1) (tourref2_Big_Over.c1x o) (tourref2_Big_Over.c1n o) (tourref2_Big_Over.c1q o) := by
  unfold tourref2_Big_Over.c1; exact
   Owp.bif (fun e2 =>
   Owp.bnd fun y3 e4 =>
    Owp.some (triple_way (tourref2_Big_Over.cok k) hmix [.dec true, .res (.one (.dp T134)) y3] [] [(0, 0)] (via (finP (And.intro (And.intro trivial e2) e4) .normal [(0, 0)] (tourref2_Big_Over.c1q ((ineg .i64 a1), y3))) (by kernel_rfl)))) (fun e2 =>
   Owp.some (triple_way (tourref2_Big_Over.cok k) hmix [.dec false] [] [(0, 0)] (via (finP (And.intro trivial e2) .normal [(0, 0)] (tourref2_Big_Over.c1q (a1, a0))) (by kernel_rfl))))
theorem tourref2_Big_Over.way (k : Nat) (a0 : (List Int)) (a1 : Int) : Owp (tourref2_Big_Over k a0 a1) fun y => ∃ answers cmds, exec PR (tourref2_Big_Over.cx k) tourref2_Big_Over.code 0 (entry (.pair T134 (.pair T2 .unit)) (a0, a1, ())).st answers (Ret (tourref2_Big_Over.cx k) Try.f166 cmds (.more (.dp T2) (.one (.dp T2))) y) := by
  unfold tourref2_Big_Over; exact
   Owp.bif (fun e1 =>
   Owp.some (⟨[.dec true], [], via (retP (And.intro trivial e1) (.more (.dp T2) (.one (.dp T2))) (((0 : Int), (17 : Int)) : (Int × Int))) (by kernel_rfl)⟩)) (fun e1 =>
   Owp.bnd fun o5 e6 =>
    Owp.bnd fun y7 e8 =>
    Owp.bnd fun y9 e10 =>
    Owp.bnd fun y11 e12 =>
    Owp.bnd fun y13 e14 =>
    Owp.bif (fun e15 =>
    Owp.some (⟨[.dec false, .cut ⟨[], [(0, 0)], (tourref2_Big_Over.c1p a0 a1), 1, .normal, (tourref2_Big_Over.c1q o5), 1⟩, .res (.one (.dp T134)) y7, .res (.one (.dp T134)) y9, .res (.one (.dp T134)) y11, .res (.more (.dp T2) (.one (.dp T4))) y13, .dec false], [], via (cutP (And.intro trivial e1) [(0, 0)] (tourref2_Big_Over.c1p a0 a1) (((tourref2_Big_Over.c1_ok k a0 a1).ap e6)) (retP (And.intro (And.intro (And.intro (And.intro (And.intro trivial e8) e10) e12) e14) (congrArg not e15)) (.more (.dp T2) (.one (.dp T2))) ((y13.1, (0 : Int)) : (Int × Int)))) (by kernel_rfl)⟩)) (fun e15 =>
    Owp.some (⟨[.dec false, .cut ⟨[], [(0, 0)], (tourref2_Big_Over.c1p a0 a1), 1, .normal, (tourref2_Big_Over.c1q o5), 1⟩, .res (.one (.dp T134)) y7, .res (.one (.dp T134)) y9, .res (.one (.dp T134)) y11, .res (.more (.dp T2) (.one (.dp T4))) y13, .dec true], [], via (cutP (And.intro trivial e1) [(0, 0)] (tourref2_Big_Over.c1p a0 a1) (((tourref2_Big_Over.c1_ok k a0 a1).ap e6)) (retP (And.intro (And.intro (And.intro (And.intro (And.intro trivial e8) e10) e12) e14) (congrArg not e15)) (.more (.dp T2) (.one (.dp T2))) (((0 : Int), (2 : Int)) : (Int × Int)))) (by kernel_rfl)⟩)))
theorem tourref2_Big_Over.ok (k : Nat) : FnOk PR 166 (tourref2_Big_Over.sp k) :=
  fn_ok (tourref2_Big_Over.cok k) hmix Try.func166 (code := tourref2_Big_Over.code) (by kernel_rfl) (by kernel_rfl) (by kernel_rfl) rfl (by kernel_rfl) (by kernel_rfl) (by kernel_rfl) (fun x => Nat.le_of_ble_eq_true (by kernel_rfl)) fun x y hy => (tourref2_Big_Over.way k x.1 x.2.1).ap hy

end Go.Proofs.T1
