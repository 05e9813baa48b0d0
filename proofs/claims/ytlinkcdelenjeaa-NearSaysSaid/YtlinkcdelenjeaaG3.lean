import Derived.Test.YtlinkcdelenjeaaG0
import Derived.Test.YtlinkcdelenjeaaG1
import Derived.Test.YtlinkcdelenjeaaG2
namespace Go.Proofs.T1
open Go Go.Sx Go.Proofs
set_option maxRecDepth 100000
set_option linter.unusedVariables false
/-! tourney/fix.MulDiv -/
noncomputable def fix_MulDiv.code : Code := Func.cd Try.f119
def fix_MulDiv.c1 (k : Nat) (y1 : Int) (y3 : Int) : Option (Bool) :=
  bif' (ilt y3 0)
  (some (!(ilt y1 0)))
  (some (ilt y1 0))
def fix_MulDiv.c2 (k : Nat) (o9 : Bool) (y5 : Int) : Option (Bool) :=
  bif' (ilt y5 0)
  (some (!o9))
  (some o9)
def fix_MulDiv.c3 (k : Nat) (y24 : (Int × Int)) : Option ((Int × Int)) :=
  bif' (igt y24.1 1099511627776)
  (some (1099511627777, 0))
  (some (y24.1, y24.2))
def fix_MulDiv.c4 (k : Nat) (o27 : (Int × Int)) (y14 : Int) : Option (Int) :=
  bif' (igt o27.2 (isub .u64 y14 o27.2))
  (some (iadd .i64 (icv .i64 o27.1) 1))
  (some (icv .i64 o27.1))
def fix_MulDiv.c5 (k : Nat) (o27 : (Int × Int)) (y14 : Int) : Option (Int) :=
  bif' (ige o27.2 (isub .u64 y14 o27.2))
  (some (iadd .i64 (icv .i64 o27.1) 1))
  (some (icv .i64 o27.1))
def fix_MulDiv (k : Nat) (a0 : Int) (a1 : Int) (a2 : Int) : Option Int :=
  bnd (fix_Clamp k a0) fun y1 =>
  bnd (fix_Clamp k a1) fun y3 =>
  bnd (fix_Clamp k a2) fun y5 =>
  bif' (ieq y5 0)
  (some 0)
  (bnd (fix_MulDiv.c1 k y1 y3) fun o9 =>
   bnd (fix_MulDiv.c2 k o9 y5) fun o12 =>
   bnd (fix_mag k y5) fun y14 =>
   bnd (fix_mag k y1) fun y16 =>
   bnd (fix_mag k y3) fun y18 =>
   bnd (bits_Mul64 k y16 y18) fun y20 =>
   bif' (ige y20.1 y14)
   (bif' o12
    (some (-1099511627776))
    (some 1099511627776))
   (bnd (bits_Div64 k y20.1 y20.2 y14) fun y24 =>
    bnd (fix_MulDiv.c3 k y24) fun o27 =>
    bif' o12
    (bnd (fix_MulDiv.c4 k o27 y14) fun o31 =>
     bnd (fix_Clamp k (ineg .i64 o31)) fun y33 =>
     some y33)
    (bnd (fix_MulDiv.c5 k o27 y14) fun o36 =>
     bnd (fix_Clamp k o36) fun y38 =>
     some y38)))
noncomputable def fix_MulDiv.sp (k : Nat) : Go.Sx.Spec := ⟨(.pair T2 T33), (.one (.dp T2)), fun x => fix_MulDiv k x.1 x.2.1 x.2.2.1, false⟩
noncomputable def fix_MulDiv.cx (k : Nat) : Go.Sx.Ctx := ⟨tys, [(115, fix_Clamp.sp k), (155, fix_mag.sp k), (137, bits_Mul64.sp k), (151, bits_Div64.sp k)], eqs, 78, false⟩
theorem fix_MulDiv.cok (k : Nat) : CtxOk PR (fix_MulDiv.cx k) := ctx_ok tysOk eqsOk (FnsOk.cons (fix_Clamp.ok k) (FnsOk.cons (fix_mag.ok k) (FnsOk.cons (bits_Mul64.ok k) (FnsOk.cons (bits_Div64.ok k) FnsOk.nil))))
noncomputable def fix_MulDiv.c1p (y1 : Int) (y3 : Int) (y5 : Int) : SL := ⟨[(0, (.val T2 y1)), (1, (.val T2 y3)), (2, (.val T2 y5)), (7, (.val T4 (ilt y1 (0 : Int)))), (25, (.val T4 (ilt y3 (0 : Int))))], []⟩
noncomputable def fix_MulDiv.c1q (y1 : Int) (y3 : Int) (y5 : Int) (o : Bool) : SL := (fun v => ⟨[(0, (.val T2 y1)), (1, (.val T2 y3)), (2, (.val T2 y5)), (7, (.val T4 v))], []⟩) o
noncomputable def fix_MulDiv.c1x (o : Bool) : Ex := (fun _ => .normal) o
noncomputable def fix_MulDiv.c1n (o : Bool) : Nat := (fun _ => 0) o
theorem fix_MulDiv.c1_ok (k : Nat) (y1 : Int) (y3 : Int) (y5 : Int) : Owp (fix_MulDiv.c1 k y1 y3) fun o => Triple PR (fix_MulDiv.cx k) (sub fix_MulDiv.code [1, 1, 1, 1, 0, 1]) 0 (fix_MulDiv.c1p y1 y3 y5) (fix_MulDiv.c1x o) (fix_MulDiv.c1n o) (fix_MulDiv.c1q y1 y3 y5 o) := by
  unfold fix_MulDiv.c1; exact
   Owp.bif (fun e8 =>
   Owp.some (triple_way (fix_MulDiv.cok k) hmix [.dec true] [] [] (via (finP (And.intro trivial e8) .normal [] (fix_MulDiv.c1q y1 y3 y5 (!(ilt y1 (0 : Int))))) (by kernel_rfl)))) (fun e8 =>
   Owp.some (triple_way (fix_MulDiv.cok k) hmix [.dec false] [] [] (via (finP (And.intro trivial e8) .normal [] (fix_MulDiv.c1q y1 y3 y5 (ilt y1 (0 : Int)))) (by kernel_rfl))))
noncomputable def fix_MulDiv.c2p (o9 : Bool) (y1 : Int) (y3 : Int) (y5 : Int) : SL := ⟨[(0, (.val T2 y1)), (1, (.val T2 y3)), (2, (.val T2 y5)), (7, (.val T4 o9)), (29, (.val T4 (ilt y5 (0 : Int))))], []⟩
noncomputable def fix_MulDiv.c2q (y1 : Int) (y3 : Int) (y5 : Int) (o : Bool) : SL := (fun v => ⟨[(0, (.val T2 y1)), (1, (.val T2 y3)), (2, (.val T2 y5)), (7, (.val T4 v))], []⟩) o
noncomputable def fix_MulDiv.c2x (o : Bool) : Ex := (fun _ => .normal) o
noncomputable def fix_MulDiv.c2n (o : Bool) : Nat := (fun _ => 0) o
theorem fix_MulDiv.c2_ok (k : Nat) (o9 : Bool) (y1 : Int) (y3 : Int) (y5 : Int) : Owp (fix_MulDiv.c2 k o9 y5) fun o => Triple PR (fix_MulDiv.cx k) (sub fix_MulDiv.code [1, 1, 1, 1, 1, 0, 1]) 0 (fix_MulDiv.c2p o9 y1 y3 y5) (fix_MulDiv.c2x o) (fix_MulDiv.c2n o) (fix_MulDiv.c2q y1 y3 y5 o) := by
  unfold fix_MulDiv.c2; exact
   Owp.bif (fun e11 =>
   Owp.some (triple_way (fix_MulDiv.cok k) hmix [.dec true] [] [] (via (finP (And.intro trivial e11) .normal [] (fix_MulDiv.c2q y1 y3 y5 (!o9))) (by kernel_rfl)))) (fun e11 =>
   Owp.some (triple_way (fix_MulDiv.cok k) hmix [.dec false] [] [] (via (finP (And.intro trivial e11) .normal [] (fix_MulDiv.c2q y1 y3 y5 o9)) (by kernel_rfl))))
noncomputable def fix_MulDiv.c3p (o12 : Bool) (y14 : Int) (y24 : (Int × Int)) : SL := ⟨[(7, (.val T4 o12)), (8, (.val T12 y14)), (11, (.val T12 y24.1)), (12, (.val T12 y24.2)), (54, (.val T4 (igt y24.1 (1099511627776 : Int))))], []⟩
noncomputable def fix_MulDiv.c3q (o12 : Bool) (y14 : Int) (o : (Int × Int)) : SL := (fun v => ⟨[(7, (.val T4 o12)), (8, (.val T12 y14)), (11, (.val T12 v.1)), (12, (.val T12 v.2))], []⟩) o
noncomputable def fix_MulDiv.c3x (o : (Int × Int)) : Ex := (fun _ => .normal) o
noncomputable def fix_MulDiv.c3n (o : (Int × Int)) : Nat := (fun _ => 0) o
theorem fix_MulDiv.c3_ok (k : Nat) (o12 : Bool) (y14 : Int) (y24 : (Int × Int)) : Owp (fix_MulDiv.c3 k y24) fun o => Triple PR (fix_MulDiv.cx k) (sub fix_MulDiv.code [1, 1, 1, 1, 1, 1, 1, 1, 1, 1, 0, 1]) 0 (fix_MulDiv.c3p o12 y14 y24) (fix_MulDiv.c3x o) (fix_MulDiv.c3n o) (fix_MulDiv.c3q o12 y14 o) := by
  unfold fix_MulDiv.c3; exact
   Owp.bif (fun e26 =>
   Owp.some (triple_way (fix_MulDiv.cok k) hmix [.dec true] [] [] (via (finP (And.intro trivial e26) .normal [] (fix_MulDiv.c3q o12 y14 ((1099511627777 : Int), (0 : Int)))) (by kernel_rfl)))) (fun e26 =>
   Owp.some (triple_way (fix_MulDiv.cok k) hmix [.dec false] [] [] (via (finP (And.intro trivial e26) .normal [] (fix_MulDiv.c3q o12 y14 (y24.1, y24.2))) (by kernel_rfl))))
noncomputable def fix_MulDiv.c4p (o27 : (Int × Int)) (y14 : Int) : SL := ⟨[(13, (.val T2 (icv .i64 o27.1))), (72, (.val T4 (igt o27.2 (isub .u64 y14 o27.2))))], []⟩
noncomputable def fix_MulDiv.c4q (o : Int) : SL := (fun v => ⟨[(13, (.val T2 v))], []⟩) o
noncomputable def fix_MulDiv.c4x (o : Int) : Ex := (fun _ => .normal) o
noncomputable def fix_MulDiv.c4n (o : Int) : Nat := (fun _ => 0) o
theorem fix_MulDiv.c4_ok (k : Nat) (o27 : (Int × Int)) (y14 : Int) : Owp (fix_MulDiv.c4 k o27 y14) fun o => Triple PR (fix_MulDiv.cx k) (sub fix_MulDiv.code [1, 1, 1, 1, 1, 1, 1, 1, 1, 1, 1, 1, 1, 0, 1]) 0 (fix_MulDiv.c4p o27 y14) (fix_MulDiv.c4x o) (fix_MulDiv.c4n o) (fix_MulDiv.c4q o) := by
  unfold fix_MulDiv.c4; exact
   Owp.bif (fun e30 =>
   Owp.some (triple_way (fix_MulDiv.cok k) hmix [.dec true] [] [] (via (finP (And.intro trivial e30) .normal [] (fix_MulDiv.c4q (iadd .i64 (icv .i64 o27.1) (1 : Int)))) (by kernel_rfl)))) (fun e30 =>
   Owp.some (triple_way (fix_MulDiv.cok k) hmix [.dec false] [] [] (via (finP (And.intro trivial e30) .normal [] (fix_MulDiv.c4q (icv .i64 o27.1))) (by kernel_rfl))))
noncomputable def fix_MulDiv.c5p (o27 : (Int × Int)) (y14 : Int) : SL := ⟨[(13, (.val T2 (icv .i64 o27.1))), (63, (.val T4 (ige o27.2 (isub .u64 y14 o27.2))))], []⟩
noncomputable def fix_MulDiv.c5q (o : Int) : SL := (fun v => ⟨[(13, (.val T2 v))], []⟩) o
noncomputable def fix_MulDiv.c5x (o : Int) : Ex := (fun _ => .normal) o
noncomputable def fix_MulDiv.c5n (o : Int) : Nat := (fun _ => 0) o
theorem fix_MulDiv.c5_ok (k : Nat) (o27 : (Int × Int)) (y14 : Int) : Owp (fix_MulDiv.c5 k o27 y14) fun o => Triple PR (fix_MulDiv.cx k) (sub fix_MulDiv.code [1, 1, 1, 1, 1, 1, 1, 1, 1, 1, 1, 1, 0, 1, 0, 0, 1]) 0 (fix_MulDiv.c5p o27 y14) (fix_MulDiv.c5x o) (fix_MulDiv.c5n o) (fix_MulDiv.c5q o) := by
  unfold fix_MulDiv.c5; exact
   Owp.bif (fun e35 =>
   Owp.some (triple_way (fix_MulDiv.cok k) hmix [.dec true] [] [] (via (finP (And.intro trivial e35) .normal [] (fix_MulDiv.c5q (iadd .i64 (icv .i64 o27.1) (1 : Int)))) (by kernel_rfl)))) (fun e35 =>
   Owp.some (triple_way (fix_MulDiv.cok k) hmix [.dec false] [] [] (via (finP (And.intro trivial e35) .normal [] (fix_MulDiv.c5q (icv .i64 o27.1))) (by kernel_rfl))))
theorem fix_MulDiv.way (k : Nat) (a0 : Int) (a1 : Int) (a2 : Int) : Owp (fix_MulDiv k a0 a1 a2) fun y => ∃ answers cmds, exec PR (fix_MulDiv.cx k) fix_MulDiv.code 0 (entry (.pair T2 T33) (a0, a1, a2, ())).st answers (Ret (fix_MulDiv.cx k) Try.f119 cmds (.one (.dp T2)) y) := by
  unfold fix_MulDiv; exact
   Owp.bnd fun y1 e2 =>
   Owp.bnd fun y3 e4 =>
   Owp.bnd fun y5 e6 =>
   Owp.bif (fun e7 =>
   Owp.some (⟨[.res (.one (.dp T2)) y1, .res (.one (.dp T2)) y3, .res (.one (.dp T2)) y5, .dec true], [], via (retP (And.intro (And.intro (And.intro (And.intro trivial e2) e4) e6) e7) (.one (.dp T2)) ((0 : Int) : Int)) (by kernel_rfl)⟩)) (fun e7 =>
   Owp.bnd fun o9 e10 =>
    Owp.bnd fun o12 e13 =>
    Owp.bnd fun y14 e15 =>
    Owp.bnd fun y16 e17 =>
    Owp.bnd fun y18 e19 =>
    Owp.bnd fun y20 e21 =>
    Owp.bif (fun e22 =>
    Owp.bif (fun e23 =>
     Owp.some (⟨[.res (.one (.dp T2)) y1, .res (.one (.dp T2)) y3, .res (.one (.dp T2)) y5, .dec false, .cut ⟨[], [], (fix_MulDiv.c1p y1 y3 y5), 0, .normal, (fix_MulDiv.c1q y1 y3 y5 o9), 0⟩, .cut ⟨[], [], (fix_MulDiv.c2p o9 y1 y3 y5), 0, .normal, (fix_MulDiv.c2q y1 y3 y5 o12), 0⟩, .res (.one (.dp T12)) y14, .res (.one (.dp T12)) y16, .res (.one (.dp T12)) y18, .res (.more (.dp T12) (.one (.dp T12))) y20, .dec true, .dec true], [], via (cutP (And.intro (And.intro (And.intro (And.intro trivial e2) e4) e6) e7) [] (fix_MulDiv.c1p y1 y3 y5) (((fix_MulDiv.c1_ok k y1 y3 y5).ap e10)) (cutP trivial [] (fix_MulDiv.c2p o9 y1 y3 y5) (((fix_MulDiv.c2_ok k o9 y1 y3 y5).ap e13)) (retP (And.intro (And.intro (And.intro (And.intro (And.intro (And.intro trivial e15) e17) e19) e21) e22) e23) (.one (.dp T2)) ((-1099511627776 : Int) : Int)))) (by kernel_rfl)⟩)) (fun e23 =>
     Owp.some (⟨[.res (.one (.dp T2)) y1, .res (.one (.dp T2)) y3, .res (.one (.dp T2)) y5, .dec false, .cut ⟨[], [], (fix_MulDiv.c1p y1 y3 y5), 0, .normal, (fix_MulDiv.c1q y1 y3 y5 o9), 0⟩, .cut ⟨[], [], (fix_MulDiv.c2p o9 y1 y3 y5), 0, .normal, (fix_MulDiv.c2q y1 y3 y5 o12), 0⟩, .res (.one (.dp T12)) y14, .res (.one (.dp T12)) y16, .res (.one (.dp T12)) y18, .res (.more (.dp T12) (.one (.dp T12))) y20, .dec true, .dec false], [], via (cutP (And.intro (And.intro (And.intro (And.intro trivial e2) e4) e6) e7) [] (fix_MulDiv.c1p y1 y3 y5) (((fix_MulDiv.c1_ok k y1 y3 y5).ap e10)) (cutP trivial [] (fix_MulDiv.c2p o9 y1 y3 y5) (((fix_MulDiv.c2_ok k o9 y1 y3 y5).ap e13)) (retP (And.intro (And.intro (And.intro (And.intro (And.intro (And.intro trivial e15) e17) e19) e21) e22) e23) (.one (.dp T2)) ((1099511627776 : Int) : Int)))) (by kernel_rfl)⟩))) (fun e22 =>
    Owp.bnd fun y24 e25 =>
     Owp.bnd fun o27 e28 =>
     Owp.bif (fun e29 =>
     Owp.bnd fun o31 e32 =>
      Owp.bnd fun y33 e34 =>
      Owp.some (⟨[.res (.one (.dp T2)) y1, .res (.one (.dp T2)) y3, .res (.one (.dp T2)) y5, .dec false, .cut ⟨[], [], (fix_MulDiv.c1p y1 y3 y5), 0, .normal, (fix_MulDiv.c1q y1 y3 y5 o9), 0⟩, .cut ⟨[], [], (fix_MulDiv.c2p o9 y1 y3 y5), 0, .normal, (fix_MulDiv.c2q y1 y3 y5 o12), 0⟩, .res (.one (.dp T12)) y14, .res (.one (.dp T12)) y16, .res (.one (.dp T12)) y18, .res (.more (.dp T12) (.one (.dp T12))) y20, .dec false, .res (.more (.dp T12) (.one (.dp T12))) y24, .cut ⟨[], [], (fix_MulDiv.c3p o12 y14 y24), 0, .normal, (fix_MulDiv.c3q o12 y14 o27), 0⟩, .dec false, .cut ⟨[], [], (fix_MulDiv.c4p o27 y14), 0, .normal, (fix_MulDiv.c4q o31), 0⟩, .res (.one (.dp T2)) y33], [], via (cutP (And.intro (And.intro (And.intro (And.intro trivial e2) e4) e6) e7) [] (fix_MulDiv.c1p y1 y3 y5) (((fix_MulDiv.c1_ok k y1 y3 y5).ap e10)) (cutP trivial [] (fix_MulDiv.c2p o9 y1 y3 y5) (((fix_MulDiv.c2_ok k o9 y1 y3 y5).ap e13)) (cutP (And.intro (And.intro (And.intro (And.intro (And.intro (And.intro trivial e15) e17) e19) e21) e22) e25) [] (fix_MulDiv.c3p o12 y14 y24) (((fix_MulDiv.c3_ok k o12 y14 y24).ap e28)) (cutP (And.intro trivial (congrArg not e29)) [] (fix_MulDiv.c4p o27 y14) (((fix_MulDiv.c4_ok k o27 y14).ap e32)) (retP (And.intro trivial e34) (.one (.dp T2)) (y33 : Int)))))) (by kernel_rfl)⟩)) (fun e29 =>
     Owp.bnd fun o36 e37 =>
      Owp.bnd fun y38 e39 =>
      Owp.some (⟨[.res (.one (.dp T2)) y1, .res (.one (.dp T2)) y3, .res (.one (.dp T2)) y5, .dec false, .cut ⟨[], [], (fix_MulDiv.c1p y1 y3 y5), 0, .normal, (fix_MulDiv.c1q y1 y3 y5 o9), 0⟩, .cut ⟨[], [], (fix_MulDiv.c2p o9 y1 y3 y5), 0, .normal, (fix_MulDiv.c2q y1 y3 y5 o12), 0⟩, .res (.one (.dp T12)) y14, .res (.one (.dp T12)) y16, .res (.one (.dp T12)) y18, .res (.more (.dp T12) (.one (.dp T12))) y20, .dec false, .res (.more (.dp T12) (.one (.dp T12))) y24, .cut ⟨[], [], (fix_MulDiv.c3p o12 y14 y24), 0, .normal, (fix_MulDiv.c3q o12 y14 o27), 0⟩, .dec true, .cut ⟨[], [], (fix_MulDiv.c5p o27 y14), 0, .normal, (fix_MulDiv.c5q o36), 0⟩, .res (.one (.dp T2)) y38], [], via (cutP (And.intro (And.intro (And.intro (And.intro trivial e2) e4) e6) e7) [] (fix_MulDiv.c1p y1 y3 y5) (((fix_MulDiv.c1_ok k y1 y3 y5).ap e10)) (cutP trivial [] (fix_MulDiv.c2p o9 y1 y3 y5) (((fix_MulDiv.c2_ok k o9 y1 y3 y5).ap e13)) (cutP (And.intro (And.intro (And.intro (And.intro (And.intro (And.intro trivial e15) e17) e19) e21) e22) e25) [] (fix_MulDiv.c3p o12 y14 y24) (((fix_MulDiv.c3_ok k o12 y14 y24).ap e28)) (cutP (And.intro trivial (congrArg not e29)) [] (fix_MulDiv.c5p o27 y14) (((fix_MulDiv.c5_ok k o27 y14).ap e37)) (retP (And.intro trivial e39) (.one (.dp T2)) (y38 : Int)))))) (by kernel_rfl)⟩))))
theorem fix_MulDiv.ok (k : Nat) : FnOk PR 119 (fix_MulDiv.sp k) :=
  fn_ok (fix_MulDiv.cok k) hmix Try.func119 (code := fix_MulDiv.code) (by kernel_rfl) (by kernel_rfl) (by kernel_rfl) rfl (by kernel_rfl) (by kernel_rfl) (by kernel_rfl) (fun x => Nat.le_of_ble_eq_true (by kernel_rfl)) fun x y hy => (fix_MulDiv.way k x.1 x.2.1 x.2.2.1).ap hy

/-! tourney/fix.Mul -/
noncomputable def fix_Mul.code : Code := Func.cd Try.f78
def fix_Mul (k : Nat) (a0 : Int) (a1 : Int) : Option Int :=
  bnd (fix_MulDiv k a0 a1 65536) fun y1 =>
  some y1
noncomputable def fix_Mul.sp (k : Nat) : Go.Sx.Spec := ⟨T33, (.one (.dp T2)), fun x => fix_Mul k x.1 x.2.1, false⟩
noncomputable def fix_Mul.cx (k : Nat) : Go.Sx.Ctx := ⟨tys, [(119, fix_MulDiv.sp k)], eqs, 8, false⟩
theorem fix_Mul.cok (k : Nat) : CtxOk PR (fix_Mul.cx k) := ctx_ok tysOk eqsOk (FnsOk.cons (fix_MulDiv.ok k) FnsOk.nil)
theorem fix_Mul.way (k : Nat) (a0 : Int) (a1 : Int) : Owp (fix_Mul k a0 a1) fun y => ∃ answers cmds, exec PR (fix_Mul.cx k) fix_Mul.code 0 (entry T33 (a0, a1, ())).st answers (Ret (fix_Mul.cx k) Try.f78 cmds (.one (.dp T2)) y) := by
  unfold fix_Mul; exact
   Owp.bnd fun y1 e2 =>
   Owp.some (⟨[.res (.one (.dp T2)) y1], [], via (retP (And.intro trivial e2) (.one (.dp T2)) (y1 : Int)) (by kernel_rfl)⟩)
theorem fix_Mul.ok (k : Nat) : FnOk PR 78 (fix_Mul.sp k) :=
  fn_ok (fix_Mul.cok k) hmix Try.func78 (code := fix_Mul.code) (by kernel_rfl) (by kernel_rfl) (by kernel_rfl) rfl (by kernel_rfl) (by kernel_rfl) (by kernel_rfl) (fun x => Nat.le_of_ble_eq_true (by kernel_rfl)) fun x y hy => (fix_Mul.way k x.1 x.2.1).ap hy

/-! tourney/fix.Root -/
noncomputable def fix_Root.code : Code := Func.cd Try.f154
def fix_Root.c2 (k : Nat) (a0 : Int) (a1 : Int) (y4 : (Int × Int)) : Option (Bool) :=
  bif' (ilt y4.1 a0)
  (some true)
  (bif' (ieq y4.1 a0)
   (some (ile y4.2 a1))
   (some false))
def fix_Root.c3 (k : Nat) (o8 : Bool) (v1 : Int) (v2 : Int) : Option (Int) :=
  bif' o8
  (some (ibits .or .u64 v1 v2))
  (some v1)
def fix_Root.c1 (k : Nat) (a0 : Int) (a1 : Int) : Nat → Int → Int → Option (Int)
  | 0, _, _ => none
  | n + 1, v1, v2 =>
   bif' (igt v2 0)
   (bnd (bits_Mul64 k (ibits .or .u64 v1 v2) (ibits .or .u64 v1 v2)) fun y4 =>
    bnd (fix_Root.c2 k a0 a1 y4) fun o8 =>
    bnd (fix_Root.c3 k o8 v1 v2) fun o11 =>
    fix_Root.c1 k a0 a1 n o11 (ishr .u64 v2 1))
   (some v1)
def fix_Root (k : Nat) (a0 : Int) (a1 : Int) : Option Int :=
  bnd (fix_Root.c1 k a0 a1 k 0 9223372036854775808) fun o13 =>
  some o13
noncomputable def fix_Root.sp (k : Nat) : Go.Sx.Spec := ⟨(.pair T12 (.pair T12 .unit)), (.one (.dp T12)), fun x => fix_Root k x.1 x.2.1, false⟩
noncomputable def fix_Root.cx (k : Nat) : Go.Sx.Ctx := ⟨tys, [(137, bits_Mul64.sp k)], eqs, 38, false⟩
theorem fix_Root.cok (k : Nat) : CtxOk PR (fix_Root.cx k) := ctx_ok tysOk eqsOk (FnsOk.cons (bits_Mul64.ok k) FnsOk.nil)
noncomputable def fix_Root.c2p (a0 : Int) (a1 : Int) (v1 : Int) (v2 : Int) (y4 : (Int × Int)) : SL := ⟨[(0, (.val T12 a0)), (1, (.val T12 a1)), (5, (.val T12 v1)), (6, (.val T12 v2)), (7, (.val T12 (ibits .or .u64 v1 v2))), (8, (.val T12 y4.1)), (9, (.val T12 y4.2))], []⟩
noncomputable def fix_Root.c2q (a0 : Int) (a1 : Int) (v1 : Int) (v2 : Int) (o : Bool) : SL := (fun v => ⟨[(0, (.val T12 a0)), (1, (.val T12 a1)), (5, (.val T12 v1)), (6, (.val T12 v2)), (7, (.val T12 (ibits .or .u64 v1 v2))), (35, (.val T4 v))], []⟩) o
noncomputable def fix_Root.c2x (o : Bool) : Ex := (fun _ => .normal) o
noncomputable def fix_Root.c2n (o : Bool) : Nat := (fun _ => 0) o
theorem fix_Root.c2_ok (k : Nat) (a0 : Int) (a1 : Int) (v1 : Int) (v2 : Int) (y4 : (Int × Int)) : Owp (fix_Root.c2 k a0 a1 y4) fun o => Triple PR (fix_Root.cx k) (sub fix_Root.code [1, 1, 0, 1, 0, 0, 1, 0, 0, 1, 1, 0]) 0 (fix_Root.c2p a0 a1 v1 v2 y4) (fix_Root.c2x o) (fix_Root.c2n o) (fix_Root.c2q a0 a1 v1 v2 o) := by
  unfold fix_Root.c2; exact
   Owp.bif (fun e6 =>
   Owp.some (triple_way (fix_Root.cok k) hmix [.dec true, .dec true, .dec true, .dec true, .dec true, .dec true, .dec true, .dec true, .dec true, .dec true] [] [] (via (finP (And.intro (And.intro (And.intro (And.intro (And.intro (And.intro trivial e6) e6) e6) e6) e6) e6) .normal [] (fix_Root.c2q a0 a1 v1 v2 true)) (by kernel_rfl)))) (fun e6 =>
   Owp.bif (fun e7 =>
    Owp.some (triple_way (fix_Root.cok k) hmix [.dec false, .dec false, .dec false, .dec false, .dec true, .dec true, .dec true, .dec false, .dec true, .dec false] [] [] (via (finP (And.intro (And.intro (And.intro (And.intro (And.intro (And.intro (And.intro (And.intro (And.intro trivial e6) e6) e6) e6) e7) e7) e7) (And.intro e6 e7)) e6) .normal [] (fix_Root.c2q a0 a1 v1 v2 (ile y4.2 a1))) (by kernel_rfl)))) (fun e7 =>
    Owp.some (triple_way (fix_Root.cok k) hmix [.dec false, .dec false, .dec false, .dec false, .dec false, .dec false, .dec false, .dec false, .dec false, .dec false] [] [] (via (finP (And.intro (And.intro (And.intro (And.intro (And.intro (And.intro (And.intro (And.intro (And.intro trivial e6) e6) e6) e6) e7) e7) e7) (And.intro e6 e7)) e6) .normal [] (fix_Root.c2q a0 a1 v1 v2 false)) (by kernel_rfl)))))
noncomputable def fix_Root.c3p (a0 : Int) (a1 : Int) (o8 : Bool) (v1 : Int) (v2 : Int) : SL := ⟨[(0, (.val T12 a0)), (1, (.val T12 a1)), (5, (.val T12 v1)), (6, (.val T12 v2)), (7, (.val T12 (ibits .or .u64 v1 v2))), (35, (.val T4 o8))], []⟩
noncomputable def fix_Root.c3q (a0 : Int) (a1 : Int) (v2 : Int) (o : Int) : SL := (fun v => ⟨[(0, (.val T12 a0)), (1, (.val T12 a1)), (5, (.val T12 v)), (6, (.val T12 v2))], []⟩) o
noncomputable def fix_Root.c3x (o : Int) : Ex := (fun _ => .normal) o
noncomputable def fix_Root.c3n (o : Int) : Nat := (fun _ => 0) o
theorem fix_Root.c3_ok (k : Nat) (a0 : Int) (a1 : Int) (o8 : Bool) (v1 : Int) (v2 : Int) : Owp (fix_Root.c3 k o8 v1 v2) fun o => Triple PR (fix_Root.cx k) (sub fix_Root.code [1, 1, 0, 1, 0, 0, 1, 0, 0, 1, 1, 1]) 0 (fix_Root.c3p a0 a1 o8 v1 v2) (fix_Root.c3x o) (fix_Root.c3n o) (fix_Root.c3q a0 a1 v2 o) := by
  unfold fix_Root.c3; exact
   Owp.bif (fun e10 =>
   Owp.some (triple_way (fix_Root.cok k) hmix [.dec true] [] [] (via (finP (And.intro trivial e10) .normal [] (fix_Root.c3q a0 a1 v2 (ibits .or .u64 v1 v2))) (by kernel_rfl)))) (fun e10 =>
   Owp.some (triple_way (fix_Root.cok k) hmix [.dec false] [] [] (via (finP (And.intro trivial e10) .normal [] (fix_Root.c3q a0 a1 v2 v1)) (by kernel_rfl))))
noncomputable def fix_Root.c1p (a0 : Int) (a1 : Int) (v1 : Int) (v2 : Int) : SL := ⟨[(0, (.val T12 a0)), (1, (.val T12 a1)), (5, (.val T12 v1)), (6, (.val T12 v2))], []⟩
noncomputable def fix_Root.c1q (o : Int) : SL := (fun v => ⟨[(5, (.val T12 v))], []⟩) o
noncomputable def fix_Root.c1x (o : Int) : Ex := (fun _ => (.exit 0)) o
noncomputable def fix_Root.c1n (o : Int) : Nat := (fun _ => 0) o
theorem fix_Root.c1_ok (k : Nat) (a0 : Int) (a1 : Int) : ∀ (n : Nat) (v1 : Int) (v2 : Int), Owp (fix_Root.c1 k a0 a1 n v1 v2) fun o => LTriple PR (fix_Root.cx k) (sub fix_Root.code [1, 1, 0, 1, 0, 0]) 0 (fix_Root.c1p a0 a1 v1 v2) (fix_Root.c1x o) (fix_Root.c1n o) (fix_Root.c1q o)
  | 0, _, _ => fun _ h => nomatch h
  | n + 1, v1, v2 => Owp.of (fix_Root.c1.eq_2 ..) (
   Owp.bif (fun e3 =>
   Owp.bnd fun y4 e5 =>
    Owp.bnd fun o8 e9 =>
    Owp.bnd fun o11 e12 =>
    fun y hy => loop_back (fix_Root.cok k) hmix 0 (fix_Root.c1p a0 a1 o11 (ishr .u64 v2 (1 : Int))) [.dec true, .res (.more (.dp T12) (.one (.dp T12))) y4, .cutR 7 ⟨[], [], (fix_Root.c2p a0 a1 v1 v2 y4), 0, .normal, (fix_Root.c2q a0 a1 v1 v2 o8), 0⟩, .cut ⟨[], [], (fix_Root.c3p a0 a1 o8 v1 v2), 0, .normal, (fix_Root.c3q a0 a1 v2 o11), 0⟩] [] [] (via (cutP (And.intro (And.intro trivial e3) e5) [] (fix_Root.c2p a0 a1 v1 v2 y4) (((fix_Root.c2_ok k a0 a1 v1 v2 y4).ap e9)) (cutP trivial [] (fix_Root.c3p a0 a1 o8 v1 v2) (((fix_Root.c3_ok k a0 a1 o8 v1 v2).ap e12)) (finP (And.intro trivial (by decide : ng (1 : Int))) .normal [] (fix_Root.c1p a0 a1 o11 (ishr .u64 v2 (1 : Int)))))) (by kernel_rfl)) ((fix_Root.c1_ok k a0 a1 n o11 (ishr .u64 v2 (1 : Int))).ap hy)) (fun e3 =>
   Owp.some (loop_exit (fix_Root.cok k) hmix [.dec false] [] [] (exne 0) (via (finP (And.intro trivial e3) (.exit 0) [] (fix_Root.c1q v1)) (by kernel_rfl)))))
theorem fix_Root.way (k : Nat) (a0 : Int) (a1 : Int) : Owp (fix_Root k a0 a1) fun y => ∃ answers cmds, exec PR (fix_Root.cx k) fix_Root.code 0 (entry (.pair T12 (.pair T12 .unit)) (a0, a1, ())).st answers (Ret (fix_Root.cx k) Try.f154 cmds (.one (.dp T12)) y) := by
  unfold fix_Root; exact
   Owp.bnd fun o13 e14 =>
   Owp.some (⟨[.cut ⟨[], [], (fix_Root.c1p a0 a1 (0 : Int) (9223372036854775808 : Int)), 0, (.exit 0), (fix_Root.c1q o13), 0⟩], [], via (cutP trivial [] (fix_Root.c1p a0 a1 (0 : Int) (9223372036854775808 : Int)) (((fix_Root.c1_ok k a0 a1 k (0 : Int) (9223372036854775808 : Int)).ap e14).triple) (retP trivial (.one (.dp T12)) (o13 : Int))) (by kernel_rfl)⟩)
theorem fix_Root.ok (k : Nat) : FnOk PR 154 (fix_Root.sp k) :=
  fn_ok (fix_Root.cok k) hmix Try.func154 (code := fix_Root.code) (by kernel_rfl) (by kernel_rfl) (by kernel_rfl) rfl (by kernel_rfl) (by kernel_rfl) (by kernel_rfl) (fun x => Nat.le_of_ble_eq_true (by kernel_rfl)) fun x y hy => (fix_Root.way k x.1 x.2.1).ap hy

/-! tourney/vec.Scale -/
noncomputable def vec_Scale.code : Code := Func.cd Try.f29
def vec_Scale (k : Nat) (a0 : V33) (a1 : Int) : Option V33 :=
  bnd (fix_Mul k a0.1 a1) fun y1 =>
  bnd (fix_Mul k a0.2.1 a1) fun y3 =>
  some (y1, y3, ())
noncomputable def vec_Scale.sp (k : Nat) : Go.Sx.Spec := ⟨(.pair T33 (.pair T2 .unit)), (.one (.dp T33)), fun x => vec_Scale k x.1 x.2.1, false⟩
noncomputable def vec_Scale.cx (k : Nat) : Go.Sx.Ctx := ⟨tys, [(78, fix_Mul.sp k)], eqs, 14, false⟩
theorem vec_Scale.cok (k : Nat) : CtxOk PR (vec_Scale.cx k) := ctx_ok tysOk eqsOk (FnsOk.cons (fix_Mul.ok k) FnsOk.nil)
theorem vec_Scale.way (k : Nat) (a0 : V33) (a1 : Int) : Owp (vec_Scale k a0 a1) fun y => ∃ answers cmds, exec PR (vec_Scale.cx k) vec_Scale.code 0 (entry (.pair T33 (.pair T2 .unit)) (a0, a1, ())).st answers (Ret (vec_Scale.cx k) Try.f29 cmds (.one (.dp T33)) y) := by
  unfold vec_Scale; exact
   Owp.bnd fun y1 e2 =>
   Owp.bnd fun y3 e4 =>
   Owp.some (⟨[.res (.one (.dp T2)) y1, .res (.one (.dp T2)) y3], [], via (retP (And.intro (And.intro trivial e2) e4) (.one (.dp T33)) ((y1, y3, ()) : V33)) (by kernel_rfl)⟩)
theorem vec_Scale.ok (k : Nat) : FnOk PR 29 (vec_Scale.sp k) :=
  fn_ok (vec_Scale.cok k) hmix Try.func29 (code := vec_Scale.code) (by kernel_rfl) (by kernel_rfl) (by kernel_rfl) rfl (by kernel_rfl) (by kernel_rfl) (by kernel_rfl) (fun x => Nat.le_of_ble_eq_true (by kernel_rfl)) fun x y hy => (vec_Scale.way k x.1 x.2.1).ap hy

/-! tourney/vec.mag -/
noncomputable def vec_mag.code : Code := Func.cd Try.f116
def vec_mag (k : Nat) (a0 : Int) : Option Int :=
  some (icv .u64 (imax a0 (ineg .i64 a0)))
noncomputable def vec_mag.sp (k : Nat) : Go.Sx.Spec := ⟨(.pair T2 .unit), (.one (.dp T12)), fun x => vec_mag k x.1, false⟩
noncomputable def vec_mag.cx (k : Nat) : Go.Sx.Ctx := ⟨tys, [], eqs, 8, false⟩
theorem vec_mag.cok (k : Nat) : CtxOk PR (vec_mag.cx k) := ctx_ok tysOk eqsOk FnsOk.nil
theorem vec_mag.way (k : Nat) (a0 : Int) : Owp (vec_mag k a0) fun y => ∃ answers cmds, exec PR (vec_mag.cx k) vec_mag.code 0 (entry (.pair T2 .unit) (a0, ())).st answers (Ret (vec_mag.cx k) Try.f116 cmds (.one (.dp T12)) y) := by
  unfold vec_mag; exact
   Owp.some (⟨[], [], via (retP trivial (.one (.dp T12)) ((icv .u64 (imax a0 (ineg .i64 a0))) : Int)) (by kernel_rfl)⟩)
theorem vec_mag.ok (k : Nat) : FnOk PR 116 (vec_mag.sp k) :=
  fn_ok (vec_mag.cok k) hmix Try.func116 (code := vec_mag.code) (by kernel_rfl) (by kernel_rfl) (by kernel_rfl) rfl (by kernel_rfl) (by kernel_rfl) (by kernel_rfl) (fun x => Nat.le_of_ble_eq_true (by kernel_rfl)) fun x y hy => (vec_mag.way k x.1).ap hy

/-! tourney/vec.length -/
noncomputable def vec_length.code : Code := Func.cd Try.f117
def vec_length (k : Nat) (a0 : Int) (a1 : Int) : Option Int :=
  bnd (vec_mag k a0) fun y1 =>
  bnd (vec_mag k a0) fun y3 =>
  bnd (bits_Mul64 k y1 y3) fun y5 =>
  bnd (vec_mag k a1) fun y7 =>
  bnd (vec_mag k a1) fun y9 =>
  bnd (bits_Mul64 k y7 y9) fun y11 =>
  bnd (bits_Add64 k y5.2 y11.2 0) fun y13 =>
  bnd (bits_Add64 k y5.1 y11.1 y13.2) fun y15 =>
  bnd (fix_Root k y15.1 y13.1) fun y17 =>
  some (icv .i64 y17)
noncomputable def vec_length.sp (k : Nat) : Go.Sx.Spec := ⟨T33, (.one (.dp T2)), fun x => vec_length k x.1 x.2.1, false⟩
noncomputable def vec_length.cx (k : Nat) : Go.Sx.Ctx := ⟨tys, [(116, vec_mag.sp k), (137, bits_Mul64.sp k), (153, bits_Add64.sp k), (154, fix_Root.sp k)], eqs, 46, false⟩
theorem vec_length.cok (k : Nat) : CtxOk PR (vec_length.cx k) := ctx_ok tysOk eqsOk (FnsOk.cons (vec_mag.ok k) (FnsOk.cons (bits_Mul64.ok k) (FnsOk.cons (bits_Add64.ok k) (FnsOk.cons (fix_Root.ok k) FnsOk.nil))))
theorem vec_length.way (k : Nat) (a0 : Int) (a1 : Int) : Owp (vec_length k a0 a1) fun y => ∃ answers cmds, exec PR (vec_length.cx k) vec_length.code 0 (entry T33 (a0, a1, ())).st answers (Ret (vec_length.cx k) Try.f117 cmds (.one (.dp T2)) y) := by
  unfold vec_length; exact
   Owp.bnd fun y1 e2 =>
   Owp.bnd fun y3 e4 =>
   Owp.bnd fun y5 e6 =>
   Owp.bnd fun y7 e8 =>
   Owp.bnd fun y9 e10 =>
   Owp.bnd fun y11 e12 =>
   Owp.bnd fun y13 e14 =>
   Owp.bnd fun y15 e16 =>
   Owp.bnd fun y17 e18 =>
   Owp.some (⟨[.res (.one (.dp T12)) y1, .res (.one (.dp T12)) y3, .res (.more (.dp T12) (.one (.dp T12))) y5, .res (.one (.dp T12)) y7, .res (.one (.dp T12)) y9, .res (.more (.dp T12) (.one (.dp T12))) y11, .res (.more (.dp T12) (.one (.dp T12))) y13, .res (.more (.dp T12) (.one (.dp T12))) y15, .res (.one (.dp T12)) y17], [], via (retP (And.intro (And.intro (And.intro (And.intro (And.intro (And.intro (And.intro (And.intro (And.intro trivial e2) e4) e6) e8) e10) e12) e14) e16) e18) (.one (.dp T2)) ((icv .i64 y17) : Int)) (by kernel_rfl)⟩)
theorem vec_length.ok (k : Nat) : FnOk PR 117 (vec_length.sp k) :=
  fn_ok (vec_length.cok k) hmix Try.func117 (code := vec_length.code) (by kernel_rfl) (by kernel_rfl) (by kernel_rfl) rfl (by kernel_rfl) (by kernel_rfl) (by kernel_rfl) (fun x => Nat.le_of_ble_eq_true (by kernel_rfl)) fun x y hy => (vec_length.way k x.1 x.2.1).ap hy

/-! tourney/vec.through -/
noncomputable def vec_through.code : Code := Func.cd Try.f118
def vec_through.c1 (k : Nat) (a0 : Int) (a1 : Int) : Option (Bool) :=
  bif' (ilt (iadd .i64 (imul .i64 (imul .i64 2 a0) 65536) a1) 0)
  (req (nz (imul .i64 2 a1)) <|
   some (ine (irem (iadd .i64 (imul .i64 (imul .i64 2 a0) 65536) a1) (imul .i64 2 a1)) 0))
  (some false)
def vec_through (k : Nat) (a0 : Int) (a1 : Int) : Option Int :=
  req (nz (imul .i64 2 a1)) <|
  bnd (vec_through.c1 k a0 a1) fun o4 =>
  bif' o4
  (some (isub .i64 (iquo .i64 (iadd .i64 (imul .i64 (imul .i64 2 a0) 65536) a1) (imul .i64 2 a1)) 1))
  (some (iquo .i64 (iadd .i64 (imul .i64 (imul .i64 2 a0) 65536) a1) (imul .i64 2 a1)))
noncomputable def vec_through.sp (k : Nat) : Go.Sx.Spec := ⟨T33, (.one (.dp T2)), fun x => vec_through k x.1 x.2.1, false⟩
noncomputable def vec_through.cx (k : Nat) : Go.Sx.Ctx := ⟨tys, [], eqs, 28, false⟩
theorem vec_through.cok (k : Nat) : CtxOk PR (vec_through.cx k) := ctx_ok tysOk eqsOk FnsOk.nil
noncomputable def vec_through.c1p (a0 : Int) (a1 : Int) : SL := ⟨[(1, (.val T2 a1)), (5, (.val T2 (iadd .i64 (imul .i64 (imul .i64 (2 : Int) a0) (65536 : Int)) a1))), (6, (.val T2 (iquo .i64 (iadd .i64 (imul .i64 (imul .i64 (2 : Int) a0) (65536 : Int)) a1) (imul .i64 (2 : Int) a1))))], []⟩
noncomputable def vec_through.c1q (a0 : Int) (a1 : Int) (o : Bool) : SL := (fun v => ⟨[(6, (.val T2 (iquo .i64 (iadd .i64 (imul .i64 (imul .i64 (2 : Int) a0) (65536 : Int)) a1) (imul .i64 (2 : Int) a1)))), (24, (.val T4 v))], []⟩) o
noncomputable def vec_through.c1x (o : Bool) : Ex := (fun _ => .normal) o
noncomputable def vec_through.c1n (o : Bool) : Nat := (fun _ => 0) o
theorem vec_through.c1_ok (k : Nat) (a0 : Int) (a1 : Int) : Owp (vec_through.c1 k a0 a1) fun o => Triple PR (vec_through.cx k) (sub vec_through.code [1, 1, 1, 0, 0]) 0 (vec_through.c1p a0 a1) (vec_through.c1x o) (vec_through.c1n o) (vec_through.c1q a0 a1 o) := by
  unfold vec_through.c1; exact
   Owp.bif (fun e2 =>
   Owp.req fun h3 =>
    Owp.some (triple_way (vec_through.cok k) hmix [.dec true, .dec true, .dec true, .dec true, .dec true, .dec true] [] [] (via (finP (And.intro (And.intro (And.intro (And.intro (And.intro (And.intro trivial e2) e2) e2) (And.intro e2 h3)) e2) e2) .normal [] (vec_through.c1q a0 a1 (ine (irem (iadd .i64 (imul .i64 (imul .i64 (2 : Int) a0) (65536 : Int)) a1) (imul .i64 (2 : Int) a1)) (0 : Int)))) (by kernel_rfl)))) (fun e2 =>
   Owp.some (triple_way (vec_through.cok k) hmix [.dec false, .dec false, .dec false, .dec false, .dec false, .dec false] [] [] (via (finP (And.intro (And.intro (And.intro (And.intro (And.intro (And.intro trivial e2) e2) e2) e2) e2) e2) .normal [] (vec_through.c1q a0 a1 false)) (by kernel_rfl))))
theorem vec_through.way (k : Nat) (a0 : Int) (a1 : Int) : Owp (vec_through k a0 a1) fun y => ∃ answers cmds, exec PR (vec_through.cx k) vec_through.code 0 (entry T33 (a0, a1, ())).st answers (Ret (vec_through.cx k) Try.f118 cmds (.one (.dp T2)) y) := by
  unfold vec_through; exact
   Owp.req fun h1 =>
   Owp.bnd fun o4 e5 =>
   Owp.bif (fun e6 =>
   Owp.some (⟨[.cutR 3 ⟨[], [], (vec_through.c1p a0 a1), 0, .normal, (vec_through.c1q a0 a1 o4), 0⟩, .dec true], [], via (cutP (And.intro trivial h1) [] (vec_through.c1p a0 a1) (((vec_through.c1_ok k a0 a1).ap e5)) (retP (And.intro trivial e6) (.one (.dp T2)) ((isub .i64 (iquo .i64 (iadd .i64 (imul .i64 (imul .i64 (2 : Int) a0) (65536 : Int)) a1) (imul .i64 (2 : Int) a1)) (1 : Int)) : Int))) (by kernel_rfl)⟩)) (fun e6 =>
   Owp.some (⟨[.cutR 3 ⟨[], [], (vec_through.c1p a0 a1), 0, .normal, (vec_through.c1q a0 a1 o4), 0⟩, .dec false], [], via (cutP (And.intro trivial h1) [] (vec_through.c1p a0 a1) (((vec_through.c1_ok k a0 a1).ap e5)) (retP (And.intro trivial e6) (.one (.dp T2)) ((iquo .i64 (iadd .i64 (imul .i64 (imul .i64 (2 : Int) a0) (65536 : Int)) a1) (imul .i64 (2 : Int) a1)) : Int))) (by kernel_rfl)⟩))
theorem vec_through.ok (k : Nat) : FnOk PR 118 (vec_through.sp k) :=
  fn_ok (vec_through.cok k) hmix Try.func118 (code := vec_through.code) (by kernel_rfl) (by kernel_rfl) (by kernel_rfl) rfl (by kernel_rfl) (by kernel_rfl) (by kernel_rfl) (fun x => Nat.le_of_ble_eq_true (by kernel_rfl)) fun x y hy => (vec_through.way k x.1 x.2.1).ap hy

/-! tourney/vec.Unit -/
noncomputable def vec_Unit.code : Code := Func.cd Try.f77
def vec_Unit.c1 (k : Nat) (y1 : Int) (y3 : Int) : Option (Bool) :=
  bif' (ieq y1 0)
  (some (ieq y3 0))
  (some false)
def vec_Unit.c2 (k : Nat) : Nat → Int → Int → Option ((Int × Int))
  | 0, _, _ => none
  | n + 1, v9, v10 =>
   bnd (vec_mag k v9) fun y11 =>
   bnd (vec_mag k v10) fun y13 =>
   bif' (ilt (imax y11 y13) 1073741824)
   (vec_Unit.c2 k n (imul .i64 2 v9) (imul .i64 2 v10))
   (some (v9, v10))
def vec_Unit (k : Nat) (a0 : V33) : Option V33 :=
  bnd (fix_Clamp k a0.1) fun y1 =>
  bnd (fix_Clamp k a0.2.1) fun y3 =>
  bnd (vec_Unit.c1 k y1 y3) fun o6 =>
  bif' o6
  (some (0, 0, ()))
  (bnd (vec_Unit.c2 k k y1 y3) fun o16 =>
   bnd (vec_length k o16.1 o16.2) fun y18 =>
   bnd (vec_through k o16.1 y18) fun y20 =>
   bnd (vec_through k o16.2 y18) fun y22 =>
   some (y20, y22, ()))
noncomputable def vec_Unit.sp (k : Nat) : Go.Sx.Spec := ⟨(.pair T33 .unit), (.one (.dp T33)), fun x => vec_Unit k x.1, false⟩
noncomputable def vec_Unit.cx (k : Nat) : Go.Sx.Ctx := ⟨tys, [(115, fix_Clamp.sp k), (116, vec_mag.sp k), (117, vec_length.sp k), (118, vec_through.sp k)], eqs, 39, false⟩
theorem vec_Unit.cok (k : Nat) : CtxOk PR (vec_Unit.cx k) := ctx_ok tysOk eqsOk (FnsOk.cons (fix_Clamp.ok k) (FnsOk.cons (vec_mag.ok k) (FnsOk.cons (vec_length.ok k) (FnsOk.cons (vec_through.ok k) FnsOk.nil))))
noncomputable def vec_Unit.c1p (y1 : Int) (y3 : Int) : SL := ⟨[(2, (.val .ptr ⟨0, 0, (0 : Int), 0, 0⟩)), (3, (.val T2 y1)), (4, (.val T2 y3))], [(0, .cells T33 ((0 : Int), (0 : Int), ()))]⟩
noncomputable def vec_Unit.c1q (y1 : Int) (y3 : Int) (o : Bool) : SL := (fun v => ⟨[(2, (.val .ptr ⟨0, 0, (0 : Int), 0, 0⟩)), (3, (.val T2 y1)), (4, (.val T2 y3)), (17, (.val T4 v))], [(0, .cells T33 ((0 : Int), (0 : Int), ()))]⟩) o
noncomputable def vec_Unit.c1x (o : Bool) : Ex := (fun _ => .normal) o
noncomputable def vec_Unit.c1n (o : Bool) : Nat := (fun _ => 1) o
theorem vec_Unit.c1_ok (k : Nat) (y1 : Int) (y3 : Int) : Owp (vec_Unit.c1 k y1 y3) fun o => Triple PR (vec_Unit.cx k) (sub vec_Unit.code [1, 1, 0, 0]) 1 (vec_Unit.c1p y1 y3) (vec_Unit.c1x o) (vec_Unit.c1n o) (vec_Unit.c1q y1 y3 o) := by
  unfold vec_Unit.c1; exact
   Owp.bif (fun e5 =>
   Owp.some (triple_way (vec_Unit.cok k) hmix [.dec true, .dec true, .dec true] [] [(0, 0)] (via (finP (And.intro (And.intro (And.intro trivial e5) e5) e5) .normal [(0, 0)] (vec_Unit.c1q y1 y3 (ieq y3 (0 : Int)))) (by kernel_rfl)))) (fun e5 =>
   Owp.some (triple_way (vec_Unit.cok k) hmix [.dec false, .dec false, .dec false] [] [(0, 0)] (via (finP (And.intro (And.intro (And.intro trivial e5) e5) e5) .normal [(0, 0)] (vec_Unit.c1q y1 y3 false)) (by kernel_rfl))))
noncomputable def vec_Unit.c2p (v9 : Int) (v10 : Int) : SL := ⟨[(2, (.val .ptr ⟨0, 0, (0 : Int), 0, 0⟩)), (3, (.val T2 v9)), (4, (.val T2 v10))], [(0, .cells T33 ((0 : Int), (0 : Int), ()))]⟩
noncomputable def vec_Unit.c2q (o : (Int × Int)) : SL := (fun v => ⟨[(2, (.val .ptr ⟨0, 0, (0 : Int), 0, 0⟩)), (3, (.val T2 v.1)), (4, (.val T2 v.2))], [(0, .cells T33 ((0 : Int), (0 : Int), ()))]⟩) o
noncomputable def vec_Unit.c2x (o : (Int × Int)) : Ex := (fun _ => (.exit 0)) o
noncomputable def vec_Unit.c2n (o : (Int × Int)) : Nat := (fun _ => 1) o
theorem vec_Unit.c2_ok (k : Nat) : ∀ (n : Nat) (v9 : Int) (v10 : Int), Owp (vec_Unit.c2 k n v9 v10) fun o => LTriple PR (vec_Unit.cx k) (sub vec_Unit.code [1, 1, 1, 0, 0, 0]) 1 (vec_Unit.c2p v9 v10) (vec_Unit.c2x o) (vec_Unit.c2n o) (vec_Unit.c2q o)
  | 0, _, _ => fun _ h => nomatch h
  | n + 1, v9, v10 => Owp.of (vec_Unit.c2.eq_2 ..) (
   Owp.bnd fun y11 e12 =>
   Owp.bnd fun y13 e14 =>
   Owp.bif (fun e15 =>
   fun y hy => loop_back (vec_Unit.cok k) hmix 1 (vec_Unit.c2p (imul .i64 (2 : Int) v9) (imul .i64 (2 : Int) v10)) [.res (.one (.dp T12)) y11, .res (.one (.dp T12)) y13, .dec true] [] [(0, 0)] (via (finP (And.intro (And.intro (And.intro trivial e12) e14) e15) .normal [(0, 0)] (vec_Unit.c2p (imul .i64 (2 : Int) v9) (imul .i64 (2 : Int) v10))) (by kernel_rfl)) ((vec_Unit.c2_ok k n (imul .i64 (2 : Int) v9) (imul .i64 (2 : Int) v10)).ap hy)) (fun e15 =>
   Owp.some (loop_exit (vec_Unit.cok k) hmix [.res (.one (.dp T12)) y11, .res (.one (.dp T12)) y13, .dec false] [] [(0, 0)] (exne 0) (via (finP (And.intro (And.intro (And.intro trivial e12) e14) e15) (.exit 0) [(0, 0)] (vec_Unit.c2q (v9, v10))) (by kernel_rfl)))))
theorem vec_Unit.way (k : Nat) (a0 : V33) : Owp (vec_Unit k a0) fun y => ∃ answers cmds, exec PR (vec_Unit.cx k) vec_Unit.code 0 (entry (.pair T33 .unit) (a0, ())).st answers (Ret (vec_Unit.cx k) Try.f77 cmds (.one (.dp T33)) y) := by
  unfold vec_Unit; exact
   Owp.bnd fun y1 e2 =>
   Owp.bnd fun y3 e4 =>
   Owp.bnd fun o6 e7 =>
   Owp.bif (fun e8 =>
   Owp.some (⟨[.res (.one (.dp T2)) y1, .res (.one (.dp T2)) y3, .cutR 2 ⟨[], [(0, 1)], (vec_Unit.c1p y1 y3), 1, .normal, (vec_Unit.c1q y1 y3 o6), 1⟩, .dec true], [], via (cutP (And.intro (And.intro trivial e2) e4) [(0, 1)] (vec_Unit.c1p y1 y3) (((vec_Unit.c1_ok k y1 y3).ap e7)) (retP (And.intro trivial e8) (.one (.dp T33)) (((0 : Int), (0 : Int), ()) : V33))) (by kernel_rfl)⟩)) (fun e8 =>
   Owp.bnd fun o16 e17 =>
    Owp.bnd fun y18 e19 =>
    Owp.bnd fun y20 e21 =>
    Owp.bnd fun y22 e23 =>
    Owp.some (⟨[.res (.one (.dp T2)) y1, .res (.one (.dp T2)) y3, .cutR 2 ⟨[], [(0, 1)], (vec_Unit.c1p y1 y3), 1, .normal, (vec_Unit.c1q y1 y3 o6), 1⟩, .dec false, .cut ⟨[], [(0, 0)], (vec_Unit.c2p y1 y3), 1, (.exit 0), (vec_Unit.c2q o16), 1⟩, .res (.one (.dp T2)) y18, .res (.one (.dp T2)) y20, .res (.one (.dp T2)) y22], [], via (cutP (And.intro (And.intro trivial e2) e4) [(0, 1)] (vec_Unit.c1p y1 y3) (((vec_Unit.c1_ok k y1 y3).ap e7)) (cutP (And.intro trivial e8) [(0, 0)] (vec_Unit.c2p y1 y3) (((vec_Unit.c2_ok k k y1 y3).ap e17).triple) (retP (And.intro (And.intro (And.intro trivial e19) e21) e23) (.one (.dp T33)) ((y20, y22, ()) : V33)))) (by kernel_rfl)⟩))
theorem vec_Unit.ok (k : Nat) : FnOk PR 77 (vec_Unit.sp k) :=
  fn_ok (vec_Unit.cok k) hmix Try.func77 (code := vec_Unit.code) (by kernel_rfl) (by kernel_rfl) (by kernel_rfl) rfl (by kernel_rfl) (by kernel_rfl) (by kernel_rfl) (fun x => Nat.le_of_ble_eq_true (by kernel_rfl)) fun x y hy => (vec_Unit.way k x.1).ap hy

/-! slices.Equal[[]tourney/api.Vec,tourney/api.Vec] -/
noncomputable def slices_Equal.code : Code := Func.cd Try.f15
def slices_Equal.c1 (k : Nat) (a0 : (List V33)) (a1 : (List V33)) : Nat → Int → Option (Unit ⊕ Unit)
  | 0, _ => none
  | n + 1, v2 =>
   bif' (ilt v2 (len a0))
   (req (inL v2 a0) <|
    req (inL v2 a1) <|
    bif' (Ty.eqb T33 (el Z33 a0 v2) (el Z33 a1 v2))
    (slices_Equal.c1 k a0 a1 n (iadd .i64 v2 1))
    (some (.inl ())))
   (some (.inr ()))
def slices_Equal (k : Nat) (a0 : (List V33)) (a1 : (List V33)) : Option Bool :=
  bif' (ine (len a0) (len a1))
  (some false)
  (bnd (slices_Equal.c1 k a0 a1 k 0) fun o7 =>
   two o7 (fun y9 =>
   some false) (fun y11 =>
   some true))
noncomputable def slices_Equal.sp (k : Nat) : Go.Sx.Spec := ⟨(.pair T22 (.pair T22 .unit)), (.one (.dp T4)), fun x => slices_Equal k x.1 x.2.1, false⟩
noncomputable def slices_Equal.cx (k : Nat) : Go.Sx.Ctx := ⟨tys, [], eqs, 26, false⟩
theorem slices_Equal.cok (k : Nat) : CtxOk PR (slices_Equal.cx k) := ctx_ok tysOk eqsOk FnsOk.nil
noncomputable def slices_Equal.c1p (a0 : (List V33)) (a1 : (List V33)) (v2 : Int) : SL := ⟨[(0, (.val T22 a0)), (1, (.val T22 a1)), (12, (.val T2 (len a0))), (13, (.val T2 v2))], []⟩
noncomputable def slices_Equal.c1q (o : Unit ⊕ Unit) : SL := (fun o => two o (fun v => ⟨[(4, (.val T4 false))], []⟩) (fun v => ⟨[], []⟩)) o
noncomputable def slices_Equal.c1x (o : Unit ⊕ Unit) : Ex := (fun o => two o (fun _ => .ret) (fun _ => (.exit 0))) o
noncomputable def slices_Equal.c1n (o : Unit ⊕ Unit) : Nat := (fun o => two o (fun _ => 0) (fun _ => 0)) o
theorem slices_Equal.c1_ok (k : Nat) (a0 : (List V33)) (a1 : (List V33)) : ∀ (n : Nat) (v2 : Int), Owp (slices_Equal.c1 k a0 a1 n v2) fun o => LTriple PR (slices_Equal.cx k) (sub slices_Equal.code [1, 1, 0, 1, 0, 0]) 0 (slices_Equal.c1p a0 a1 v2) (slices_Equal.c1x o) (slices_Equal.c1n o) (slices_Equal.c1q o)
  | 0, _ => fun _ h => nomatch h
  | n + 1, v2 => Owp.of (slices_Equal.c1.eq_2 ..) (
   Owp.bif (fun e3 =>
   Owp.req fun h4 =>
    Owp.req fun h5 =>
    Owp.bif (fun e6 =>
    fun y hy => loop_back (slices_Equal.cok k) hmix 0 (slices_Equal.c1p a0 a1 (iadd .i64 v2 (1 : Int))) [.dec true, .dec false] [] [] (via (finP (And.intro (And.intro (And.intro (And.intro trivial e3) h4) h5) (congrArg not e6)) .normal [] (slices_Equal.c1p a0 a1 (iadd .i64 v2 (1 : Int)))) (by kernel_rfl)) ((slices_Equal.c1_ok k a0 a1 n (iadd .i64 v2 (1 : Int))).ap hy)) (fun e6 =>
    Owp.some (loop_exit (slices_Equal.cok k) hmix [.dec true, .dec true] [] [] exne_ret (via (finP (And.intro (And.intro (And.intro (And.intro trivial e3) h4) h5) (congrArg not e6)) .ret [] (slices_Equal.c1q (.inl ()))) (by kernel_rfl))))) (fun e3 =>
   Owp.some (loop_exit (slices_Equal.cok k) hmix [.dec false] [] [] (exne 0) (via (finP (And.intro trivial e3) (.exit 0) [] (slices_Equal.c1q (.inr ()))) (by kernel_rfl)))))
theorem slices_Equal.way (k : Nat) (a0 : (List V33)) (a1 : (List V33)) : Owp (slices_Equal k a0 a1) fun y => ∃ answers cmds, exec PR (slices_Equal.cx k) slices_Equal.code 0 (entry (.pair T22 (.pair T22 .unit)) (a0, a1, ())).st answers (Ret (slices_Equal.cx k) Try.f15 cmds (.one (.dp T4)) y) := by
  unfold slices_Equal; exact
   Owp.bif (fun e1 =>
   Owp.some (⟨[.dec true], [], via (retP (And.intro trivial e1) (.one (.dp T4)) (false : Bool)) (by kernel_rfl)⟩)) (fun e1 =>
   Owp.bnd fun o7 e8 =>
    Owp.two (fun y9 e10 =>
    Owp.some (⟨[.dec false, .cut ⟨[], [], (slices_Equal.c1p a0 a1 (0 : Int)), 0, .ret, (slices_Equal.c1q (.inl ())), 0⟩], [], via (cutP (And.intro trivial e1) [] (slices_Equal.c1p a0 a1 (0 : Int)) (((slices_Equal.c1_ok k a0 a1 k (0 : Int)).ap (e8.trans (congrArg some e10))).triple) (retP trivial (.one (.dp T4)) (false : Bool))) (by kernel_rfl)⟩)) (fun y11 e12 =>
    Owp.some (⟨[.dec false, .cut ⟨[], [], (slices_Equal.c1p a0 a1 (0 : Int)), 0, (.exit 0), (slices_Equal.c1q (.inr ())), 0⟩], [], via (cutP (And.intro trivial e1) [] (slices_Equal.c1p a0 a1 (0 : Int)) (((slices_Equal.c1_ok k a0 a1 k (0 : Int)).ap (e8.trans (congrArg some e12))).triple) (retP trivial (.one (.dp T4)) (true : Bool))) (by kernel_rfl)⟩)))
theorem slices_Equal.ok (k : Nat) : FnOk PR 15 (slices_Equal.sp k) :=
  fn_ok (slices_Equal.cok k) hmix Try.func15 (code := slices_Equal.code) (by kernel_rfl) (by kernel_rfl) (by kernel_rfl) rfl (by kernel_rfl) (by kernel_rfl) (by kernel_rfl) (fun x => Nat.le_of_ble_eq_true (by kernel_rfl)) fun x y hy => (slices_Equal.way k x.1 x.2.1).ap hy

/-! slices.Clone[[]tourney/api.Box,tourney/api.Box] -/
noncomputable def slices_Clone.code : Code := Func.cd Try.f31
def slices_Clone (k : Nat) (a0 : (List (V33 × (V33 × Unit)))) : Option (List (V33 × (V33 × Unit))) :=
  req (room0 32 a0) <|
  some a0
noncomputable def slices_Clone.sp (k : Nat) : Go.Sx.Spec := ⟨(.pair (.slice (.pair T33 (.pair T33 .unit))) .unit), (.one (.dp (.slice (.pair T33 (.pair T33 .unit))))), fun x => slices_Clone k x.1, false⟩
noncomputable def slices_Clone.cx (k : Nat) : Go.Sx.Ctx := ⟨tys, [], eqs, 8, false⟩
theorem slices_Clone.cok (k : Nat) : CtxOk PR (slices_Clone.cx k) := ctx_ok tysOk eqsOk FnsOk.nil
theorem slices_Clone.way (k : Nat) (a0 : (List (V33 × (V33 × Unit)))) : Owp (slices_Clone k a0) fun y => ∃ answers cmds, exec PR (slices_Clone.cx k) slices_Clone.code 0 (entry (.pair (.slice (.pair T33 (.pair T33 .unit))) .unit) (a0, ())).st answers (Ret (slices_Clone.cx k) Try.f31 cmds (.one (.dp (.slice (.pair T33 (.pair T33 .unit))))) y) := by
  unfold slices_Clone; exact
   Owp.req fun h1 =>
   Owp.some (⟨[.fork [] [.dec true]], [.deep 2 (.pair T33 (.pair T33 .unit))], via (show (List.length a0 = 0 → (True ∧ (True ∧ AV.val (.slice (.pair T33 (.pair T33 .unit))) ([] : (List (V33 × (V33 × Unit)))) = AV.val (.slice (.pair T33 (.pair T33 .unit))) a0))) ∧ ((True ∧ room0 32 a0) ∧ (True ∧ AV.val (.slice (.pair T33 (.pair T33 .unit))) a0 = AV.val (.slice (.pair T33 (.pair T33 .unit))) a0)) from ⟨fun h0 => ⟨trivial, trivial, by rw [List.eq_nil_of_length_eq_zero h0]⟩, ⟨trivial, h1⟩, trivial, rfl⟩) (by kernel_rfl)⟩)
theorem slices_Clone.ok (k : Nat) : FnOk PR 31 (slices_Clone.sp k) :=
  fn_ok (slices_Clone.cok k) hmix Try.func31 (code := slices_Clone.code) (by kernel_rfl) (by kernel_rfl) (by kernel_rfl) rfl (by kernel_rfl) (by kernel_rfl) (by kernel_rfl) (fun x => Nat.le_of_ble_eq_true (by kernel_rfl)) fun x y hy => (slices_Clone.way k x.1).ap hy

/-! tourney/tourkeep2.square -/
noncomputable def tourkeep2_square.code : Code := Func.cd Try.f45
def tourkeep2_square (k : Nat) (a0 : Int) (a1 : Int) (a2 : Int) : Option (List V33) :=
  some [((isub .i64 (imul .i64 a0 65536) (imul .i64 a2 65536)), (isub .i64 (imul .i64 a1 65536) (imul .i64 a2 65536)), ()), ((iadd .i64 (imul .i64 a0 65536) (imul .i64 a2 65536)), (isub .i64 (imul .i64 a1 65536) (imul .i64 a2 65536)), ()), ((iadd .i64 (imul .i64 a0 65536) (imul .i64 a2 65536)), (iadd .i64 (imul .i64 a1 65536) (imul .i64 a2 65536)), ()), ((isub .i64 (imul .i64 a0 65536) (imul .i64 a2 65536)), (iadd .i64 (imul .i64 a1 65536) (imul .i64 a2 65536)), ())]
noncomputable def tourkeep2_square.sp (k : Nat) : Go.Sx.Spec := ⟨(.pair T2 T33), (.one (.ow T33 34)), fun x => tourkeep2_square k x.1 x.2.1 x.2.2.1, false⟩
noncomputable def tourkeep2_square.cx (k : Nat) : Go.Sx.Ctx := ⟨tys, [], eqs, 42, false⟩
theorem tourkeep2_square.cok (k : Nat) : CtxOk PR (tourkeep2_square.cx k) := ctx_ok tysOk eqsOk FnsOk.nil
theorem tourkeep2_square.way (k : Nat) (a0 : Int) (a1 : Int) (a2 : Int) : Owp (tourkeep2_square k a0 a1 a2) fun y => ∃ answers cmds, exec PR (tourkeep2_square.cx k) tourkeep2_square.code 0 (entry (.pair T2 T33) (a0, a1, a2, ())).st answers (Ret (tourkeep2_square.cx k) Try.f45 cmds (.one (.ow T33 34)) y) := by
  unfold tourkeep2_square; exact
   Owp.some (⟨[.dec true], [], via (retP trivial (.one (.ow T33 34)) ([((isub .i64 (imul .i64 a0 (65536 : Int)) (imul .i64 a2 (65536 : Int))), (isub .i64 (imul .i64 a1 (65536 : Int)) (imul .i64 a2 (65536 : Int))), ()), ((iadd .i64 (imul .i64 a0 (65536 : Int)) (imul .i64 a2 (65536 : Int))), (isub .i64 (imul .i64 a1 (65536 : Int)) (imul .i64 a2 (65536 : Int))), ()), ((iadd .i64 (imul .i64 a0 (65536 : Int)) (imul .i64 a2 (65536 : Int))), (iadd .i64 (imul .i64 a1 (65536 : Int)) (imul .i64 a2 (65536 : Int))), ()), ((isub .i64 (imul .i64 a0 (65536 : Int)) (imul .i64 a2 (65536 : Int))), (iadd .i64 (imul .i64 a1 (65536 : Int)) (imul .i64 a2 (65536 : Int))), ())] : (List V33))) (by kernel_rfl)⟩)
theorem tourkeep2_square.ok (k : Nat) : FnOk PR 45 (tourkeep2_square.sp k) :=
  fn_ok (tourkeep2_square.cok k) hmix Try.func45 (code := tourkeep2_square.code) (by kernel_rfl) (by kernel_rfl) (by kernel_rfl) rfl (by kernel_rfl) (by kernel_rfl) (by kernel_rfl) (fun x => Nat.le_of_ble_eq_true (by kernel_rfl)) fun x y hy => (tourkeep2_square.way k x.1 x.2.1 x.2.2.1).ap hy

/-! tourney/tourkeep2.works -/
noncomputable def tourkeep2_works.code : Code := Func.cd Try.f46
def tourkeep2_works (k : Nat) : Option Bool :=
  bnd (tourkeep2_square k 0 0 1) fun y1 =>
  bnd (poly_Area k y1) fun y3 =>
  bif' (ieq y3.2 0)
  (bif' (ieq y3.1 34359738368)
   (bnd (tourkeep2_square k 0 0 1) fun y7 =>
    bnd (poly_Support k y7 (1, (-1), ())) fun y9 =>
    bif' (ieq y9 1)
    (bnd (tourkeep2_square k 0 0 1) fun y12 =>
     bnd (poly_Has k y12 (0, 0, ())) fun y14 =>
     some y14)
    (some false))
   (some false))
  (some false)
noncomputable def tourkeep2_works.sp (k : Nat) : Go.Sx.Spec := ⟨.unit, (.one (.dp T4)), fun x => tourkeep2_works k, false⟩
noncomputable def tourkeep2_works.cx (k : Nat) : Go.Sx.Ctx := ⟨tys, [(45, tourkeep2_square.sp k), (90, poly_Area.sp k), (91, poly_Support.sp k), (47, poly_Has.sp k)], eqs, 25, false⟩
theorem tourkeep2_works.cok (k : Nat) : CtxOk PR (tourkeep2_works.cx k) := ctx_ok tysOk eqsOk (FnsOk.cons (tourkeep2_square.ok k) (FnsOk.cons (poly_Area.ok k) (FnsOk.cons (poly_Support.ok k) (FnsOk.cons (poly_Has.ok k) FnsOk.nil))))
theorem tourkeep2_works.way (k : Nat) : Owp (tourkeep2_works k) fun y => ∃ answers cmds, exec PR (tourkeep2_works.cx k) tourkeep2_works.code 0 (entry .unit ()).st answers (Ret (tourkeep2_works.cx k) Try.f46 cmds (.one (.dp T4)) y) := by
  unfold tourkeep2_works; exact
   Owp.bnd fun y1 e2 =>
   Owp.bnd fun y3 e4 =>
   Owp.bif (fun e5 =>
   Owp.bif (fun e6 =>
    Owp.bnd fun y7 e8 =>
     Owp.bnd fun y9 e10 =>
     Owp.bif (fun e11 =>
     Owp.bnd fun y12 e13 =>
      Owp.bnd fun y14 e15 =>
      Owp.some (⟨[.res (.one (.ow T33 34)) y1, .res (.more (.dp T2) (.one (.dp T2))) y3, .dec true, .dec true, .dec true, .dec true, .res (.one (.ow T33 34)) y7, .dec true, .dec true, .res (.one (.dp T2)) y9, .dec true, .dec true, .dec true, .res (.one (.ow T33 34)) y12, .dec true, .dec true, .res (.one (.dp T4)) y14, .dec true], [], via (retP (And.intro (And.intro (And.intro (And.intro (And.intro (And.intro (And.intro (And.intro (And.intro (And.intro (And.intro (And.intro (And.intro (And.intro trivial e2) e4) e5) e5) e5) (And.intro e6 e8)) e6) (And.intro e6 e10)) e6) e6) (And.intro e11 e13)) e11) (And.intro e11 e15)) e11) (.one (.dp T4)) (y14 : Bool)) (by kernel_rfl)⟩)) (fun e11 =>
     Owp.some (⟨[.res (.one (.ow T33 34)) y1, .res (.more (.dp T2) (.one (.dp T2))) y3, .dec true, .dec true, .dec true, .dec true, .res (.one (.ow T33 34)) y7, .dec true, .dec true, .res (.one (.dp T2)) y9, .dec true, .dec true, .dec false, .dec true, .dec false, .dec false, .dec true, .dec false], [], via (retP (And.intro (And.intro (And.intro (And.intro (And.intro (And.intro (And.intro (And.intro (And.intro (And.intro (And.intro (And.intro (And.intro (And.intro trivial e2) e4) e5) e5) e5) (And.intro e6 e8)) e6) (And.intro e6 e10)) e6) e6) e11) e11) e11) e11) (.one (.dp T4)) (false : Bool)) (by kernel_rfl)⟩))) (fun e6 =>
    Owp.some (⟨[.res (.one (.ow T33 34)) y1, .res (.more (.dp T2) (.one (.dp T2))) y3, .dec true, .dec true, .dec true, .dec false, .dec true, .dec false, .dec false, .dec true, .dec false, .dec false, .dec false, .dec true, .dec false, .dec false, .dec true, .dec false], [], via (retP (And.intro (And.intro (And.intro (And.intro (And.intro (And.intro (And.intro (And.intro (And.intro (And.intro (And.intro (And.intro (And.intro (And.intro trivial e2) e4) e5) e5) e5) e6) e6) e6) e6) e6) ff) ff) ff) ff) (.one (.dp T4)) (false : Bool)) (by kernel_rfl)⟩))) (fun e5 =>
   Owp.some (⟨[.res (.one (.ow T33 34)) y1, .res (.more (.dp T2) (.one (.dp T2))) y3, .dec false, .dec false, .dec false, .dec false, .dec true, .dec false, .dec false, .dec true, .dec false, .dec false, .dec false, .dec true, .dec false, .dec false, .dec true, .dec false], [], via (retP (And.intro (And.intro (And.intro (And.intro (And.intro (And.intro (And.intro (And.intro (And.intro (And.intro (And.intro (And.intro (And.intro (And.intro trivial e2) e4) e5) e5) e5) ff) ff) ff) ff) ff) ff) ff) ff) ff) (.one (.dp T4)) (false : Bool)) (by kernel_rfl)⟩))
theorem tourkeep2_works.ok (k : Nat) : FnOk PR 46 (tourkeep2_works.sp k) :=
  fn_ok (tourkeep2_works.cok k) hmix Try.func46 (code := tourkeep2_works.code) (by kernel_rfl) (by kernel_rfl) (by kernel_rfl) rfl (by kernel_rfl) (by kernel_rfl) (by kernel_rfl) (fun x => Nat.le_of_ble_eq_true (by kernel_rfl)) fun x y hy => (tourkeep2_works.way k).ap hy

/-! slices.Index[[]tourney/api.Vec,tourney/api.Vec] -/
noncomputable def slices_Index.code : Code := Func.cd Try.f94
def slices_Index.c1 (k : Nat) (a0 : (List V33)) (a1 : V33) : Nat → Int → Option (Int ⊕ Unit)
  | 0, _ => none
  | n + 1, v1 =>
   bif' (ilt v1 (len a0))
   (req (inL v1 a0) <|
    bif' (Ty.eqb T33 a1 (el Z33 a0 v1))
    (some (.inl v1))
    (slices_Index.c1 k a0 a1 n (iadd .i64 v1 1)))
   (some (.inr ()))
def slices_Index (k : Nat) (a0 : (List V33)) (a1 : V33) : Option Int :=
  bnd (slices_Index.c1 k a0 a1 k 0) fun o5 =>
  two o5 (fun y7 =>
  some y7) (fun y9 =>
  some (-1))
noncomputable def slices_Index.sp (k : Nat) : Go.Sx.Spec := ⟨(.pair T22 (.pair T33 .unit)), (.one (.dp T2)), fun x => slices_Index k x.1 x.2.1, false⟩
noncomputable def slices_Index.cx (k : Nat) : Go.Sx.Ctx := ⟨tys, [], eqs, 19, false⟩
theorem slices_Index.cok (k : Nat) : CtxOk PR (slices_Index.cx k) := ctx_ok tysOk eqsOk FnsOk.nil
noncomputable def slices_Index.c1p (a0 : (List V33)) (a1 : V33) (v1 : Int) : SL := ⟨[(0, (.val T22 a0)), (3, (.val .ptr ⟨0, 0, (0 : Int), 0, 0⟩)), (7, (.val T2 (len a0))), (8, (.val T2 v1))], [(0, .cells T33 a1)]⟩
noncomputable def slices_Index.c1q (o : Int ⊕ Unit) : SL := (fun o => two o (fun v => ⟨[(4, (.val T2 v))], []⟩) (fun v => ⟨[], []⟩)) o
noncomputable def slices_Index.c1x (o : Int ⊕ Unit) : Ex := (fun o => two o (fun _ => .ret) (fun _ => (.exit 0))) o
noncomputable def slices_Index.c1n (o : Int ⊕ Unit) : Nat := (fun o => two o (fun _ => 0) (fun _ => 0)) o
theorem slices_Index.c1_ok (k : Nat) (a0 : (List V33)) (a1 : V33) : ∀ (n : Nat) (v1 : Int), Owp (slices_Index.c1 k a0 a1 n v1) fun o => LTriple PR (slices_Index.cx k) (sub slices_Index.code [1, 0, 1, 0, 0]) 1 (slices_Index.c1p a0 a1 v1) (slices_Index.c1x o) (slices_Index.c1n o) (slices_Index.c1q o)
  | 0, _ => fun _ h => nomatch h
  | n + 1, v1 => Owp.of (slices_Index.c1.eq_2 ..) (
   Owp.bif (fun e2 =>
   Owp.req fun h3 =>
    Owp.bif (fun e4 =>
    Owp.some (loop_exit (slices_Index.cok k) hmix [.dec true, .dec true] [] [] exne_ret (via (finP (And.intro (And.intro (And.intro trivial e2) h3) e4) .ret [] (slices_Index.c1q (.inl v1))) (by kernel_rfl)))) (fun e4 =>
    fun y hy => loop_back (slices_Index.cok k) hmix 1 (slices_Index.c1p a0 a1 (iadd .i64 v1 (1 : Int))) [.dec true, .dec false] [] [(0, 0)] (via (finP (And.intro (And.intro (And.intro trivial e2) h3) e4) .normal [(0, 0)] (slices_Index.c1p a0 a1 (iadd .i64 v1 (1 : Int)))) (by kernel_rfl)) ((slices_Index.c1_ok k a0 a1 n (iadd .i64 v1 (1 : Int))).ap hy))) (fun e2 =>
   Owp.some (loop_exit (slices_Index.cok k) hmix [.dec false] [] [] (exne 0) (via (finP (And.intro trivial e2) (.exit 0) [] (slices_Index.c1q (.inr ()))) (by kernel_rfl)))))
theorem slices_Index.way (k : Nat) (a0 : (List V33)) (a1 : V33) : Owp (slices_Index k a0 a1) fun y => ∃ answers cmds, exec PR (slices_Index.cx k) slices_Index.code 0 (entry (.pair T22 (.pair T33 .unit)) (a0, a1, ())).st answers (Ret (slices_Index.cx k) Try.f94 cmds (.one (.dp T2)) y) := by
  unfold slices_Index; exact
   Owp.bnd fun o5 e6 =>
   Owp.two (fun y7 e8 =>
   Owp.some (⟨[.cut ⟨[], [(0, 0)], (slices_Index.c1p a0 a1 (0 : Int)), 1, .ret, (slices_Index.c1q (.inl y7)), 0⟩], [], via (cutP trivial [(0, 0)] (slices_Index.c1p a0 a1 (0 : Int)) (((slices_Index.c1_ok k a0 a1 k (0 : Int)).ap (e6.trans (congrArg some e8))).triple) (retP trivial (.one (.dp T2)) (y7 : Int))) (by kernel_rfl)⟩)) (fun y9 e10 =>
   Owp.some (⟨[.cut ⟨[], [(0, 0)], (slices_Index.c1p a0 a1 (0 : Int)), 1, (.exit 0), (slices_Index.c1q (.inr ())), 0⟩], [], via (cutP trivial [(0, 0)] (slices_Index.c1p a0 a1 (0 : Int)) (((slices_Index.c1_ok k a0 a1 k (0 : Int)).ap (e6.trans (congrArg some e10))).triple) (retP trivial (.one (.dp T2)) ((-1 : Int) : Int))) (by kernel_rfl)⟩))
theorem slices_Index.ok (k : Nat) : FnOk PR 94 (slices_Index.sp k) :=
  fn_ok (slices_Index.cok k) hmix Try.func94 (code := slices_Index.code) (by kernel_rfl) (by kernel_rfl) (by kernel_rfl) rfl (by kernel_rfl) (by kernel_rfl) (by kernel_rfl) (fun x => Nat.le_of_ble_eq_true (by kernel_rfl)) fun x y hy => (slices_Index.way k x.1 x.2.1).ap hy

/-! slices.Contains[[]tourney/api.Vec,tourney/api.Vec] -/
noncomputable def slices_Contains.code : Code := Func.cd Try.f51
def slices_Contains (k : Nat) (a0 : (List V33)) (a1 : V33) : Option Bool :=
  bnd (slices_Index k a0 a1) fun y1 =>
  some (ige y1 0)
noncomputable def slices_Contains.sp (k : Nat) : Go.Sx.Spec := ⟨(.pair T22 (.pair T33 .unit)), (.one (.dp T4)), fun x => slices_Contains k x.1 x.2.1, false⟩
noncomputable def slices_Contains.cx (k : Nat) : Go.Sx.Ctx := ⟨tys, [(94, slices_Index.sp k)], eqs, 9, false⟩
theorem slices_Contains.cok (k : Nat) : CtxOk PR (slices_Contains.cx k) := ctx_ok tysOk eqsOk (FnsOk.cons (slices_Index.ok k) FnsOk.nil)
theorem slices_Contains.way (k : Nat) (a0 : (List V33)) (a1 : V33) : Owp (slices_Contains k a0 a1) fun y => ∃ answers cmds, exec PR (slices_Contains.cx k) slices_Contains.code 0 (entry (.pair T22 (.pair T33 .unit)) (a0, a1, ())).st answers (Ret (slices_Contains.cx k) Try.f51 cmds (.one (.dp T4)) y) := by
  unfold slices_Contains; exact
   Owp.bnd fun y1 e2 =>
   Owp.some (⟨[.res (.one (.dp T2)) y1], [], via (retP (And.intro trivial e2) (.one (.dp T4)) ((ige y1 (0 : Int)) : Bool)) (by kernel_rfl)⟩)
theorem slices_Contains.ok (k : Nat) : FnOk PR 51 (slices_Contains.sp k) :=
  fn_ok (slices_Contains.cok k) hmix Try.func51 (code := slices_Contains.code) (by kernel_rfl) (by kernel_rfl) (by kernel_rfl) rfl (by kernel_rfl) (by kernel_rfl) (by kernel_rfl) (fun x => Nat.le_of_ble_eq_true (by kernel_rfl)) fun x y hy => (slices_Contains.way k x.1 x.2.1).ap hy

/-! tourney/tourref2.coord -/
noncomputable def tourref2_coord.code : Code := Func.cd Try.f72
def tourref2_coord (k : Nat) (a0 : V33) (a1 : Int) : Option Bool :=
  bif' (ige a0.1 (ineg .i64 a1))
  (bif' (ile a0.1 a1)
   (bif' (ige a0.2.1 (ineg .i64 a1))
    (some (ile a0.2.1 a1))
    (some false))
   (some false))
  (some false)
noncomputable def tourref2_coord.sp (k : Nat) : Go.Sx.Spec := ⟨(.pair T33 (.pair T2 .unit)), (.one (.dp T4)), fun x => tourref2_coord k x.1 x.2.1, false⟩
noncomputable def tourref2_coord.cx (k : Nat) : Go.Sx.Ctx := ⟨tys, [], eqs, 29, false⟩
theorem tourref2_coord.cok (k : Nat) : CtxOk PR (tourref2_coord.cx k) := ctx_ok tysOk eqsOk FnsOk.nil
theorem tourref2_coord.way (k : Nat) (a0 : V33) (a1 : Int) : Owp (tourref2_coord k a0 a1) fun y => ∃ answers cmds, exec PR (tourref2_coord.cx k) tourref2_coord.code 0 (entry (.pair T33 (.pair T2 .unit)) (a0, a1, ())).st answers (Ret (tourref2_coord.cx k) Try.f72 cmds (.one (.dp T4)) y) := by
  unfold tourref2_coord; exact
   Owp.bif (fun e1 =>
   Owp.bif (fun e2 =>
    Owp.bif (fun e3 =>
     Owp.some (⟨[.dec true, .dec true, .dec true, .dec true, .dec true, .dec true, .dec true, .dec true, .dec true, .dec true, .dec true, .dec true, .dec true, .dec true, .dec true, .dec true], [], via (retP (And.intro (And.intro (And.intro (And.intro (And.intro (And.intro (And.intro (And.intro (And.intro (And.intro (And.intro (And.intro (And.intro (And.intro (And.intro (And.intro trivial e1) e1) e1) e1) e1) e2) e2) e2) e2) e2) e2) e3) e3) e3) e3) e3) (.one (.dp T4)) ((ile a0.2.1 a1) : Bool)) (by kernel_rfl)⟩)) (fun e3 =>
     Owp.some (⟨[.dec true, .dec true, .dec true, .dec true, .dec true, .dec true, .dec true, .dec true, .dec true, .dec true, .dec true, .dec false, .dec false, .dec false, .dec false, .dec false], [], via (retP (And.intro (And.intro (And.intro (And.intro (And.intro (And.intro (And.intro (And.intro (And.intro (And.intro (And.intro (And.intro (And.intro (And.intro (And.intro (And.intro trivial e1) e1) e1) e1) e1) e2) e2) e2) e2) e2) e2) e3) e3) e3) e3) e3) (.one (.dp T4)) (false : Bool)) (by kernel_rfl)⟩))) (fun e2 =>
    Owp.some (⟨[.dec true, .dec true, .dec true, .dec true, .dec true, .dec false, .dec false, .dec false, .dec false, .dec false, .dec false, .dec false, .dec false, .dec false, .dec false, .dec false], [], via (retP (And.intro (And.intro (And.intro (And.intro (And.intro (And.intro (And.intro (And.intro (And.intro (And.intro (And.intro (And.intro (And.intro (And.intro (And.intro (And.intro trivial e1) e1) e1) e1) e1) e2) e2) e2) e2) e2) e2) ff) ff) ff) ff) ff) (.one (.dp T4)) (false : Bool)) (by kernel_rfl)⟩))) (fun e1 =>
   Owp.some (⟨[.dec false, .dec false, .dec false, .dec false, .dec false, .dec false, .dec false, .dec false, .dec false, .dec false, .dec false, .dec false, .dec false, .dec false, .dec false, .dec false], [], via (retP (And.intro (And.intro (And.intro (And.intro (And.intro (And.intro (And.intro (And.intro (And.intro (And.intro (And.intro (And.intro (And.intro (And.intro (And.intro (And.intro trivial e1) e1) e1) e1) e1) ff) ff) ff) ff) ff) ff) ff) ff) ff) ff) ff) (.one (.dp T4)) (false : Bool)) (by kernel_rfl)⟩))
theorem tourref2_coord.ok (k : Nat) : FnOk PR 72 (tourref2_coord.sp k) :=
  fn_ok (tourref2_coord.cok k) hmix Try.func72 (code := tourref2_coord.code) (by kernel_rfl) (by kernel_rfl) (by kernel_rfl) rfl (by kernel_rfl) (by kernel_rfl) (by kernel_rfl) (fun x => Nat.le_of_ble_eq_true (by kernel_rfl)) fun x y hy => (tourref2_coord.way k x.1 x.2.1).ap hy

/-! tourney/tourref2.sub -/
noncomputable def tourref2_sub.code : Code := Func.cd Try.f58
def tourref2_sub (k : Nat) (a0 : V33) (a1 : V33) : Option V33 :=
  some ((isub .i64 a0.1 a1.1), (isub .i64 a0.2.1 a1.2.1), ())
noncomputable def tourref2_sub.sp (k : Nat) : Go.Sx.Spec := ⟨(.pair T33 (.pair T33 .unit)), (.one (.dp T33)), fun x => tourref2_sub k x.1 x.2.1, false⟩
noncomputable def tourref2_sub.cx (k : Nat) : Go.Sx.Ctx := ⟨tys, [], eqs, 16, false⟩
theorem tourref2_sub.cok (k : Nat) : CtxOk PR (tourref2_sub.cx k) := ctx_ok tysOk eqsOk FnsOk.nil
theorem tourref2_sub.way (k : Nat) (a0 : V33) (a1 : V33) : Owp (tourref2_sub k a0 a1) fun y => ∃ answers cmds, exec PR (tourref2_sub.cx k) tourref2_sub.code 0 (entry (.pair T33 (.pair T33 .unit)) (a0, a1, ())).st answers (Ret (tourref2_sub.cx k) Try.f58 cmds (.one (.dp T33)) y) := by
  unfold tourref2_sub; exact
   Owp.some (⟨[], [], via (retP trivial (.one (.dp T33)) (((isub .i64 a0.1 a1.1), (isub .i64 a0.2.1 a1.2.1), ()) : V33)) (by kernel_rfl)⟩)
theorem tourref2_sub.ok (k : Nat) : FnOk PR 58 (tourref2_sub.sp k) :=
  fn_ok (tourref2_sub.cok k) hmix Try.func58 (code := tourref2_sub.code) (by kernel_rfl) (by kernel_rfl) (by kernel_rfl) rfl (by kernel_rfl) (by kernel_rfl) (by kernel_rfl) (fun x => Nat.le_of_ble_eq_true (by kernel_rfl)) fun x y hy => (tourref2_sub.way k x.1 x.2.1).ap hy

/-! tourney/tourref2.Cross -/
noncomputable def tourref2_Cross.code : Code := Func.cd Try.f106
def tourref2_Cross (k : Nat) (a0 : V33) (a1 : V33) : Option (List Int) :=
  bnd (tourref2_Of k a0.1) fun y1 =>
  bnd (tourref2_Of k a1.2.1) fun y3 =>
  bnd (tourref2_Big_Mul k y1 y3) fun y5 =>
  bnd (tourref2_Of k a0.2.1) fun y7 =>
  bnd (tourref2_Of k a1.1) fun y9 =>
  bnd (tourref2_Big_Mul k y7 y9) fun y11 =>
  bnd (tourref2_Big_Sub k y5 y11) fun y13 =>
  some y13
noncomputable def tourref2_Cross.sp (k : Nat) : Go.Sx.Spec := ⟨(.pair T33 (.pair T33 .unit)), (.one (.dp T113)), fun x => tourref2_Cross k x.1 x.2.1, false⟩
noncomputable def tourref2_Cross.cx (k : Nat) : Go.Sx.Ctx := ⟨tys, [(107, tourref2_Of.sp k), (108, tourref2_Big_Mul.sp k), (140, tourref2_Big_Sub.sp k)], eqs, 20, false⟩
theorem tourref2_Cross.cok (k : Nat) : CtxOk PR (tourref2_Cross.cx k) := ctx_ok tysOk eqsOk (FnsOk.cons (tourref2_Of.ok k) (FnsOk.cons (tourref2_Big_Mul.ok k) (FnsOk.cons (tourref2_Big_Sub.ok k) FnsOk.nil)))
theorem tourref2_Cross.way (k : Nat) (a0 : V33) (a1 : V33) : Owp (tourref2_Cross k a0 a1) fun y => ∃ answers cmds, exec PR (tourref2_Cross.cx k) tourref2_Cross.code 0 (entry (.pair T33 (.pair T33 .unit)) (a0, a1, ())).st answers (Ret (tourref2_Cross.cx k) Try.f106 cmds (.one (.dp T113)) y) := by
  unfold tourref2_Cross; exact
   Owp.bnd fun y1 e2 =>
   Owp.bnd fun y3 e4 =>
   Owp.bnd fun y5 e6 =>
   Owp.bnd fun y7 e8 =>
   Owp.bnd fun y9 e10 =>
   Owp.bnd fun y11 e12 =>
   Owp.bnd fun y13 e14 =>
   Owp.some (⟨[.res (.one (.dp T113)) y1, .res (.one (.dp T113)) y3, .res (.one (.dp T113)) y5, .res (.one (.dp T113)) y7, .res (.one (.dp T113)) y9, .res (.one (.dp T113)) y11, .res (.one (.dp T113)) y13], [], via (retP (And.intro (And.intro (And.intro (And.intro (And.intro (And.intro (And.intro trivial e2) e4) e6) e8) e10) e12) e14) (.one (.dp T113)) (y13 : (List Int))) (by kernel_rfl)⟩)
theorem tourref2_Cross.ok (k : Nat) : FnOk PR 106 (tourref2_Cross.sp k) :=
  fn_ok (tourref2_Cross.cok k) hmix Try.func106 (code := tourref2_Cross.code) (by kernel_rfl) (by kernel_rfl) (by kernel_rfl) rfl (by kernel_rfl) (by kernel_rfl) (by kernel_rfl) (fun x => Nat.le_of_ble_eq_true (by kernel_rfl)) fun x y hy => (tourref2_Cross.way k x.1 x.2.1).ap hy

/-! tourney/tourref2.left -/
noncomputable def tourref2_left.code : Code := Func.cd Try.f101
def tourref2_left (k : Nat) (a0 : V33) (a1 : V33) (a2 : V33) : Option Int :=
  bnd (tourref2_sub k a1 a0) fun y1 =>
  bnd (tourref2_sub k a2 a0) fun y3 =>
  bnd (tourref2_Cross k y1 y3) fun y5 =>
  bnd (tourref2_Big_Cmp k y5 (List.replicate 8 0)) fun y7 =>
  some y7
noncomputable def tourref2_left.sp (k : Nat) : Go.Sx.Spec := ⟨(.pair T33 (.pair T33 (.pair T33 .unit))), (.one (.dp T2)), fun x => tourref2_left k x.1 x.2.1 x.2.2.1, false⟩
noncomputable def tourref2_left.cx (k : Nat) : Go.Sx.Ctx := ⟨tys, [(58, tourref2_sub.sp k), (106, tourref2_Cross.sp k), (103, tourref2_Big_Cmp.sp k)], eqs, 16, false⟩
theorem tourref2_left.cok (k : Nat) : CtxOk PR (tourref2_left.cx k) := ctx_ok tysOk eqsOk (FnsOk.cons (tourref2_sub.ok k) (FnsOk.cons (tourref2_Cross.ok k) (FnsOk.cons (tourref2_Big_Cmp.ok k) FnsOk.nil)))
theorem tourref2_left.way (k : Nat) (a0 : V33) (a1 : V33) (a2 : V33) : Owp (tourref2_left k a0 a1 a2) fun y => ∃ answers cmds, exec PR (tourref2_left.cx k) tourref2_left.code 0 (entry (.pair T33 (.pair T33 (.pair T33 .unit))) (a0, a1, a2, ())).st answers (Ret (tourref2_left.cx k) Try.f101 cmds (.one (.dp T2)) y) := by
  unfold tourref2_left; exact
   Owp.bnd fun y1 e2 =>
   Owp.bnd fun y3 e4 =>
   Owp.bnd fun y5 e6 =>
   Owp.bnd fun y7 e8 =>
   Owp.some (⟨[.res (.one (.dp T33)) y1, .res (.one (.dp T33)) y3, .res (.one (.dp T113)) y5, .res (.one (.dp T2)) y7], [], via (retP (And.intro (And.intro (And.intro (And.intro trivial e2) e4) e6) e8) (.one (.dp T2)) (y7 : Int)) (by kernel_rfl)⟩)
theorem tourref2_left.ok (k : Nat) : FnOk PR 101 (tourref2_left.sp k) :=
  fn_ok (tourref2_left.cok k) hmix Try.func101 (code := tourref2_left.code) (by kernel_rfl) (by kernel_rfl) (by kernel_rfl) rfl (by kernel_rfl) (by kernel_rfl) (by kernel_rfl) (fun x => Nat.le_of_ble_eq_true (by kernel_rfl)) fun x y hy => (tourref2_left.way k x.1 x.2.1 x.2.2.1).ap hy

/-! tourney/tourref2.Poly -/
noncomputable def tourref2_Poly.code : Code := Func.cd Try.f57
def tourref2_Poly.c1 (k : Nat) (a0 : (List V33)) : Nat → Int → Option (Unit ⊕ Unit)
  | 0, _ => none
  | n + 1, v3 =>
   bif' (ilt v3 (len a0))
   (req (inL v3 a0) <|
    bnd (tourref2_coord k (el Z33 a0 v3) 65536000) fun y6 =>
    bif' y6
    (tourref2_Poly.c1 k a0 n (iadd .i64 v3 1))
    (some (.inl ())))
   (some (.inr ()))
def tourref2_Poly.c4 (k : Nat) (a0 : (List V33)) (v15 : Int) (v17 : Int) : Nat → Int → Option (Unit ⊕ Unit)
  | 0, _ => none
  | n + 1, v19 =>
   bif' (ilt v19 (len a0))
   (req (inL v15 a0) <|
    req (inL v17 a0) <|
    req (inL v19 a0) <|
    bnd (tourref2_left k (el Z33 a0 v15) (el Z33 a0 v17) (el Z33 a0 v19)) fun y24 =>
    bif' (ile y24 0)
    (some (.inl ()))
    (tourref2_Poly.c4 k a0 v15 v17 n (iadd .i64 v19 1)))
   (some (.inr ()))
def tourref2_Poly.c3 (k : Nat) (a0 : (List V33)) (v15 : Int) : Nat → Int → Option (Unit ⊕ Unit)
  | 0, _ => none
  | n + 1, v17 =>
   bif' (ilt v17 (len a0))
   (bnd (tourref2_Poly.c4 k a0 v15 v17 k (iadd .i64 v17 1)) fun o27 =>
    two o27 (fun y29 =>
    some (.inl ())) (fun y31 =>
    tourref2_Poly.c3 k a0 v15 n (iadd .i64 v17 1)))
   (some (.inr ()))
def tourref2_Poly.c2 (k : Nat) (a0 : (List V33)) : Nat → Int → Option (Unit ⊕ Unit)
  | 0, _ => none
  | n + 1, v15 =>
   bif' (ilt v15 (len a0))
   (bnd (tourref2_Poly.c3 k a0 v15 k (iadd .i64 v15 1)) fun o33 =>
    two o33 (fun y35 =>
    some (.inl ())) (fun y37 =>
    tourref2_Poly.c2 k a0 n (iadd .i64 v15 1)))
   (some (.inr ()))
def tourref2_Poly (k : Nat) (a0 : (List V33)) : Option Int :=
  bif' (igt (len a0) 8)
  (some 2)
  (bif' (ilt (len a0) 3)
   (some 3)
   (bnd (tourref2_Poly.c1 k a0 k 0) fun o9 =>
    two o9 (fun y11 =>
    some 1) (fun y13 =>
    bnd (tourref2_Poly.c2 k a0 k 0) fun o39 =>
     two o39 (fun y41 =>
     some 3) (fun y43 =>
     some 0))))
noncomputable def tourref2_Poly.sp (k : Nat) : Go.Sx.Spec := ⟨(.pair T22 .unit), (.one (.dp T2)), fun x => tourref2_Poly k x.1, false⟩
noncomputable def tourref2_Poly.cx (k : Nat) : Go.Sx.Ctx := ⟨tys, [(72, tourref2_coord.sp k), (101, tourref2_left.sp k)], eqs, 60, false⟩
theorem tourref2_Poly.cok (k : Nat) : CtxOk PR (tourref2_Poly.cx k) := ctx_ok tysOk eqsOk (FnsOk.cons (tourref2_coord.ok k) (FnsOk.cons (tourref2_left.ok k) FnsOk.nil))
noncomputable def tourref2_Poly.c1p (a0 : (List V33)) (v3 : Int) : SL := ⟨[(0, (.val T22 a0)), (3, (.val T2 (len a0))), (17, (.val T22 a0)), (18, (.val T2 (len a0))), (19, (.val T2 v3))], []⟩
noncomputable def tourref2_Poly.c1q (a0 : (List V33)) (o : Unit ⊕ Unit) : SL := (fun o => two o (fun v => ⟨[(2, (.val T2 (1 : Int)))], []⟩) (fun v => ⟨[(0, (.val T22 a0)), (3, (.val T2 (len a0)))], []⟩)) o
noncomputable def tourref2_Poly.c1x (o : Unit ⊕ Unit) : Ex := (fun o => two o (fun _ => .ret) (fun _ => (.exit 1))) o
noncomputable def tourref2_Poly.c1n (o : Unit ⊕ Unit) : Nat := (fun o => two o (fun _ => 0) (fun _ => 0)) o
theorem tourref2_Poly.c1_ok (k : Nat) (a0 : (List V33)) : ∀ (n : Nat) (v3 : Int), Owp (tourref2_Poly.c1 k a0 n v3) fun o => LTriple PR (tourref2_Poly.cx k) (sub tourref2_Poly.code [1, 1, 1, 0, 1, 0, 0]) 0 (tourref2_Poly.c1p a0 v3) (tourref2_Poly.c1x o) (tourref2_Poly.c1n o) (tourref2_Poly.c1q a0 o)
  | 0, _ => fun _ h => nomatch h
  | n + 1, v3 => Owp.of (tourref2_Poly.c1.eq_2 ..) (
   Owp.bif (fun e4 =>
   Owp.req fun h5 =>
    Owp.bnd fun y6 e7 =>
    Owp.bif (fun e8 =>
    fun y hy => loop_back (tourref2_Poly.cok k) hmix 0 (tourref2_Poly.c1p a0 (iadd .i64 v3 (1 : Int))) [.dec true, .res (.one (.dp T4)) y6, .dec false] [] [] (via (finP (And.intro (And.intro (And.intro (And.intro trivial e4) h5) e7) (congrArg not e8)) .normal [] (tourref2_Poly.c1p a0 (iadd .i64 v3 (1 : Int)))) (by kernel_rfl)) ((tourref2_Poly.c1_ok k a0 n (iadd .i64 v3 (1 : Int))).ap hy)) (fun e8 =>
    Owp.some (loop_exit (tourref2_Poly.cok k) hmix [.dec true, .res (.one (.dp T4)) y6, .dec true] [] [] exne_ret (via (finP (And.intro (And.intro (And.intro (And.intro trivial e4) h5) e7) (congrArg not e8)) .ret [] (tourref2_Poly.c1q a0 (.inl ()))) (by kernel_rfl))))) (fun e4 =>
   Owp.some (loop_exit (tourref2_Poly.cok k) hmix [.dec false] [] [] (exne 1) (via (finP (And.intro trivial e4) (.exit 1) [] (tourref2_Poly.c1q a0 (.inr ()))) (by kernel_rfl)))))
noncomputable def tourref2_Poly.c4p (a0 : (List V33)) (v15 : Int) (v17 : Int) (v19 : Int) : SL := ⟨[(0, (.val T22 a0)), (3, (.val T2 (len a0))), (6, (.val T2 v15)), (7, (.val T2 v17)), (8, (.val T2 v19)), (27, (.val T2 (len a0))), (28, (.val T2 v15))], []⟩
noncomputable def tourref2_Poly.c4q (a0 : (List V33)) (v15 : Int) (v17 : Int) (o : Unit ⊕ Unit) : SL := (fun o => two o (fun v => ⟨[(2, (.val T2 (3 : Int)))], []⟩) (fun v => ⟨[(0, (.val T22 a0)), (3, (.val T2 (len a0))), (6, (.val T2 v15)), (7, (.val T2 v17)), (27, (.val T2 (len a0))), (28, (.val T2 v15))], []⟩)) o
noncomputable def tourref2_Poly.c4x (o : Unit ⊕ Unit) : Ex := (fun o => two o (fun _ => .ret) (fun _ => (.exit 7))) o
noncomputable def tourref2_Poly.c4n (o : Unit ⊕ Unit) : Nat := (fun o => two o (fun _ => 0) (fun _ => 0)) o
theorem tourref2_Poly.c4_ok (k : Nat) (a0 : (List V33)) (v15 : Int) (v17 : Int) : ∀ (n : Nat) (v19 : Int), Owp (tourref2_Poly.c4 k a0 v15 v17 n v19) fun o => LTriple PR (tourref2_Poly.cx k) (sub tourref2_Poly.code [1, 1, 1, 1, 0, 1, 0, 0, 1, 1, 0, 0, 1, 1, 0, 0, 1, 0, 0, 1, 0, 0]) 0 (tourref2_Poly.c4p a0 v15 v17 v19) (tourref2_Poly.c4x o) (tourref2_Poly.c4n o) (tourref2_Poly.c4q a0 v15 v17 o)
  | 0, _ => fun _ h => nomatch h
  | n + 1, v19 => Owp.of (tourref2_Poly.c4.eq_2 ..) (
   Owp.bif (fun e20 =>
   Owp.req fun h21 =>
    Owp.req fun h22 =>
    Owp.req fun h23 =>
    Owp.bnd fun y24 e25 =>
    Owp.bif (fun e26 =>
    Owp.some (loop_exit (tourref2_Poly.cok k) hmix [.dec true, .res (.one (.dp T2)) y24, .dec true] [] [] exne_ret (via (finP (And.intro (And.intro (And.intro (And.intro (And.intro (And.intro trivial e20) h21) h22) h23) e25) e26) .ret [] (tourref2_Poly.c4q a0 v15 v17 (.inl ()))) (by kernel_rfl)))) (fun e26 =>
    fun y hy => loop_back (tourref2_Poly.cok k) hmix 0 (tourref2_Poly.c4p a0 v15 v17 (iadd .i64 v19 (1 : Int))) [.dec true, .res (.one (.dp T2)) y24, .dec false] [] [] (via (finP (And.intro (And.intro (And.intro (And.intro (And.intro (And.intro trivial e20) h21) h22) h23) e25) e26) .normal [] (tourref2_Poly.c4p a0 v15 v17 (iadd .i64 v19 (1 : Int)))) (by kernel_rfl)) ((tourref2_Poly.c4_ok k a0 v15 v17 n (iadd .i64 v19 (1 : Int))).ap hy))) (fun e20 =>
   Owp.some (loop_exit (tourref2_Poly.cok k) hmix [.dec false] [] [] (exne 7) (via (finP (And.intro trivial e20) (.exit 7) [] (tourref2_Poly.c4q a0 v15 v17 (.inr ()))) (by kernel_rfl)))))
noncomputable def tourref2_Poly.c3p (a0 : (List V33)) (v15 : Int) (v17 : Int) : SL := ⟨[(0, (.val T22 a0)), (3, (.val T2 (len a0))), (6, (.val T2 v15)), (7, (.val T2 v17)), (27, (.val T2 (len a0))), (28, (.val T2 v15))], []⟩
noncomputable def tourref2_Poly.c3q (a0 : (List V33)) (v15 : Int) (o : Unit ⊕ Unit) : SL := (fun o => two o (fun v => ⟨[(2, (.val T2 (3 : Int)))], []⟩) (fun v => ⟨[(0, (.val T22 a0)), (3, (.val T2 (len a0))), (27, (.val T2 (len a0))), (28, (.val T2 v15))], []⟩)) o
noncomputable def tourref2_Poly.c3x (o : Unit ⊕ Unit) : Ex := (fun o => two o (fun _ => .ret) (fun _ => (.exit 5))) o
noncomputable def tourref2_Poly.c3n (o : Unit ⊕ Unit) : Nat := (fun o => two o (fun _ => 0) (fun _ => 0)) o
theorem tourref2_Poly.c3_ok (k : Nat) (a0 : (List V33)) (v15 : Int) : ∀ (n : Nat) (v17 : Int), Owp (tourref2_Poly.c3 k a0 v15 n v17) fun o => LTriple PR (tourref2_Poly.cx k) (sub tourref2_Poly.code [1, 1, 1, 1, 0, 1, 0, 0, 1, 1, 0, 0, 1, 1, 0, 0]) 0 (tourref2_Poly.c3p a0 v15 v17) (tourref2_Poly.c3x o) (tourref2_Poly.c3n o) (tourref2_Poly.c3q a0 v15 o)
  | 0, _ => fun _ h => nomatch h
  | n + 1, v17 => Owp.of (tourref2_Poly.c3.eq_2 ..) (
   Owp.bif (fun e18 =>
   Owp.bnd fun o27 e28 =>
    Owp.two (fun y29 e30 =>
    Owp.some (loop_exit (tourref2_Poly.cok k) hmix [.dec true, .cut ⟨[], [], (tourref2_Poly.c4p a0 v15 v17 (iadd .i64 v17 (1 : Int))), 0, .ret, (tourref2_Poly.c4q a0 v15 v17 (.inl ())), 0⟩] [] [] exne_ret (via (cutP (And.intro trivial e18) [] (tourref2_Poly.c4p a0 v15 v17 (iadd .i64 v17 (1 : Int))) (((tourref2_Poly.c4_ok k a0 v15 v17 k (iadd .i64 v17 (1 : Int))).ap (e28.trans (congrArg some e30))).triple) (finP trivial .ret [] (tourref2_Poly.c3q a0 v15 (.inl ())))) (by kernel_rfl)))) (fun y31 e32 =>
    fun y hy => loop_back (tourref2_Poly.cok k) hmix 0 (tourref2_Poly.c3p a0 v15 (iadd .i64 v17 (1 : Int))) [.dec true, .cut ⟨[], [], (tourref2_Poly.c4p a0 v15 v17 (iadd .i64 v17 (1 : Int))), 0, (.exit 7), (tourref2_Poly.c4q a0 v15 v17 (.inr ())), 0⟩] [] [] (via (cutP (And.intro trivial e18) [] (tourref2_Poly.c4p a0 v15 v17 (iadd .i64 v17 (1 : Int))) (((tourref2_Poly.c4_ok k a0 v15 v17 k (iadd .i64 v17 (1 : Int))).ap (e28.trans (congrArg some e32))).triple) (finP trivial .normal [] (tourref2_Poly.c3p a0 v15 (iadd .i64 v17 (1 : Int))))) (by kernel_rfl)) ((tourref2_Poly.c3_ok k a0 v15 n (iadd .i64 v17 (1 : Int))).ap hy))) (fun e18 =>
   Owp.some (loop_exit (tourref2_Poly.cok k) hmix [.dec false] [] [] (exne 5) (via (finP (And.intro trivial e18) (.exit 5) [] (tourref2_Poly.c3q a0 v15 (.inr ()))) (by kernel_rfl)))))
noncomputable def tourref2_Poly.c2p (a0 : (List V33)) (v15 : Int) : SL := ⟨[(0, (.val T22 a0)), (3, (.val T2 (len a0))), (27, (.val T2 (len a0))), (28, (.val T2 v15))], []⟩
noncomputable def tourref2_Poly.c2q (o : Unit ⊕ Unit) : SL := (fun o => two o (fun v => ⟨[(2, (.val T2 (3 : Int)))], []⟩) (fun v => ⟨[], []⟩)) o
noncomputable def tourref2_Poly.c2x (o : Unit ⊕ Unit) : Ex := (fun o => two o (fun _ => .ret) (fun _ => (.exit 3))) o
noncomputable def tourref2_Poly.c2n (o : Unit ⊕ Unit) : Nat := (fun o => two o (fun _ => 0) (fun _ => 0)) o
theorem tourref2_Poly.c2_ok (k : Nat) (a0 : (List V33)) : ∀ (n : Nat) (v15 : Int), Owp (tourref2_Poly.c2 k a0 n v15) fun o => LTriple PR (tourref2_Poly.cx k) (sub tourref2_Poly.code [1, 1, 1, 1, 0, 1, 0, 0]) 0 (tourref2_Poly.c2p a0 v15) (tourref2_Poly.c2x o) (tourref2_Poly.c2n o) (tourref2_Poly.c2q o)
  | 0, _ => fun _ h => nomatch h
  | n + 1, v15 => Owp.of (tourref2_Poly.c2.eq_2 ..) (
   Owp.bif (fun e16 =>
   Owp.bnd fun o33 e34 =>
    Owp.two (fun y35 e36 =>
    Owp.some (loop_exit (tourref2_Poly.cok k) hmix [.dec true, .cut ⟨[], [], (tourref2_Poly.c3p a0 v15 (iadd .i64 v15 (1 : Int))), 0, .ret, (tourref2_Poly.c3q a0 v15 (.inl ())), 0⟩] [] [] exne_ret (via (cutP (And.intro trivial e16) [] (tourref2_Poly.c3p a0 v15 (iadd .i64 v15 (1 : Int))) (((tourref2_Poly.c3_ok k a0 v15 k (iadd .i64 v15 (1 : Int))).ap (e34.trans (congrArg some e36))).triple) (finP trivial .ret [] (tourref2_Poly.c2q (.inl ())))) (by kernel_rfl)))) (fun y37 e38 =>
    fun y hy => loop_back (tourref2_Poly.cok k) hmix 0 (tourref2_Poly.c2p a0 (iadd .i64 v15 (1 : Int))) [.dec true, .cut ⟨[], [], (tourref2_Poly.c3p a0 v15 (iadd .i64 v15 (1 : Int))), 0, (.exit 5), (tourref2_Poly.c3q a0 v15 (.inr ())), 0⟩] [] [] (via (cutP (And.intro trivial e16) [] (tourref2_Poly.c3p a0 v15 (iadd .i64 v15 (1 : Int))) (((tourref2_Poly.c3_ok k a0 v15 k (iadd .i64 v15 (1 : Int))).ap (e34.trans (congrArg some e38))).triple) (finP trivial .normal [] (tourref2_Poly.c2p a0 (iadd .i64 v15 (1 : Int))))) (by kernel_rfl)) ((tourref2_Poly.c2_ok k a0 n (iadd .i64 v15 (1 : Int))).ap hy))) (fun e16 =>
   Owp.some (loop_exit (tourref2_Poly.cok k) hmix [.dec false] [] [] (exne 3) (via (finP (And.intro trivial e16) (.exit 3) [] (tourref2_Poly.c2q (.inr ()))) (by kernel_rfl)))))
theorem tourref2_Poly.way (k : Nat) (a0 : (List V33)) : Owp (tourref2_Poly k a0) fun y => ∃ answers cmds, exec PR (tourref2_Poly.cx k) tourref2_Poly.code 0 (entry (.pair T22 .unit) (a0, ())).st answers (Ret (tourref2_Poly.cx k) Try.f57 cmds (.one (.dp T2)) y) := by
  unfold tourref2_Poly; exact
   Owp.bif (fun e1 =>
   Owp.some (⟨[.dec true], [], via (retP (And.intro trivial e1) (.one (.dp T2)) ((2 : Int) : Int)) (by kernel_rfl)⟩)) (fun e1 =>
   Owp.bif (fun e2 =>
    Owp.some (⟨[.dec false, .dec true], [], via (retP (And.intro (And.intro trivial e1) e2) (.one (.dp T2)) ((3 : Int) : Int)) (by kernel_rfl)⟩)) (fun e2 =>
    Owp.bnd fun o9 e10 =>
     Owp.two (fun y11 e12 =>
     Owp.some (⟨[.dec false, .dec false, .cut ⟨[], [], (tourref2_Poly.c1p a0 (0 : Int)), 0, .ret, (tourref2_Poly.c1q a0 (.inl ())), 0⟩], [], via (cutP (And.intro (And.intro trivial e1) e2) [] (tourref2_Poly.c1p a0 (0 : Int)) (((tourref2_Poly.c1_ok k a0 k (0 : Int)).ap (e10.trans (congrArg some e12))).triple) (retP trivial (.one (.dp T2)) ((1 : Int) : Int))) (by kernel_rfl)⟩)) (fun y13 e14 =>
     Owp.bnd fun o39 e40 =>
      Owp.two (fun y41 e42 =>
      Owp.some (⟨[.dec false, .dec false, .cut ⟨[], [], (tourref2_Poly.c1p a0 (0 : Int)), 0, (.exit 1), (tourref2_Poly.c1q a0 (.inr ())), 0⟩, .cut ⟨[], [], (tourref2_Poly.c2p a0 (0 : Int)), 0, .ret, (tourref2_Poly.c2q (.inl ())), 0⟩], [], via (cutP (And.intro (And.intro trivial e1) e2) [] (tourref2_Poly.c1p a0 (0 : Int)) (((tourref2_Poly.c1_ok k a0 k (0 : Int)).ap (e10.trans (congrArg some e14))).triple) (cutP trivial [] (tourref2_Poly.c2p a0 (0 : Int)) (((tourref2_Poly.c2_ok k a0 k (0 : Int)).ap (e40.trans (congrArg some e42))).triple) (retP trivial (.one (.dp T2)) ((3 : Int) : Int)))) (by kernel_rfl)⟩)) (fun y43 e44 =>
      Owp.some (⟨[.dec false, .dec false, .cut ⟨[], [], (tourref2_Poly.c1p a0 (0 : Int)), 0, (.exit 1), (tourref2_Poly.c1q a0 (.inr ())), 0⟩, .cut ⟨[], [], (tourref2_Poly.c2p a0 (0 : Int)), 0, (.exit 3), (tourref2_Poly.c2q (.inr ())), 0⟩], [], via (cutP (And.intro (And.intro trivial e1) e2) [] (tourref2_Poly.c1p a0 (0 : Int)) (((tourref2_Poly.c1_ok k a0 k (0 : Int)).ap (e10.trans (congrArg some e14))).triple) (cutP trivial [] (tourref2_Poly.c2p a0 (0 : Int)) (((tourref2_Poly.c2_ok k a0 k (0 : Int)).ap (e40.trans (congrArg some e44))).triple) (retP trivial (.one (.dp T2)) ((0 : Int) : Int)))) (by kernel_rfl)⟩)))))
theorem tourref2_Poly.ok (k : Nat) : FnOk PR 57 (tourref2_Poly.sp k) :=
  fn_ok (tourref2_Poly.cok k) hmix Try.func57 (code := tourref2_Poly.code) (by kernel_rfl) (by kernel_rfl) (by kernel_rfl) rfl (by kernel_rfl) (by kernel_rfl) (by kernel_rfl) (fun x => Nat.le_of_ble_eq_true (by kernel_rfl)) fun x y hy => (tourref2_Poly.way k x.1).ap hy

end Go.Proofs.T1
