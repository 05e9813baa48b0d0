import Derived.Test.YtabllngnpponiaaG0
import Derived.Test.YtabllngnpponiaaG1
namespace Go.Proofs.T1
open Go Go.Sx Go.Proofs
set_option maxRecDepth 100000
set_option linter.unusedVariables false
/-! math/bits.LeadingZeros64 -/
noncomputable def bits_LeadingZeros64.code : Code := Func.cd Try.f243
def bits_LeadingZeros64 (k : Nat) (a0 : Int) : Option Int :=
  bnd (bits_Len64 k a0) fun y1 =>
  some (isub .i64 64 y1)
noncomputable def bits_LeadingZeros64.sp (k : Nat) : Go.Sx.Spec := ⟨(.pair T12 .unit), (.one (.dp T2)), fun x => bits_LeadingZeros64 k x.1, false⟩
noncomputable def bits_LeadingZeros64.cx (k : Nat) : Go.Sx.Ctx := ⟨tys, [(194, bits_Len64.sp k)], eqs, 6, 0, [], false⟩
theorem bits_LeadingZeros64.cok (k : Nat) : CtxOk PR (bits_LeadingZeros64.cx k) := ctx_ok tysOk eqsOk (FnsOk.cons (bits_Len64.ok k) FnsOk.nil) HsOk.nil
theorem bits_LeadingZeros64.way (k : Nat) (a0 : Int) : Owp (bits_LeadingZeros64 k a0) fun y => ∃ answers cmds, exec PR (bits_LeadingZeros64.cx k) bits_LeadingZeros64.code 0 (entry (.pair T12 .unit) (a0, ())).st answers (Ret (bits_LeadingZeros64.cx k) Try.f243 cmds (.one (.dp T2)) y) := by
  unfold bits_LeadingZeros64; exact
   Owp.bnd fun y1 e2 =>
   Owp.some (⟨[.res (.one (.dp T2)) y1], [], via (retP (And.intro trivial e2) (.one (.dp T2)) ((isub .i64 (64 : Int) y1) : Int)) (by kernel_rfl)⟩)
theorem bits_LeadingZeros64.ok (k : Nat) : FnOk PR 243 (bits_LeadingZeros64.sp k) :=
  fn_ok (bits_LeadingZeros64.cok k) hmix Try.func243 (code := bits_LeadingZeros64.code) (by kernel_rfl) (by kernel_rfl) (by kernel_rfl) rfl rfl (by kernel_rfl) (by kernel_rfl) (by kernel_rfl) (fun x => Nat.le_of_ble_eq_true (by kernel_rfl)) fun x y hy => (bits_LeadingZeros64.way k x.1).ap hy

/-! math/bits.Div64 -/
noncomputable def bits_Div64.code : Code := Func.cd Try.f213
def bits_Div64.c2 (k : Nat) (a1 : Int) (a2 : Int) (v10 : Int) (v11 : Int) (y5 : Int) : Option (Bool) :=
  bif' (ige v10 4294967296)
  (some true)
  (some (igt (imul .u64 v10 (ibits .and .u64 (ishl .u64 a2 (icv .u64 y5)) 4294967295)) (iadd .u64 (imul .u64 4294967296 v11) (ishr .u64 (ishl .u64 a1 (icv .u64 y5)) 32))))
def bits_Div64.c1 (k : Nat) (a1 : Int) (a2 : Int) (y5 : Int) : Nat → Int → Int → Option (Int)
  | 0, _, _ => none
  | n + 1, v10, v11 =>
   bnd (bits_Div64.c2 k a1 a2 v10 v11 y5) fun o13 =>
   bif' o13
   (bif' (ige (iadd .u64 v11 (ishr .u64 (ishl .u64 a2 (icv .u64 y5)) 32)) 4294967296)
    (some (isub .u64 v10 1))
    (bits_Div64.c1 k a1 a2 y5 n (isub .u64 v10 1) (iadd .u64 v11 (ishr .u64 (ishl .u64 a2 (icv .u64 y5)) 32))))
   (some v10)
def bits_Div64.c4 (k : Nat) (a1 : Int) (a2 : Int) (v19 : Int) (v20 : Int) (y5 : Int) : Option (Bool) :=
  bif' (ige v20 4294967296)
  (some true)
  (some (igt (imul .u64 v20 (ibits .and .u64 (ishl .u64 a2 (icv .u64 y5)) 4294967295)) (iadd .u64 (imul .u64 4294967296 v19) (ibits .and .u64 (ishl .u64 a1 (icv .u64 y5)) 4294967295))))
def bits_Div64.c3 (k : Nat) (a1 : Int) (a2 : Int) (y5 : Int) : Nat → Int → Int → Option (Int)
  | 0, _, _ => none
  | n + 1, v19, v20 =>
   bnd (bits_Div64.c4 k a1 a2 v19 v20 y5) fun o22 =>
   bif' o22
   (bif' (ige (iadd .u64 v19 (ishr .u64 (ishl .u64 a2 (icv .u64 y5)) 32)) 4294967296)
    (some (isub .u64 v20 1))
    (bits_Div64.c3 k a1 a2 y5 n (iadd .u64 v19 (ishr .u64 (ishl .u64 a2 (icv .u64 y5)) 32)) (isub .u64 v20 1)))
   (some v20)
def bits_Div64 (k : Nat) (a0 : Int) (a1 : Int) (a2 : Int) : Option (Int × Int) :=
  bif' (ieq a2 0)
  (none)
  (bif' (ile a2 a0)
   (none)
   (bif' (ieq a0 0)
    (req (nz a2) <|
     some ((iquo .u64 a1 a2), (irem a1 a2)))
    (bnd (bits_LeadingZeros64 k a2) fun y5 =>
     req (ng (icv .u64 y5)) <|
     req (ng (isub .u64 64 (icv .u64 y5))) <|
     req (nz (ishr .u64 (ishl .u64 a2 (icv .u64 y5)) 32)) <|
     bnd (bits_Div64.c1 k a1 a2 y5 k (iquo .u64 (ibits .or .u64 (ishl .u64 a0 (icv .u64 y5)) (ishr .u64 a1 (isub .u64 64 (icv .u64 y5)))) (ishr .u64 (ishl .u64 a2 (icv .u64 y5)) 32)) (isub .u64 (ibits .or .u64 (ishl .u64 a0 (icv .u64 y5)) (ishr .u64 a1 (isub .u64 64 (icv .u64 y5)))) (imul .u64 (iquo .u64 (ibits .or .u64 (ishl .u64 a0 (icv .u64 y5)) (ishr .u64 a1 (isub .u64 64 (icv .u64 y5)))) (ishr .u64 (ishl .u64 a2 (icv .u64 y5)) 32)) (ishr .u64 (ishl .u64 a2 (icv .u64 y5)) 32)))) fun o17 =>
     bnd (bits_Div64.c3 k a1 a2 y5 k (isub .u64 (isub .u64 (iadd .u64 (imul .u64 (ibits .or .u64 (ishl .u64 a0 (icv .u64 y5)) (ishr .u64 a1 (isub .u64 64 (icv .u64 y5)))) 4294967296) (ishr .u64 (ishl .u64 a1 (icv .u64 y5)) 32)) (imul .u64 o17 (ishl .u64 a2 (icv .u64 y5)))) (imul .u64 (iquo .u64 (isub .u64 (iadd .u64 (imul .u64 (ibits .or .u64 (ishl .u64 a0 (icv .u64 y5)) (ishr .u64 a1 (isub .u64 64 (icv .u64 y5)))) 4294967296) (ishr .u64 (ishl .u64 a1 (icv .u64 y5)) 32)) (imul .u64 o17 (ishl .u64 a2 (icv .u64 y5)))) (ishr .u64 (ishl .u64 a2 (icv .u64 y5)) 32)) (ishr .u64 (ishl .u64 a2 (icv .u64 y5)) 32))) (iquo .u64 (isub .u64 (iadd .u64 (imul .u64 (ibits .or .u64 (ishl .u64 a0 (icv .u64 y5)) (ishr .u64 a1 (isub .u64 64 (icv .u64 y5)))) 4294967296) (ishr .u64 (ishl .u64 a1 (icv .u64 y5)) 32)) (imul .u64 o17 (ishl .u64 a2 (icv .u64 y5)))) (ishr .u64 (ishl .u64 a2 (icv .u64 y5)) 32))) fun o26 =>
     some ((iadd .u64 (imul .u64 o17 4294967296) o26), (ishr .u64 (isub .u64 (iadd .u64 (imul .u64 (isub .u64 (iadd .u64 (imul .u64 (ibits .or .u64 (ishl .u64 a0 (icv .u64 y5)) (ishr .u64 a1 (isub .u64 64 (icv .u64 y5)))) 4294967296) (ishr .u64 (ishl .u64 a1 (icv .u64 y5)) 32)) (imul .u64 o17 (ishl .u64 a2 (icv .u64 y5)))) 4294967296) (ibits .and .u64 (ishl .u64 a1 (icv .u64 y5)) 4294967295)) (imul .u64 o26 (ishl .u64 a2 (icv .u64 y5)))) (icv .u64 y5))))))
noncomputable def bits_Div64.sp (k : Nat) : Go.Sx.Spec := ⟨(.pair T12 (.pair T12 (.pair T12 .unit))), (.more (.dp T12) (.one (.dp T12))), fun x => bits_Div64 k x.1 x.2.1 x.2.2.1, false⟩
noncomputable def bits_Div64.cx (k : Nat) : Go.Sx.Ctx := ⟨tys, [(243, bits_LeadingZeros64.sp k)], eqs, 135, 0, [], false⟩
theorem bits_Div64.cok (k : Nat) : CtxOk PR (bits_Div64.cx k) := ctx_ok tysOk eqsOk (FnsOk.cons (bits_LeadingZeros64.ok k) FnsOk.nil) HsOk.nil
noncomputable def bits_Div64.c2p (a0 : Int) (a1 : Int) (a2 : Int) (v10 : Int) (v11 : Int) (y5 : Int) : SL := ⟨[(2, (.val T12 (ishl .u64 a2 (icv .u64 y5)))), (8, (.val T12 (icv .u64 y5))), (9, (.val T12 (ishr .u64 (ishl .u64 a2 (icv .u64 y5)) (32 : Int)))), (10, (.val T12 (ibits .and .u64 (ishl .u64 a2 (icv .u64 y5)) (4294967295 : Int)))), (11, (.val T12 (ibits .or .u64 (ishl .u64 a0 (icv .u64 y5)) (ishr .u64 a1 (isub .u64 (64 : Int) (icv .u64 y5)))))), (13, (.val T12 (ishr .u64 (ishl .u64 a1 (icv .u64 y5)) (32 : Int)))), (14, (.val T12 (ibits .and .u64 (ishl .u64 a1 (icv .u64 y5)) (4294967295 : Int)))), (15, (.val T12 v10)), (16, (.val T12 v11))], []⟩
noncomputable def bits_Div64.c2q (a0 : Int) (a1 : Int) (a2 : Int) (v10 : Int) (v11 : Int) (y5 : Int) (o : Bool) : SL := (fun v => ⟨[(2, (.val T12 (ishl .u64 a2 (icv .u64 y5)))), (8, (.val T12 (icv .u64 y5))), (9, (.val T12 (ishr .u64 (ishl .u64 a2 (icv .u64 y5)) (32 : Int)))), (10, (.val T12 (ibits .and .u64 (ishl .u64 a2 (icv .u64 y5)) (4294967295 : Int)))), (11, (.val T12 (ibits .or .u64 (ishl .u64 a0 (icv .u64 y5)) (ishr .u64 a1 (isub .u64 (64 : Int) (icv .u64 y5)))))), (13, (.val T12 (ishr .u64 (ishl .u64 a1 (icv .u64 y5)) (32 : Int)))), (14, (.val T12 (ibits .and .u64 (ishl .u64 a1 (icv .u64 y5)) (4294967295 : Int)))), (15, (.val T12 v10)), (16, (.val T12 v11)), (78, (.val T4 v))], []⟩) o
noncomputable def bits_Div64.c2x (o : Bool) : Ex := (fun _ => .normal) o
noncomputable def bits_Div64.c2n (o : Bool) : Nat := (fun _ => 0) o
theorem bits_Div64.c2_ok (k : Nat) (a0 : Int) (a1 : Int) (a2 : Int) (v10 : Int) (v11 : Int) (y5 : Int) : Owp (bits_Div64.c2 k a1 a2 v10 v11 y5) fun o => Triple PR (bits_Div64.cx k) (sub bits_Div64.code [1, 1, 1, 1, 1, 1, 1, 1, 1, 1, 1, 1, 1, 1, 0, 0, 0, 0, 0]) 0 (bits_Div64.c2p a0 a1 a2 v10 v11 y5) (bits_Div64.c2x o) (bits_Div64.c2n o) (bits_Div64.c2q a0 a1 a2 v10 v11 y5 o) := by
  unfold bits_Div64.c2; exact
   Owp.bif (fun e12 =>
   Owp.some (triple_way (bits_Div64.cok k) hmix [.dec true, .dec true, .dec true, .dec true, .dec true, .dec true, .dec true, .dec true, .dec true] [] [] (via (finP (And.intro (And.intro (And.intro (And.intro (And.intro (And.intro (And.intro (And.intro (And.intro trivial e12) e12) e12) e12) e12) e12) e12) e12) e12) .normal [] (bits_Div64.c2q a0 a1 a2 v10 v11 y5 true)) (by kernel_rfl)))) (fun e12 =>
   Owp.some (triple_way (bits_Div64.cok k) hmix [.dec false, .dec false, .dec false, .dec false, .dec false, .dec false, .dec false, .dec false, .dec false] [] [] (via (finP (And.intro (And.intro (And.intro (And.intro (And.intro (And.intro (And.intro (And.intro (And.intro trivial e12) e12) e12) e12) e12) e12) e12) e12) e12) .normal [] (bits_Div64.c2q a0 a1 a2 v10 v11 y5 (igt (imul .u64 v10 (ibits .and .u64 (ishl .u64 a2 (icv .u64 y5)) (4294967295 : Int))) (iadd .u64 (imul .u64 (4294967296 : Int) v11) (ishr .u64 (ishl .u64 a1 (icv .u64 y5)) (32 : Int)))))) (by kernel_rfl))))
noncomputable def bits_Div64.c1p (a0 : Int) (a1 : Int) (a2 : Int) (y5 : Int) (v10 : Int) (v11 : Int) : SL := ⟨[(2, (.val T12 (ishl .u64 a2 (icv .u64 y5)))), (8, (.val T12 (icv .u64 y5))), (9, (.val T12 (ishr .u64 (ishl .u64 a2 (icv .u64 y5)) (32 : Int)))), (10, (.val T12 (ibits .and .u64 (ishl .u64 a2 (icv .u64 y5)) (4294967295 : Int)))), (11, (.val T12 (ibits .or .u64 (ishl .u64 a0 (icv .u64 y5)) (ishr .u64 a1 (isub .u64 (64 : Int) (icv .u64 y5)))))), (13, (.val T12 (ishr .u64 (ishl .u64 a1 (icv .u64 y5)) (32 : Int)))), (14, (.val T12 (ibits .and .u64 (ishl .u64 a1 (icv .u64 y5)) (4294967295 : Int)))), (15, (.val T12 v10)), (16, (.val T12 v11))], []⟩
noncomputable def bits_Div64.c1q (a0 : Int) (a1 : Int) (a2 : Int) (y5 : Int) (o : Int) : SL := (fun v => ⟨[(2, (.val T12 (ishl .u64 a2 (icv .u64 y5)))), (8, (.val T12 (icv .u64 y5))), (9, (.val T12 (ishr .u64 (ishl .u64 a2 (icv .u64 y5)) (32 : Int)))), (10, (.val T12 (ibits .and .u64 (ishl .u64 a2 (icv .u64 y5)) (4294967295 : Int)))), (11, (.val T12 (ibits .or .u64 (ishl .u64 a0 (icv .u64 y5)) (ishr .u64 a1 (isub .u64 (64 : Int) (icv .u64 y5)))))), (13, (.val T12 (ishr .u64 (ishl .u64 a1 (icv .u64 y5)) (32 : Int)))), (14, (.val T12 (ibits .and .u64 (ishl .u64 a1 (icv .u64 y5)) (4294967295 : Int)))), (15, (.val T12 v))], []⟩) o
noncomputable def bits_Div64.c1x (o : Int) : Ex := (fun _ => (.exit 0)) o
noncomputable def bits_Div64.c1n (o : Int) : Nat := (fun _ => 0) o
theorem bits_Div64.c1_ok (k : Nat) (a0 : Int) (a1 : Int) (a2 : Int) (y5 : Int) : ∀ (n : Nat) (v10 : Int) (v11 : Int), Owp (bits_Div64.c1 k a1 a2 y5 n v10 v11) fun o => LTriple PR (bits_Div64.cx k) (sub bits_Div64.code [1, 1, 1, 1, 1, 1, 1, 1, 1, 1, 1, 1, 1, 1, 0, 0, 0]) 0 (bits_Div64.c1p a0 a1 a2 y5 v10 v11) (bits_Div64.c1x o) (bits_Div64.c1n o) (bits_Div64.c1q a0 a1 a2 y5 o)
  | 0, _, _ => fun _ h => nomatch h
  | n + 1, v10, v11 => Owp.of (bits_Div64.c1.eq_2 ..) (
   Owp.bnd fun o13 e14 =>
   Owp.bif (fun e15 =>
   Owp.bif (fun e16 =>
    Owp.some (loop_exit (bits_Div64.cok k) hmix [.cutR 17 ⟨[], [], (bits_Div64.c2p a0 a1 a2 v10 v11 y5), 0, .normal, (bits_Div64.c2q a0 a1 a2 v10 v11 y5 o13), 0⟩, .dec true, .dec true] [] [] (exne 0) (via (cutP trivial [] (bits_Div64.c2p a0 a1 a2 v10 v11 y5) (((bits_Div64.c2_ok k a0 a1 a2 v10 v11 y5).ap e14)) (finP (And.intro (And.intro trivial e15) e16) (.exit 0) [] (bits_Div64.c1q a0 a1 a2 y5 (isub .u64 v10 (1 : Int))))) (by kernel_rfl)))) (fun e16 =>
    fun y hy => loop_back (bits_Div64.cok k) hmix 0 (bits_Div64.c1p a0 a1 a2 y5 (isub .u64 v10 (1 : Int)) (iadd .u64 v11 (ishr .u64 (ishl .u64 a2 (icv .u64 y5)) (32 : Int)))) [.cutR 17 ⟨[], [], (bits_Div64.c2p a0 a1 a2 v10 v11 y5), 0, .normal, (bits_Div64.c2q a0 a1 a2 v10 v11 y5 o13), 0⟩, .dec true, .dec false] [] [] (via (cutP trivial [] (bits_Div64.c2p a0 a1 a2 v10 v11 y5) (((bits_Div64.c2_ok k a0 a1 a2 v10 v11 y5).ap e14)) (finP (And.intro (And.intro trivial e15) e16) .normal [] (bits_Div64.c1p a0 a1 a2 y5 (isub .u64 v10 (1 : Int)) (iadd .u64 v11 (ishr .u64 (ishl .u64 a2 (icv .u64 y5)) (32 : Int)))))) (by kernel_rfl)) ((bits_Div64.c1_ok k a0 a1 a2 y5 n (isub .u64 v10 (1 : Int)) (iadd .u64 v11 (ishr .u64 (ishl .u64 a2 (icv .u64 y5)) (32 : Int)))).ap hy))) (fun e15 =>
   Owp.some (loop_exit (bits_Div64.cok k) hmix [.cutR 17 ⟨[], [], (bits_Div64.c2p a0 a1 a2 v10 v11 y5), 0, .normal, (bits_Div64.c2q a0 a1 a2 v10 v11 y5 o13), 0⟩, .dec false] [] [] (exne 0) (via (cutP trivial [] (bits_Div64.c2p a0 a1 a2 v10 v11 y5) (((bits_Div64.c2_ok k a0 a1 a2 v10 v11 y5).ap e14)) (finP (And.intro trivial e15) (.exit 0) [] (bits_Div64.c1q a0 a1 a2 y5 v10))) (by kernel_rfl)))))
noncomputable def bits_Div64.c4p (a0 : Int) (a1 : Int) (a2 : Int) (o17 : Int) (v19 : Int) (v20 : Int) (y5 : Int) : SL := ⟨[(2, (.val T12 (ishl .u64 a2 (icv .u64 y5)))), (8, (.val T12 (icv .u64 y5))), (9, (.val T12 (ishr .u64 (ishl .u64 a2 (icv .u64 y5)) (32 : Int)))), (10, (.val T12 (ibits .and .u64 (ishl .u64 a2 (icv .u64 y5)) (4294967295 : Int)))), (14, (.val T12 (ibits .and .u64 (ishl .u64 a1 (icv .u64 y5)) (4294967295 : Int)))), (15, (.val T12 o17)), (16, (.val T12 v19)), (17, (.val T12 (isub .u64 (iadd .u64 (imul .u64 (ibits .or .u64 (ishl .u64 a0 (icv .u64 y5)) (ishr .u64 a1 (isub .u64 (64 : Int) (icv .u64 y5)))) (4294967296 : Int)) (ishr .u64 (ishl .u64 a1 (icv .u64 y5)) (32 : Int))) (imul .u64 o17 (ishl .u64 a2 (icv .u64 y5)))))), (18, (.val T12 v20))], []⟩
noncomputable def bits_Div64.c4q (a0 : Int) (a1 : Int) (a2 : Int) (o17 : Int) (v19 : Int) (v20 : Int) (y5 : Int) (o : Bool) : SL := (fun v => ⟨[(2, (.val T12 (ishl .u64 a2 (icv .u64 y5)))), (8, (.val T12 (icv .u64 y5))), (9, (.val T12 (ishr .u64 (ishl .u64 a2 (icv .u64 y5)) (32 : Int)))), (10, (.val T12 (ibits .and .u64 (ishl .u64 a2 (icv .u64 y5)) (4294967295 : Int)))), (14, (.val T12 (ibits .and .u64 (ishl .u64 a1 (icv .u64 y5)) (4294967295 : Int)))), (15, (.val T12 o17)), (16, (.val T12 v19)), (17, (.val T12 (isub .u64 (iadd .u64 (imul .u64 (ibits .or .u64 (ishl .u64 a0 (icv .u64 y5)) (ishr .u64 a1 (isub .u64 (64 : Int) (icv .u64 y5)))) (4294967296 : Int)) (ishr .u64 (ishl .u64 a1 (icv .u64 y5)) (32 : Int))) (imul .u64 o17 (ishl .u64 a2 (icv .u64 y5)))))), (18, (.val T12 v20)), (113, (.val T4 v))], []⟩) o
noncomputable def bits_Div64.c4x (o : Bool) : Ex := (fun _ => .normal) o
noncomputable def bits_Div64.c4n (o : Bool) : Nat := (fun _ => 0) o
theorem bits_Div64.c4_ok (k : Nat) (a0 : Int) (a1 : Int) (a2 : Int) (o17 : Int) (v19 : Int) (v20 : Int) (y5 : Int) : Owp (bits_Div64.c4 k a1 a2 v19 v20 y5) fun o => Triple PR (bits_Div64.cx k) (sub bits_Div64.code [1, 1, 1, 1, 1, 1, 1, 1, 1, 1, 1, 1, 1, 1, 1, 1, 1, 1, 0, 0, 0, 0, 0]) 0 (bits_Div64.c4p a0 a1 a2 o17 v19 v20 y5) (bits_Div64.c4x o) (bits_Div64.c4n o) (bits_Div64.c4q a0 a1 a2 o17 v19 v20 y5 o) := by
  unfold bits_Div64.c4; exact
   Owp.bif (fun e21 =>
   Owp.some (triple_way (bits_Div64.cok k) hmix [.dec true, .dec true, .dec true, .dec true, .dec true, .dec true, .dec true, .dec true, .dec true] [] [] (via (finP (And.intro (And.intro (And.intro (And.intro (And.intro (And.intro (And.intro (And.intro (And.intro trivial e21) e21) e21) e21) e21) e21) e21) e21) e21) .normal [] (bits_Div64.c4q a0 a1 a2 o17 v19 v20 y5 true)) (by kernel_rfl)))) (fun e21 =>
   Owp.some (triple_way (bits_Div64.cok k) hmix [.dec false, .dec false, .dec false, .dec false, .dec false, .dec false, .dec false, .dec false, .dec false] [] [] (via (finP (And.intro (And.intro (And.intro (And.intro (And.intro (And.intro (And.intro (And.intro (And.intro trivial e21) e21) e21) e21) e21) e21) e21) e21) e21) .normal [] (bits_Div64.c4q a0 a1 a2 o17 v19 v20 y5 (igt (imul .u64 v20 (ibits .and .u64 (ishl .u64 a2 (icv .u64 y5)) (4294967295 : Int))) (iadd .u64 (imul .u64 (4294967296 : Int) v19) (ibits .and .u64 (ishl .u64 a1 (icv .u64 y5)) (4294967295 : Int)))))) (by kernel_rfl))))
noncomputable def bits_Div64.c3p (a0 : Int) (a1 : Int) (a2 : Int) (o17 : Int) (y5 : Int) (v19 : Int) (v20 : Int) : SL := ⟨[(2, (.val T12 (ishl .u64 a2 (icv .u64 y5)))), (8, (.val T12 (icv .u64 y5))), (9, (.val T12 (ishr .u64 (ishl .u64 a2 (icv .u64 y5)) (32 : Int)))), (10, (.val T12 (ibits .and .u64 (ishl .u64 a2 (icv .u64 y5)) (4294967295 : Int)))), (14, (.val T12 (ibits .and .u64 (ishl .u64 a1 (icv .u64 y5)) (4294967295 : Int)))), (15, (.val T12 o17)), (16, (.val T12 v19)), (17, (.val T12 (isub .u64 (iadd .u64 (imul .u64 (ibits .or .u64 (ishl .u64 a0 (icv .u64 y5)) (ishr .u64 a1 (isub .u64 (64 : Int) (icv .u64 y5)))) (4294967296 : Int)) (ishr .u64 (ishl .u64 a1 (icv .u64 y5)) (32 : Int))) (imul .u64 o17 (ishl .u64 a2 (icv .u64 y5)))))), (18, (.val T12 v20))], []⟩
noncomputable def bits_Div64.c3q (a0 : Int) (a1 : Int) (a2 : Int) (o17 : Int) (y5 : Int) (o : Int) : SL := (fun v => ⟨[(2, (.val T12 (ishl .u64 a2 (icv .u64 y5)))), (8, (.val T12 (icv .u64 y5))), (14, (.val T12 (ibits .and .u64 (ishl .u64 a1 (icv .u64 y5)) (4294967295 : Int)))), (15, (.val T12 o17)), (17, (.val T12 (isub .u64 (iadd .u64 (imul .u64 (ibits .or .u64 (ishl .u64 a0 (icv .u64 y5)) (ishr .u64 a1 (isub .u64 (64 : Int) (icv .u64 y5)))) (4294967296 : Int)) (ishr .u64 (ishl .u64 a1 (icv .u64 y5)) (32 : Int))) (imul .u64 o17 (ishl .u64 a2 (icv .u64 y5)))))), (18, (.val T12 v))], []⟩) o
noncomputable def bits_Div64.c3x (o : Int) : Ex := (fun _ => (.exit 2)) o
noncomputable def bits_Div64.c3n (o : Int) : Nat := (fun _ => 0) o
theorem bits_Div64.c3_ok (k : Nat) (a0 : Int) (a1 : Int) (a2 : Int) (o17 : Int) (y5 : Int) : ∀ (n : Nat) (v19 : Int) (v20 : Int), Owp (bits_Div64.c3 k a1 a2 y5 n v19 v20) fun o => LTriple PR (bits_Div64.cx k) (sub bits_Div64.code [1, 1, 1, 1, 1, 1, 1, 1, 1, 1, 1, 1, 1, 1, 1, 1, 1, 1, 0, 0, 0]) 0 (bits_Div64.c3p a0 a1 a2 o17 y5 v19 v20) (bits_Div64.c3x o) (bits_Div64.c3n o) (bits_Div64.c3q a0 a1 a2 o17 y5 o)
  | 0, _, _ => fun _ h => nomatch h
  | n + 1, v19, v20 => Owp.of (bits_Div64.c3.eq_2 ..) (
   Owp.bnd fun o22 e23 =>
   Owp.bif (fun e24 =>
   Owp.bif (fun e25 =>
    Owp.some (loop_exit (bits_Div64.cok k) hmix [.cutR 24 ⟨[], [], (bits_Div64.c4p a0 a1 a2 o17 v19 v20 y5), 0, .normal, (bits_Div64.c4q a0 a1 a2 o17 v19 v20 y5 o22), 0⟩, .dec true, .dec true] [] [] (exne 2) (via (cutP trivial [] (bits_Div64.c4p a0 a1 a2 o17 v19 v20 y5) (((bits_Div64.c4_ok k a0 a1 a2 o17 v19 v20 y5).ap e23)) (finP (And.intro (And.intro trivial e24) e25) (.exit 2) [] (bits_Div64.c3q a0 a1 a2 o17 y5 (isub .u64 v20 (1 : Int))))) (by kernel_rfl)))) (fun e25 =>
    fun y hy => loop_back (bits_Div64.cok k) hmix 0 (bits_Div64.c3p a0 a1 a2 o17 y5 (iadd .u64 v19 (ishr .u64 (ishl .u64 a2 (icv .u64 y5)) (32 : Int))) (isub .u64 v20 (1 : Int))) [.cutR 24 ⟨[], [], (bits_Div64.c4p a0 a1 a2 o17 v19 v20 y5), 0, .normal, (bits_Div64.c4q a0 a1 a2 o17 v19 v20 y5 o22), 0⟩, .dec true, .dec false] [] [] (via (cutP trivial [] (bits_Div64.c4p a0 a1 a2 o17 v19 v20 y5) (((bits_Div64.c4_ok k a0 a1 a2 o17 v19 v20 y5).ap e23)) (finP (And.intro (And.intro trivial e24) e25) .normal [] (bits_Div64.c3p a0 a1 a2 o17 y5 (iadd .u64 v19 (ishr .u64 (ishl .u64 a2 (icv .u64 y5)) (32 : Int))) (isub .u64 v20 (1 : Int))))) (by kernel_rfl)) ((bits_Div64.c3_ok k a0 a1 a2 o17 y5 n (iadd .u64 v19 (ishr .u64 (ishl .u64 a2 (icv .u64 y5)) (32 : Int))) (isub .u64 v20 (1 : Int))).ap hy))) (fun e24 =>
   Owp.some (loop_exit (bits_Div64.cok k) hmix [.cutR 24 ⟨[], [], (bits_Div64.c4p a0 a1 a2 o17 v19 v20 y5), 0, .normal, (bits_Div64.c4q a0 a1 a2 o17 v19 v20 y5 o22), 0⟩, .dec false] [] [] (exne 2) (via (cutP trivial [] (bits_Div64.c4p a0 a1 a2 o17 v19 v20 y5) (((bits_Div64.c4_ok k a0 a1 a2 o17 v19 v20 y5).ap e23)) (finP (And.intro trivial e24) (.exit 2) [] (bits_Div64.c3q a0 a1 a2 o17 y5 v20))) (by kernel_rfl)))))
theorem bits_Div64.way (k : Nat) (a0 : Int) (a1 : Int) (a2 : Int) : Owp (bits_Div64 k a0 a1 a2) fun y => ∃ answers cmds, exec PR (bits_Div64.cx k) bits_Div64.code 0 (entry (.pair T12 (.pair T12 (.pair T12 .unit))) (a0, a1, a2, ())).st answers (Ret (bits_Div64.cx k) Try.f213 cmds (.more (.dp T12) (.one (.dp T12))) y) := by
  unfold bits_Div64; exact
   Owp.bif (fun e1 =>
   Owp.none) (fun e1 =>
   Owp.bif (fun e2 =>
    Owp.none) (fun e2 =>
    Owp.bif (fun e3 =>
     Owp.req fun h4 =>
      Owp.some (⟨[.dec false, .dec false, .dec true], [], via (retP (And.intro (And.intro (And.intro (And.intro (And.intro trivial e1) e2) e3) h4) h4) (.more (.dp T12) (.one (.dp T12))) (((iquo .u64 a1 a2), (irem a1 a2)) : (Int × Int))) (by kernel_rfl)⟩)) (fun e3 =>
     Owp.bnd fun y5 e6 =>
      Owp.req fun h7 =>
      Owp.req fun h8 =>
      Owp.req fun h9 =>
      Owp.bnd fun o17 e18 =>
      Owp.bnd fun o26 e27 =>
      Owp.some (⟨[.dec false, .dec false, .dec false, .res (.one (.dp T2)) y5, .cut ⟨[], [], (bits_Div64.c1p a0 a1 a2 y5 (iquo .u64 (ibits .or .u64 (ishl .u64 a0 (icv .u64 y5)) (ishr .u64 a1 (isub .u64 (64 : Int) (icv .u64 y5)))) (ishr .u64 (ishl .u64 a2 (icv .u64 y5)) (32 : Int))) (isub .u64 (ibits .or .u64 (ishl .u64 a0 (icv .u64 y5)) (ishr .u64 a1 (isub .u64 (64 : Int) (icv .u64 y5)))) (imul .u64 (iquo .u64 (ibits .or .u64 (ishl .u64 a0 (icv .u64 y5)) (ishr .u64 a1 (isub .u64 (64 : Int) (icv .u64 y5)))) (ishr .u64 (ishl .u64 a2 (icv .u64 y5)) (32 : Int))) (ishr .u64 (ishl .u64 a2 (icv .u64 y5)) (32 : Int))))), 0, (.exit 0), (bits_Div64.c1q a0 a1 a2 y5 o17), 0⟩, .cut ⟨[], [], (bits_Div64.c3p a0 a1 a2 o17 y5 (isub .u64 (isub .u64 (iadd .u64 (imul .u64 (ibits .or .u64 (ishl .u64 a0 (icv .u64 y5)) (ishr .u64 a1 (isub .u64 (64 : Int) (icv .u64 y5)))) (4294967296 : Int)) (ishr .u64 (ishl .u64 a1 (icv .u64 y5)) (32 : Int))) (imul .u64 o17 (ishl .u64 a2 (icv .u64 y5)))) (imul .u64 (iquo .u64 (isub .u64 (iadd .u64 (imul .u64 (ibits .or .u64 (ishl .u64 a0 (icv .u64 y5)) (ishr .u64 a1 (isub .u64 (64 : Int) (icv .u64 y5)))) (4294967296 : Int)) (ishr .u64 (ishl .u64 a1 (icv .u64 y5)) (32 : Int))) (imul .u64 o17 (ishl .u64 a2 (icv .u64 y5)))) (ishr .u64 (ishl .u64 a2 (icv .u64 y5)) (32 : Int))) (ishr .u64 (ishl .u64 a2 (icv .u64 y5)) (32 : Int)))) (iquo .u64 (isub .u64 (iadd .u64 (imul .u64 (ibits .or .u64 (ishl .u64 a0 (icv .u64 y5)) (ishr .u64 a1 (isub .u64 (64 : Int) (icv .u64 y5)))) (4294967296 : Int)) (ishr .u64 (ishl .u64 a1 (icv .u64 y5)) (32 : Int))) (imul .u64 o17 (ishl .u64 a2 (icv .u64 y5)))) (ishr .u64 (ishl .u64 a2 (icv .u64 y5)) (32 : Int)))), 0, (.exit 2), (bits_Div64.c3q a0 a1 a2 o17 y5 o26), 0⟩], [], via (cutP (And.intro (And.intro (And.intro (And.intro (And.intro (And.intro (And.intro (And.intro (And.intro (And.intro (And.intro trivial e1) e2) e3) e6) h7) (by decide : ng (32 : Int))) h7) h8) h7) (by decide : ng (32 : Int))) h9) [] (bits_Div64.c1p a0 a1 a2 y5 (iquo .u64 (ibits .or .u64 (ishl .u64 a0 (icv .u64 y5)) (ishr .u64 a1 (isub .u64 (64 : Int) (icv .u64 y5)))) (ishr .u64 (ishl .u64 a2 (icv .u64 y5)) (32 : Int))) (isub .u64 (ibits .or .u64 (ishl .u64 a0 (icv .u64 y5)) (ishr .u64 a1 (isub .u64 (64 : Int) (icv .u64 y5)))) (imul .u64 (iquo .u64 (ibits .or .u64 (ishl .u64 a0 (icv .u64 y5)) (ishr .u64 a1 (isub .u64 (64 : Int) (icv .u64 y5)))) (ishr .u64 (ishl .u64 a2 (icv .u64 y5)) (32 : Int))) (ishr .u64 (ishl .u64 a2 (icv .u64 y5)) (32 : Int))))) (((bits_Div64.c1_ok k a0 a1 a2 y5 k (iquo .u64 (ibits .or .u64 (ishl .u64 a0 (icv .u64 y5)) (ishr .u64 a1 (isub .u64 (64 : Int) (icv .u64 y5)))) (ishr .u64 (ishl .u64 a2 (icv .u64 y5)) (32 : Int))) (isub .u64 (ibits .or .u64 (ishl .u64 a0 (icv .u64 y5)) (ishr .u64 a1 (isub .u64 (64 : Int) (icv .u64 y5)))) (imul .u64 (iquo .u64 (ibits .or .u64 (ishl .u64 a0 (icv .u64 y5)) (ishr .u64 a1 (isub .u64 (64 : Int) (icv .u64 y5)))) (ishr .u64 (ishl .u64 a2 (icv .u64 y5)) (32 : Int))) (ishr .u64 (ishl .u64 a2 (icv .u64 y5)) (32 : Int))))).ap e18).triple) (cutP (And.intro trivial h9) [] (bits_Div64.c3p a0 a1 a2 o17 y5 (isub .u64 (isub .u64 (iadd .u64 (imul .u64 (ibits .or .u64 (ishl .u64 a0 (icv .u64 y5)) (ishr .u64 a1 (isub .u64 (64 : Int) (icv .u64 y5)))) (4294967296 : Int)) (ishr .u64 (ishl .u64 a1 (icv .u64 y5)) (32 : Int))) (imul .u64 o17 (ishl .u64 a2 (icv .u64 y5)))) (imul .u64 (iquo .u64 (isub .u64 (iadd .u64 (imul .u64 (ibits .or .u64 (ishl .u64 a0 (icv .u64 y5)) (ishr .u64 a1 (isub .u64 (64 : Int) (icv .u64 y5)))) (4294967296 : Int)) (ishr .u64 (ishl .u64 a1 (icv .u64 y5)) (32 : Int))) (imul .u64 o17 (ishl .u64 a2 (icv .u64 y5)))) (ishr .u64 (ishl .u64 a2 (icv .u64 y5)) (32 : Int))) (ishr .u64 (ishl .u64 a2 (icv .u64 y5)) (32 : Int)))) (iquo .u64 (isub .u64 (iadd .u64 (imul .u64 (ibits .or .u64 (ishl .u64 a0 (icv .u64 y5)) (ishr .u64 a1 (isub .u64 (64 : Int) (icv .u64 y5)))) (4294967296 : Int)) (ishr .u64 (ishl .u64 a1 (icv .u64 y5)) (32 : Int))) (imul .u64 o17 (ishl .u64 a2 (icv .u64 y5)))) (ishr .u64 (ishl .u64 a2 (icv .u64 y5)) (32 : Int)))) (((bits_Div64.c3_ok k a0 a1 a2 o17 y5 k (isub .u64 (isub .u64 (iadd .u64 (imul .u64 (ibits .or .u64 (ishl .u64 a0 (icv .u64 y5)) (ishr .u64 a1 (isub .u64 (64 : Int) (icv .u64 y5)))) (4294967296 : Int)) (ishr .u64 (ishl .u64 a1 (icv .u64 y5)) (32 : Int))) (imul .u64 o17 (ishl .u64 a2 (icv .u64 y5)))) (imul .u64 (iquo .u64 (isub .u64 (iadd .u64 (imul .u64 (ibits .or .u64 (ishl .u64 a0 (icv .u64 y5)) (ishr .u64 a1 (isub .u64 (64 : Int) (icv .u64 y5)))) (4294967296 : Int)) (ishr .u64 (ishl .u64 a1 (icv .u64 y5)) (32 : Int))) (imul .u64 o17 (ishl .u64 a2 (icv .u64 y5)))) (ishr .u64 (ishl .u64 a2 (icv .u64 y5)) (32 : Int))) (ishr .u64 (ishl .u64 a2 (icv .u64 y5)) (32 : Int)))) (iquo .u64 (isub .u64 (iadd .u64 (imul .u64 (ibits .or .u64 (ishl .u64 a0 (icv .u64 y5)) (ishr .u64 a1 (isub .u64 (64 : Int) (icv .u64 y5)))) (4294967296 : Int)) (ishr .u64 (ishl .u64 a1 (icv .u64 y5)) (32 : Int))) (imul .u64 o17 (ishl .u64 a2 (icv .u64 y5)))) (ishr .u64 (ishl .u64 a2 (icv .u64 y5)) (32 : Int)))).ap e27).triple) (retP (And.intro trivial h7) (.more (.dp T12) (.one (.dp T12))) (((iadd .u64 (imul .u64 o17 (4294967296 : Int)) o26), (ishr .u64 (isub .u64 (iadd .u64 (imul .u64 (isub .u64 (iadd .u64 (imul .u64 (ibits .or .u64 (ishl .u64 a0 (icv .u64 y5)) (ishr .u64 a1 (isub .u64 (64 : Int) (icv .u64 y5)))) (4294967296 : Int)) (ishr .u64 (ishl .u64 a1 (icv .u64 y5)) (32 : Int))) (imul .u64 o17 (ishl .u64 a2 (icv .u64 y5)))) (4294967296 : Int)) (ibits .and .u64 (ishl .u64 a1 (icv .u64 y5)) (4294967295 : Int))) (imul .u64 o26 (ishl .u64 a2 (icv .u64 y5)))) (icv .u64 y5))) : (Int × Int))))) (by kernel_rfl)⟩))))
theorem bits_Div64.ok (k : Nat) : FnOk PR 213 (bits_Div64.sp k) :=
  fn_ok (bits_Div64.cok k) hmix Try.func213 (code := bits_Div64.code) (by kernel_rfl) (by kernel_rfl) (by kernel_rfl) rfl rfl (by kernel_rfl) (by kernel_rfl) (by kernel_rfl) (fun x => Nat.le_of_ble_eq_true (by kernel_rfl)) fun x y hy => (bits_Div64.way k x.1 x.2.1 x.2.2.1).ap hy

/-! tourney/fix.MulDiv -/
noncomputable def fix_MulDiv.code : Code := Func.cd Try.f154
def fix_MulDiv.c1 (k : Nat) (y1 : Int) (y3 : Int) : Option (Bool) :=
  bif' (ilt y3 0)
  (some (!(ilt y1 0)))
  (some (ilt y1 0))
def fix_MulDiv.c2 (k : Nat) (o9 : Bool) (y5 : Int) : Option (Bool) :=
  bif' (ilt y5 0)
  (some (!o9))
  (some o9)
def fix_MulDiv.c3 (k : Nat) (y24 : (Int × Int)) : Option ((Int × Int)) :=
  bif' (igt y24.1 1099511627776)
  (some (1099511627777, 0))
  (some (y24.1, y24.2))
def fix_MulDiv.c4 (k : Nat) (o27 : (Int × Int)) (y14 : Int) : Option (Int) :=
  bif' (igt o27.2 (isub .u64 y14 o27.2))
  (some (iadd .i64 (icv .i64 o27.1) 1))
  (some (icv .i64 o27.1))
def fix_MulDiv.c5 (k : Nat) (o27 : (Int × Int)) (y14 : Int) : Option (Int) :=
  bif' (ige o27.2 (isub .u64 y14 o27.2))
  (some (iadd .i64 (icv .i64 o27.1) 1))
  (some (icv .i64 o27.1))
def fix_MulDiv (k : Nat) (a0 : Int) (a1 : Int) (a2 : Int) : Option Int :=
  bnd (fix_Clamp k a0) fun y1 =>
  bnd (fix_Clamp k a1) fun y3 =>
  bnd (fix_Clamp k a2) fun y5 =>
  bif' (ieq y5 0)
  (some 0)
  (bnd (fix_MulDiv.c1 k y1 y3) fun o9 =>
   bnd (fix_MulDiv.c2 k o9 y5) fun o12 =>
   bnd (fix_mag k y5) fun y14 =>
   bnd (fix_mag k y1) fun y16 =>
   bnd (fix_mag k y3) fun y18 =>
   bnd (bits_Mul64 k y16 y18) fun y20 =>
   bif' (ige y20.1 y14)
   (bif' o12
    (some (-1099511627776))
    (some 1099511627776))
   (bnd (bits_Div64 k y20.1 y20.2 y14) fun y24 =>
    bnd (fix_MulDiv.c3 k y24) fun o27 =>
    bif' o12
    (bnd (fix_MulDiv.c4 k o27 y14) fun o31 =>
     bnd (fix_Clamp k (ineg .i64 o31)) fun y33 =>
     some y33)
    (bnd (fix_MulDiv.c5 k o27 y14) fun o36 =>
     bnd (fix_Clamp k o36) fun y38 =>
     some y38)))
noncomputable def fix_MulDiv.sp (k : Nat) : Go.Sx.Spec := ⟨(.pair T2 T27), (.one (.dp T2)), fun x => fix_MulDiv k x.1 x.2.1 x.2.2.1, false⟩
noncomputable def fix_MulDiv.cx (k : Nat) : Go.Sx.Ctx := ⟨tys, [(125, fix_Clamp.sp k), (212, fix_mag.sp k), (169, bits_Mul64.sp k), (213, bits_Div64.sp k)], eqs, 78, 0, [], false⟩
theorem fix_MulDiv.cok (k : Nat) : CtxOk PR (fix_MulDiv.cx k) := ctx_ok tysOk eqsOk (FnsOk.cons (fix_Clamp.ok k) (FnsOk.cons (fix_mag.ok k) (FnsOk.cons (bits_Mul64.ok k) (FnsOk.cons (bits_Div64.ok k) FnsOk.nil)))) HsOk.nil
noncomputable def fix_MulDiv.c1p (y1 : Int) (y3 : Int) (y5 : Int) : SL := ⟨[(0, (.val T2 y1)), (1, (.val T2 y3)), (2, (.val T2 y5)), (7, (.val T4 (ilt y1 (0 : Int)))), (25, (.val T4 (ilt y3 (0 : Int))))], []⟩
noncomputable def fix_MulDiv.c1q (y1 : Int) (y3 : Int) (y5 : Int) (o : Bool) : SL := (fun v => ⟨[(0, (.val T2 y1)), (1, (.val T2 y3)), (2, (.val T2 y5)), (7, (.val T4 v))], []⟩) o
noncomputable def fix_MulDiv.c1x (o : Bool) : Ex := (fun _ => .normal) o
noncomputable def fix_MulDiv.c1n (o : Bool) : Nat := (fun _ => 0) o
theorem fix_MulDiv.c1_ok (k : Nat) (y1 : Int) (y3 : Int) (y5 : Int) : Owp (fix_MulDiv.c1 k y1 y3) fun o => Triple PR (fix_MulDiv.cx k) (sub fix_MulDiv.code [1, 1, 1, 1, 0, 1]) 0 (fix_MulDiv.c1p y1 y3 y5) (fix_MulDiv.c1x o) (fix_MulDiv.c1n o) (fix_MulDiv.c1q y1 y3 y5 o) := by
  unfold fix_MulDiv.c1; exact
   Owp.bif (fun e8 =>
   Owp.some (triple_way (fix_MulDiv.cok k) hmix [.dec true] [] [] (via (finP (And.intro trivial e8) .normal [] (fix_MulDiv.c1q y1 y3 y5 (!(ilt y1 (0 : Int))))) (by kernel_rfl)))) (fun e8 =>
   Owp.some (triple_way (fix_MulDiv.cok k) hmix [.dec false] [] [] (via (finP (And.intro trivial e8) .normal [] (fix_MulDiv.c1q y1 y3 y5 (ilt y1 (0 : Int)))) (by kernel_rfl))))
noncomputable def fix_MulDiv.c2p (o9 : Bool) (y1 : Int) (y3 : Int) (y5 : Int) : SL := ⟨[(0, (.val T2 y1)), (1, (.val T2 y3)), (2, (.val T2 y5)), (7, (.val T4 o9)), (29, (.val T4 (ilt y5 (0 : Int))))], []⟩
noncomputable def fix_MulDiv.c2q (y1 : Int) (y3 : Int) (y5 : Int) (o : Bool) : SL := (fun v => ⟨[(0, (.val T2 y1)), (1, (.val T2 y3)), (2, (.val T2 y5)), (7, (.val T4 v))], []⟩) o
noncomputable def fix_MulDiv.c2x (o : Bool) : Ex := (fun _ => .normal) o
noncomputable def fix_MulDiv.c2n (o : Bool) : Nat := (fun _ => 0) o
theorem fix_MulDiv.c2_ok (k : Nat) (o9 : Bool) (y1 : Int) (y3 : Int) (y5 : Int) : Owp (fix_MulDiv.c2 k o9 y5) fun o => Triple PR (fix_MulDiv.cx k) (sub fix_MulDiv.code [1, 1, 1, 1, 1, 0, 1]) 0 (fix_MulDiv.c2p o9 y1 y3 y5) (fix_MulDiv.c2x o) (fix_MulDiv.c2n o) (fix_MulDiv.c2q y1 y3 y5 o) := by
  unfold fix_MulDiv.c2; exact
   Owp.bif (fun e11 =>
   Owp.some (triple_way (fix_MulDiv.cok k) hmix [.dec true] [] [] (via (finP (And.intro trivial e11) .normal [] (fix_MulDiv.c2q y1 y3 y5 (!o9))) (by kernel_rfl)))) (fun e11 =>
   Owp.some (triple_way (fix_MulDiv.cok k) hmix [.dec false] [] [] (via (finP (And.intro trivial e11) .normal [] (fix_MulDiv.c2q y1 y3 y5 o9)) (by kernel_rfl))))
noncomputable def fix_MulDiv.c3p (o12 : Bool) (y14 : Int) (y24 : (Int × Int)) : SL := ⟨[(7, (.val T4 o12)), (8, (.val T12 y14)), (11, (.val T12 y24.1)), (12, (.val T12 y24.2)), (54, (.val T4 (igt y24.1 (1099511627776 : Int))))], []⟩
noncomputable def fix_MulDiv.c3q (o12 : Bool) (y14 : Int) (o : (Int × Int)) : SL := (fun v => ⟨[(7, (.val T4 o12)), (8, (.val T12 y14)), (11, (.val T12 v.1)), (12, (.val T12 v.2))], []⟩) o
noncomputable def fix_MulDiv.c3x (o : (Int × Int)) : Ex := (fun _ => .normal) o
noncomputable def fix_MulDiv.c3n (o : (Int × Int)) : Nat := (fun _ => 0) o
theorem fix_MulDiv.c3_ok (k : Nat) (o12 : Bool) (y14 : Int) (y24 : (Int × Int)) : Owp (fix_MulDiv.c3 k y24) fun o => Triple PR (fix_MulDiv.cx k) (sub fix_MulDiv.code [1, 1, 1, 1, 1, 1, 1, 1, 1, 1, 0, 1]) 0 (fix_MulDiv.c3p o12 y14 y24) (fix_MulDiv.c3x o) (fix_MulDiv.c3n o) (fix_MulDiv.c3q o12 y14 o) := by
  unfold fix_MulDiv.c3; exact
   Owp.bif (fun e26 =>
   Owp.some (triple_way (fix_MulDiv.cok k) hmix [.dec true] [] [] (via (finP (And.intro trivial e26) .normal [] (fix_MulDiv.c3q o12 y14 ((1099511627777 : Int), (0 : Int)))) (by kernel_rfl)))) (fun e26 =>
   Owp.some (triple_way (fix_MulDiv.cok k) hmix [.dec false] [] [] (via (finP (And.intro trivial e26) .normal [] (fix_MulDiv.c3q o12 y14 (y24.1, y24.2))) (by kernel_rfl))))
noncomputable def fix_MulDiv.c4p (o27 : (Int × Int)) (y14 : Int) : SL := ⟨[(13, (.val T2 (icv .i64 o27.1))), (72, (.val T4 (igt o27.2 (isub .u64 y14 o27.2))))], []⟩
noncomputable def fix_MulDiv.c4q (o : Int) : SL := (fun v => ⟨[(13, (.val T2 v))], []⟩) o
noncomputable def fix_MulDiv.c4x (o : Int) : Ex := (fun _ => .normal) o
noncomputable def fix_MulDiv.c4n (o : Int) : Nat := (fun _ => 0) o
theorem fix_MulDiv.c4_ok (k : Nat) (o27 : (Int × Int)) (y14 : Int) : Owp (fix_MulDiv.c4 k o27 y14) fun o => Triple PR (fix_MulDiv.cx k) (sub fix_MulDiv.code [1, 1, 1, 1, 1, 1, 1, 1, 1, 1, 1, 1, 1, 0, 1]) 0 (fix_MulDiv.c4p o27 y14) (fix_MulDiv.c4x o) (fix_MulDiv.c4n o) (fix_MulDiv.c4q o) := by
  unfold fix_MulDiv.c4; exact
   Owp.bif (fun e30 =>
   Owp.some (triple_way (fix_MulDiv.cok k) hmix [.dec true] [] [] (via (finP (And.intro trivial e30) .normal [] (fix_MulDiv.c4q (iadd .i64 (icv .i64 o27.1) (1 : Int)))) (by kernel_rfl)))) (fun e30 =>
   Owp.some (triple_way (fix_MulDiv.cok k) hmix [.dec false] [] [] (via (finP (And.intro trivial e30) .normal [] (fix_MulDiv.c4q (icv .i64 o27.1))) (by kernel_rfl))))
noncomputable def fix_MulDiv.c5p (o27 : (Int × Int)) (y14 : Int) : SL := ⟨[(13, (.val T2 (icv .i64 o27.1))), (63, (.val T4 (ige o27.2 (isub .u64 y14 o27.2))))], []⟩
noncomputable def fix_MulDiv.c5q (o : Int) : SL := (fun v => ⟨[(13, (.val T2 v))], []⟩) o
noncomputable def fix_MulDiv.c5x (o : Int) : Ex := (fun _ => .normal) o
noncomputable def fix_MulDiv.c5n (o : Int) : Nat := (fun _ => 0) o
theorem fix_MulDiv.c5_ok (k : Nat) (o27 : (Int × Int)) (y14 : Int) : Owp (fix_MulDiv.c5 k o27 y14) fun o => Triple PR (fix_MulDiv.cx k) (sub fix_MulDiv.code [1, 1, 1, 1, 1, 1, 1, 1, 1, 1, 1, 1, 0, 1, 0, 0, 1]) 0 (fix_MulDiv.c5p o27 y14) (fix_MulDiv.c5x o) (fix_MulDiv.c5n o) (fix_MulDiv.c5q o) := by
  unfold fix_MulDiv.c5; exact
   Owp.bif (fun e35 =>
   Owp.some (triple_way (fix_MulDiv.cok k) hmix [.dec true] [] [] (via (finP (And.intro trivial e35) .normal [] (fix_MulDiv.c5q (iadd .i64 (icv .i64 o27.1) (1 : Int)))) (by kernel_rfl)))) (fun e35 =>
   Owp.some (triple_way (fix_MulDiv.cok k) hmix [.dec false] [] [] (via (finP (And.intro trivial e35) .normal [] (fix_MulDiv.c5q (icv .i64 o27.1))) (by kernel_rfl))))
theorem fix_MulDiv.way (k : Nat) (a0 : Int) (a1 : Int) (a2 : Int) : Owp (fix_MulDiv k a0 a1 a2) fun y => ∃ answers cmds, exec PR (fix_MulDiv.cx k) fix_MulDiv.code 0 (entry (.pair T2 T27) (a0, a1, a2, ())).st answers (Ret (fix_MulDiv.cx k) Try.f154 cmds (.one (.dp T2)) y) := by
  unfold fix_MulDiv; exact
   Owp.bnd fun y1 e2 =>
   Owp.bnd fun y3 e4 =>
   Owp.bnd fun y5 e6 =>
   Owp.bif (fun e7 =>
   Owp.some (⟨[.res (.one (.dp T2)) y1, .res (.one (.dp T2)) y3, .res (.one (.dp T2)) y5, .dec true], [], via (retP (And.intro (And.intro (And.intro (And.intro trivial e2) e4) e6) e7) (.one (.dp T2)) ((0 : Int) : Int)) (by kernel_rfl)⟩)) (fun e7 =>
   Owp.bnd fun o9 e10 =>
    Owp.bnd fun o12 e13 =>
    Owp.bnd fun y14 e15 =>
    Owp.bnd fun y16 e17 =>
    Owp.bnd fun y18 e19 =>
    Owp.bnd fun y20 e21 =>
    Owp.bif (fun e22 =>
    Owp.bif (fun e23 =>
     Owp.some (⟨[.res (.one (.dp T2)) y1, .res (.one (.dp T2)) y3, .res (.one (.dp T2)) y5, .dec false, .cut ⟨[], [], (fix_MulDiv.c1p y1 y3 y5), 0, .normal, (fix_MulDiv.c1q y1 y3 y5 o9), 0⟩, .cut ⟨[], [], (fix_MulDiv.c2p o9 y1 y3 y5), 0, .normal, (fix_MulDiv.c2q y1 y3 y5 o12), 0⟩, .res (.one (.dp T12)) y14, .res (.one (.dp T12)) y16, .res (.one (.dp T12)) y18, .res (.more (.dp T12) (.one (.dp T12))) y20, .dec true, .dec true], [], via (cutP (And.intro (And.intro (And.intro (And.intro trivial e2) e4) e6) e7) [] (fix_MulDiv.c1p y1 y3 y5) (((fix_MulDiv.c1_ok k y1 y3 y5).ap e10)) (cutP trivial [] (fix_MulDiv.c2p o9 y1 y3 y5) (((fix_MulDiv.c2_ok k o9 y1 y3 y5).ap e13)) (retP (And.intro (And.intro (And.intro (And.intro (And.intro (And.intro trivial e15) e17) e19) e21) e22) e23) (.one (.dp T2)) ((-1099511627776 : Int) : Int)))) (by kernel_rfl)⟩)) (fun e23 =>
     Owp.some (⟨[.res (.one (.dp T2)) y1, .res (.one (.dp T2)) y3, .res (.one (.dp T2)) y5, .dec false, .cut ⟨[], [], (fix_MulDiv.c1p y1 y3 y5), 0, .normal, (fix_MulDiv.c1q y1 y3 y5 o9), 0⟩, .cut ⟨[], [], (fix_MulDiv.c2p o9 y1 y3 y5), 0, .normal, (fix_MulDiv.c2q y1 y3 y5 o12), 0⟩, .res (.one (.dp T12)) y14, .res (.one (.dp T12)) y16, .res (.one (.dp T12)) y18, .res (.more (.dp T12) (.one (.dp T12))) y20, .dec true, .dec false], [], via (cutP (And.intro (And.intro (And.intro (And.intro trivial e2) e4) e6) e7) [] (fix_MulDiv.c1p y1 y3 y5) (((fix_MulDiv.c1_ok k y1 y3 y5).ap e10)) (cutP trivial [] (fix_MulDiv.c2p o9 y1 y3 y5) (((fix_MulDiv.c2_ok k o9 y1 y3 y5).ap e13)) (retP (And.intro (And.intro (And.intro (And.intro (And.intro (And.intro trivial e15) e17) e19) e21) e22) e23) (.one (.dp T2)) ((1099511627776 : Int) : Int)))) (by kernel_rfl)⟩))) (fun e22 =>
    Owp.bnd fun y24 e25 =>
     Owp.bnd fun o27 e28 =>
     Owp.bif (fun e29 =>
     Owp.bnd fun o31 e32 =>
      Owp.bnd fun y33 e34 =>
      Owp.some (⟨[.res (.one (.dp T2)) y1, .res (.one (.dp T2)) y3, .res (.one (.dp T2)) y5, .dec false, .cut ⟨[], [], (fix_MulDiv.c1p y1 y3 y5), 0, .normal, (fix_MulDiv.c1q y1 y3 y5 o9), 0⟩, .cut ⟨[], [], (fix_MulDiv.c2p o9 y1 y3 y5), 0, .normal, (fix_MulDiv.c2q y1 y3 y5 o12), 0⟩, .res (.one (.dp T12)) y14, .res (.one (.dp T12)) y16, .res (.one (.dp T12)) y18, .res (.more (.dp T12) (.one (.dp T12))) y20, .dec false, .res (.more (.dp T12) (.one (.dp T12))) y24, .cut ⟨[], [], (fix_MulDiv.c3p o12 y14 y24), 0, .normal, (fix_MulDiv.c3q o12 y14 o27), 0⟩, .dec false, .cut ⟨[], [], (fix_MulDiv.c4p o27 y14), 0, .normal, (fix_MulDiv.c4q o31), 0⟩, .res (.one (.dp T2)) y33], [], via (cutP (And.intro (And.intro (And.intro (And.intro trivial e2) e4) e6) e7) [] (fix_MulDiv.c1p y1 y3 y5) (((fix_MulDiv.c1_ok k y1 y3 y5).ap e10)) (cutP trivial [] (fix_MulDiv.c2p o9 y1 y3 y5) (((fix_MulDiv.c2_ok k o9 y1 y3 y5).ap e13)) (cutP (And.intro (And.intro (And.intro (And.intro (And.intro (And.intro trivial e15) e17) e19) e21) e22) e25) [] (fix_MulDiv.c3p o12 y14 y24) (((fix_MulDiv.c3_ok k o12 y14 y24).ap e28)) (cutP (And.intro trivial (congrArg not e29)) [] (fix_MulDiv.c4p o27 y14) (((fix_MulDiv.c4_ok k o27 y14).ap e32)) (retP (And.intro trivial e34) (.one (.dp T2)) (y33 : Int)))))) (by kernel_rfl)⟩)) (fun e29 =>
     Owp.bnd fun o36 e37 =>
      Owp.bnd fun y38 e39 =>
      Owp.some (⟨[.res (.one (.dp T2)) y1, .res (.one (.dp T2)) y3, .res (.one (.dp T2)) y5, .dec false, .cut ⟨[], [], (fix_MulDiv.c1p y1 y3 y5), 0, .normal, (fix_MulDiv.c1q y1 y3 y5 o9), 0⟩, .cut ⟨[], [], (fix_MulDiv.c2p o9 y1 y3 y5), 0, .normal, (fix_MulDiv.c2q y1 y3 y5 o12), 0⟩, .res (.one (.dp T12)) y14, .res (.one (.dp T12)) y16, .res (.one (.dp T12)) y18, .res (.more (.dp T12) (.one (.dp T12))) y20, .dec false, .res (.more (.dp T12) (.one (.dp T12))) y24, .cut ⟨[], [], (fix_MulDiv.c3p o12 y14 y24), 0, .normal, (fix_MulDiv.c3q o12 y14 o27), 0⟩, .dec true, .cut ⟨[], [], (fix_MulDiv.c5p o27 y14), 0, .normal, (fix_MulDiv.c5q o36), 0⟩, .res (.one (.dp T2)) y38], [], via (cutP (And.intro (And.intro (And.intro (And.intro trivial e2) e4) e6) e7) [] (fix_MulDiv.c1p y1 y3 y5) (((fix_MulDiv.c1_ok k y1 y3 y5).ap e10)) (cutP trivial [] (fix_MulDiv.c2p o9 y1 y3 y5) (((fix_MulDiv.c2_ok k o9 y1 y3 y5).ap e13)) (cutP (And.intro (And.intro (And.intro (And.intro (And.intro (And.intro trivial e15) e17) e19) e21) e22) e25) [] (fix_MulDiv.c3p o12 y14 y24) (((fix_MulDiv.c3_ok k o12 y14 y24).ap e28)) (cutP (And.intro trivial (congrArg not e29)) [] (fix_MulDiv.c5p o27 y14) (((fix_MulDiv.c5_ok k o27 y14).ap e37)) (retP (And.intro trivial e39) (.one (.dp T2)) (y38 : Int)))))) (by kernel_rfl)⟩))))
theorem fix_MulDiv.ok (k : Nat) : FnOk PR 154 (fix_MulDiv.sp k) :=
  fn_ok (fix_MulDiv.cok k) hmix Try.func154 (code := fix_MulDiv.code) (by kernel_rfl) (by kernel_rfl) (by kernel_rfl) rfl rfl (by kernel_rfl) (by kernel_rfl) (by kernel_rfl) (fun x => Nat.le_of_ble_eq_true (by kernel_rfl)) fun x y hy => (fix_MulDiv.way k x.1 x.2.1 x.2.2.1).ap hy

/-! tourney/fix.Mul -/
noncomputable def fix_Mul.code : Code := Func.cd Try.f105
def fix_Mul (k : Nat) (a0 : Int) (a1 : Int) : Option Int :=
  bnd (fix_MulDiv k a0 a1 65536) fun y1 =>
  some y1
noncomputable def fix_Mul.sp (k : Nat) : Go.Sx.Spec := ⟨T27, (.one (.dp T2)), fun x => fix_Mul k x.1 x.2.1, false⟩
noncomputable def fix_Mul.cx (k : Nat) : Go.Sx.Ctx := ⟨tys, [(154, fix_MulDiv.sp k)], eqs, 8, 0, [], false⟩
theorem fix_Mul.cok (k : Nat) : CtxOk PR (fix_Mul.cx k) := ctx_ok tysOk eqsOk (FnsOk.cons (fix_MulDiv.ok k) FnsOk.nil) HsOk.nil
theorem fix_Mul.way (k : Nat) (a0 : Int) (a1 : Int) : Owp (fix_Mul k a0 a1) fun y => ∃ answers cmds, exec PR (fix_Mul.cx k) fix_Mul.code 0 (entry T27 (a0, a1, ())).st answers (Ret (fix_Mul.cx k) Try.f105 cmds (.one (.dp T2)) y) := by
  unfold fix_Mul; exact
   Owp.bnd fun y1 e2 =>
   Owp.some (⟨[.res (.one (.dp T2)) y1], [], via (retP (And.intro trivial e2) (.one (.dp T2)) (y1 : Int)) (by kernel_rfl)⟩)
theorem fix_Mul.ok (k : Nat) : FnOk PR 105 (fix_Mul.sp k) :=
  fn_ok (fix_Mul.cok k) hmix Try.func105 (code := fix_Mul.code) (by kernel_rfl) (by kernel_rfl) (by kernel_rfl) rfl rfl (by kernel_rfl) (by kernel_rfl) (by kernel_rfl) (fun x => Nat.le_of_ble_eq_true (by kernel_rfl)) fun x y hy => (fix_Mul.way k x.1 x.2.1).ap hy

/-! tourney/fix.Sub -/
noncomputable def fix_Sub.code : Code := Func.cd Try.f127
def fix_Sub (k : Nat) (a0 : Int) (a1 : Int) : Option Int :=
  bnd (fix_Clamp k a0) fun y1 =>
  bnd (fix_Clamp k a1) fun y3 =>
  bnd (fix_Clamp k (isub .i64 y1 y3)) fun y5 =>
  some y5
noncomputable def fix_Sub.sp (k : Nat) : Go.Sx.Spec := ⟨T27, (.one (.dp T2)), fun x => fix_Sub k x.1 x.2.1, false⟩
noncomputable def fix_Sub.cx (k : Nat) : Go.Sx.Ctx := ⟨tys, [(125, fix_Clamp.sp k)], eqs, 11, 0, [], false⟩
theorem fix_Sub.cok (k : Nat) : CtxOk PR (fix_Sub.cx k) := ctx_ok tysOk eqsOk (FnsOk.cons (fix_Clamp.ok k) FnsOk.nil) HsOk.nil
theorem fix_Sub.way (k : Nat) (a0 : Int) (a1 : Int) : Owp (fix_Sub k a0 a1) fun y => ∃ answers cmds, exec PR (fix_Sub.cx k) fix_Sub.code 0 (entry T27 (a0, a1, ())).st answers (Ret (fix_Sub.cx k) Try.f127 cmds (.one (.dp T2)) y) := by
  unfold fix_Sub; exact
   Owp.bnd fun y1 e2 =>
   Owp.bnd fun y3 e4 =>
   Owp.bnd fun y5 e6 =>
   Owp.some (⟨[.res (.one (.dp T2)) y1, .res (.one (.dp T2)) y3, .res (.one (.dp T2)) y5], [], via (retP (And.intro (And.intro (And.intro trivial e2) e4) e6) (.one (.dp T2)) (y5 : Int)) (by kernel_rfl)⟩)
theorem fix_Sub.ok (k : Nat) : FnOk PR 127 (fix_Sub.sp k) :=
  fn_ok (fix_Sub.cok k) hmix Try.func127 (code := fix_Sub.code) (by kernel_rfl) (by kernel_rfl) (by kernel_rfl) rfl rfl (by kernel_rfl) (by kernel_rfl) (by kernel_rfl) (fun x => Nat.le_of_ble_eq_true (by kernel_rfl)) fun x y hy => (fix_Sub.way k x.1 x.2.1).ap hy

/-! tourney/fix.Root -/
noncomputable def fix_Root.code : Code := Func.cd Try.f172
def fix_Root.c2 (k : Nat) (a0 : Int) (a1 : Int) (y4 : (Int × Int)) : Option (Bool) :=
  bif' (ilt y4.1 a0)
  (some true)
  (bif' (ieq y4.1 a0)
   (some (ile y4.2 a1))
   (some false))
def fix_Root.c3 (k : Nat) (o8 : Bool) (v1 : Int) (v2 : Int) : Option (Int) :=
  bif' o8
  (some (ibits .or .u64 v1 v2))
  (some v1)
def fix_Root.c1 (k : Nat) (a0 : Int) (a1 : Int) : Nat → Int → Int → Option (Int)
  | 0, _, _ => none
  | n + 1, v1, v2 =>
   bif' (igt v2 0)
   (bnd (bits_Mul64 k (ibits .or .u64 v1 v2) (ibits .or .u64 v1 v2)) fun y4 =>
    bnd (fix_Root.c2 k a0 a1 y4) fun o8 =>
    bnd (fix_Root.c3 k o8 v1 v2) fun o11 =>
    fix_Root.c1 k a0 a1 n o11 (ishr .u64 v2 1))
   (some v1)
def fix_Root (k : Nat) (a0 : Int) (a1 : Int) : Option Int :=
  bnd (fix_Root.c1 k a0 a1 k 0 9223372036854775808) fun o13 =>
  some o13
noncomputable def fix_Root.sp (k : Nat) : Go.Sx.Spec := ⟨(.pair T12 (.pair T12 .unit)), (.one (.dp T12)), fun x => fix_Root k x.1 x.2.1, false⟩
noncomputable def fix_Root.cx (k : Nat) : Go.Sx.Ctx := ⟨tys, [(169, bits_Mul64.sp k)], eqs, 38, 0, [], false⟩
theorem fix_Root.cok (k : Nat) : CtxOk PR (fix_Root.cx k) := ctx_ok tysOk eqsOk (FnsOk.cons (bits_Mul64.ok k) FnsOk.nil) HsOk.nil
noncomputable def fix_Root.c2p (a0 : Int) (a1 : Int) (v1 : Int) (v2 : Int) (y4 : (Int × Int)) : SL := ⟨[(0, (.val T12 a0)), (1, (.val T12 a1)), (5, (.val T12 v1)), (6, (.val T12 v2)), (7, (.val T12 (ibits .or .u64 v1 v2))), (8, (.val T12 y4.1)), (9, (.val T12 y4.2))], []⟩
noncomputable def fix_Root.c2q (a0 : Int) (a1 : Int) (v1 : Int) (v2 : Int) (o : Bool) : SL := (fun v => ⟨[(0, (.val T12 a0)), (1, (.val T12 a1)), (5, (.val T12 v1)), (6, (.val T12 v2)), (7, (.val T12 (ibits .or .u64 v1 v2))), (35, (.val T4 v))], []⟩) o
noncomputable def fix_Root.c2x (o : Bool) : Ex := (fun _ => .normal) o
noncomputable def fix_Root.c2n (o : Bool) : Nat := (fun _ => 0) o
theorem fix_Root.c2_ok (k : Nat) (a0 : Int) (a1 : Int) (v1 : Int) (v2 : Int) (y4 : (Int × Int)) : Owp (fix_Root.c2 k a0 a1 y4) fun o => Triple PR (fix_Root.cx k) (sub fix_Root.code [1, 1, 0, 1, 0, 0, 1, 0, 0, 1, 1, 0]) 0 (fix_Root.c2p a0 a1 v1 v2 y4) (fix_Root.c2x o) (fix_Root.c2n o) (fix_Root.c2q a0 a1 v1 v2 o) := by
  unfold fix_Root.c2; exact
   Owp.bif (fun e6 =>
   Owp.some (triple_way (fix_Root.cok k) hmix [.dec true, .dec true, .dec true, .dec true, .dec true, .dec true, .dec true, .dec true, .dec true, .dec true] [] [] (via (finP (And.intro (And.intro (And.intro (And.intro (And.intro (And.intro trivial e6) e6) e6) e6) e6) e6) .normal [] (fix_Root.c2q a0 a1 v1 v2 true)) (by kernel_rfl)))) (fun e6 =>
   Owp.bif (fun e7 =>
    Owp.some (triple_way (fix_Root.cok k) hmix [.dec false, .dec false, .dec false, .dec false, .dec true, .dec true, .dec true, .dec false, .dec true, .dec false] [] [] (via (finP (And.intro (And.intro (And.intro (And.intro (And.intro (And.intro (And.intro (And.intro (And.intro trivial e6) e6) e6) e6) e7) e7) e7) (And.intro e6 e7)) e6) .normal [] (fix_Root.c2q a0 a1 v1 v2 (ile y4.2 a1))) (by kernel_rfl)))) (fun e7 =>
    Owp.some (triple_way (fix_Root.cok k) hmix [.dec false, .dec false, .dec false, .dec false, .dec false, .dec false, .dec false, .dec false, .dec false, .dec false] [] [] (via (finP (And.intro (And.intro (And.intro (And.intro (And.intro (And.intro (And.intro (And.intro (And.intro trivial e6) e6) e6) e6) e7) e7) e7) (And.intro e6 e7)) e6) .normal [] (fix_Root.c2q a0 a1 v1 v2 false)) (by kernel_rfl)))))
noncomputable def fix_Root.c3p (a0 : Int) (a1 : Int) (o8 : Bool) (v1 : Int) (v2 : Int) : SL := ⟨[(0, (.val T12 a0)), (1, (.val T12 a1)), (5, (.val T12 v1)), (6, (.val T12 v2)), (7, (.val T12 (ibits .or .u64 v1 v2))), (35, (.val T4 o8))], []⟩
noncomputable def fix_Root.c3q (a0 : Int) (a1 : Int) (v2 : Int) (o : Int) : SL := (fun v => ⟨[(0, (.val T12 a0)), (1, (.val T12 a1)), (5, (.val T12 v)), (6, (.val T12 v2))], []⟩) o
noncomputable def fix_Root.c3x (o : Int) : Ex := (fun _ => .normal) o
noncomputable def fix_Root.c3n (o : Int) : Nat := (fun _ => 0) o
theorem fix_Root.c3_ok (k : Nat) (a0 : Int) (a1 : Int) (o8 : Bool) (v1 : Int) (v2 : Int) : Owp (fix_Root.c3 k o8 v1 v2) fun o => Triple PR (fix_Root.cx k) (sub fix_Root.code [1, 1, 0, 1, 0, 0, 1, 0, 0, 1, 1, 1]) 0 (fix_Root.c3p a0 a1 o8 v1 v2) (fix_Root.c3x o) (fix_Root.c3n o) (fix_Root.c3q a0 a1 v2 o) := by
  unfold fix_Root.c3; exact
   Owp.bif (fun e10 =>
   Owp.some (triple_way (fix_Root.cok k) hmix [.dec true] [] [] (via (finP (And.intro trivial e10) .normal [] (fix_Root.c3q a0 a1 v2 (ibits .or .u64 v1 v2))) (by kernel_rfl)))) (fun e10 =>
   Owp.some (triple_way (fix_Root.cok k) hmix [.dec false] [] [] (via (finP (And.intro trivial e10) .normal [] (fix_Root.c3q a0 a1 v2 v1)) (by kernel_rfl))))
noncomputable def fix_Root.c1p (a0 : Int) (a1 : Int) (v1 : Int) (v2 : Int) : SL := ⟨[(0, (.val T12 a0)), (1, (.val T12 a1)), (5, (.val T12 v1)), (6, (.val T12 v2))], []⟩
noncomputable def fix_Root.c1q (o : Int) : SL := (fun v => ⟨[(5, (.val T12 v))], []⟩) o
noncomputable def fix_Root.c1x (o : Int) : Ex := (fun _ => (.exit 0)) o
noncomputable def fix_Root.c1n (o : Int) : Nat := (fun _ => 0) o
theorem fix_Root.c1_ok (k : Nat) (a0 : Int) (a1 : Int) : ∀ (n : Nat) (v1 : Int) (v2 : Int), Owp (fix_Root.c1 k a0 a1 n v1 v2) fun o => LTriple PR (fix_Root.cx k) (sub fix_Root.code [1, 1, 0, 1, 0, 0]) 0 (fix_Root.c1p a0 a1 v1 v2) (fix_Root.c1x o) (fix_Root.c1n o) (fix_Root.c1q o)
  | 0, _, _ => fun _ h => nomatch h
  | n + 1, v1, v2 => Owp.of (fix_Root.c1.eq_2 ..) (
   Owp.bif (fun e3 =>
   Owp.bnd fun y4 e5 =>
    Owp.bnd fun o8 e9 =>
    Owp.bnd fun o11 e12 =>
    fun y hy => loop_back (fix_Root.cok k) hmix 0 (fix_Root.c1p a0 a1 o11 (ishr .u64 v2 (1 : Int))) [.dec true, .res (.more (.dp T12) (.one (.dp T12))) y4, .cutR 7 ⟨[], [], (fix_Root.c2p a0 a1 v1 v2 y4), 0, .normal, (fix_Root.c2q a0 a1 v1 v2 o8), 0⟩, .cut ⟨[], [], (fix_Root.c3p a0 a1 o8 v1 v2), 0, .normal, (fix_Root.c3q a0 a1 v2 o11), 0⟩] [] [] (via (cutP (And.intro (And.intro trivial e3) e5) [] (fix_Root.c2p a0 a1 v1 v2 y4) (((fix_Root.c2_ok k a0 a1 v1 v2 y4).ap e9)) (cutP trivial [] (fix_Root.c3p a0 a1 o8 v1 v2) (((fix_Root.c3_ok k a0 a1 o8 v1 v2).ap e12)) (finP (And.intro trivial (by decide : ng (1 : Int))) .normal [] (fix_Root.c1p a0 a1 o11 (ishr .u64 v2 (1 : Int)))))) (by kernel_rfl)) ((fix_Root.c1_ok k a0 a1 n o11 (ishr .u64 v2 (1 : Int))).ap hy)) (fun e3 =>
   Owp.some (loop_exit (fix_Root.cok k) hmix [.dec false] [] [] (exne 0) (via (finP (And.intro trivial e3) (.exit 0) [] (fix_Root.c1q v1)) (by kernel_rfl)))))
theorem fix_Root.way (k : Nat) (a0 : Int) (a1 : Int) : Owp (fix_Root k a0 a1) fun y => ∃ answers cmds, exec PR (fix_Root.cx k) fix_Root.code 0 (entry (.pair T12 (.pair T12 .unit)) (a0, a1, ())).st answers (Ret (fix_Root.cx k) Try.f172 cmds (.one (.dp T12)) y) := by
  unfold fix_Root; exact
   Owp.bnd fun o13 e14 =>
   Owp.some (⟨[.cut ⟨[], [], (fix_Root.c1p a0 a1 (0 : Int) (9223372036854775808 : Int)), 0, (.exit 0), (fix_Root.c1q o13), 0⟩], [], via (cutP trivial [] (fix_Root.c1p a0 a1 (0 : Int) (9223372036854775808 : Int)) (((fix_Root.c1_ok k a0 a1 k (0 : Int) (9223372036854775808 : Int)).ap e14).triple) (retP trivial (.one (.dp T12)) (o13 : Int))) (by kernel_rfl)⟩)
theorem fix_Root.ok (k : Nat) : FnOk PR 172 (fix_Root.sp k) :=
  fn_ok (fix_Root.cok k) hmix Try.func172 (code := fix_Root.code) (by kernel_rfl) (by kernel_rfl) (by kernel_rfl) rfl rfl (by kernel_rfl) (by kernel_rfl) (by kernel_rfl) (fun x => Nat.le_of_ble_eq_true (by kernel_rfl)) fun x y hy => (fix_Root.way k x.1 x.2.1).ap hy

/-! tourney/fix.Div -/
noncomputable def fix_Div.code : Code := Func.cd Try.f218
def fix_Div (k : Nat) (a0 : Int) (a1 : Int) : Option (Int × Int) :=
  bif' (ieq a1 0)
  (some (0, 17))
  (bnd (fix_MulDiv k a0 65536 a1) fun y2 =>
   some (y2, 0))
noncomputable def fix_Div.sp (k : Nat) : Go.Sx.Spec := ⟨T27, (.more (.dp T2) (.one (.dp T2))), fun x => fix_Div k x.1 x.2.1, false⟩
noncomputable def fix_Div.cx (k : Nat) : Go.Sx.Ctx := ⟨tys, [(154, fix_MulDiv.sp k)], eqs, 11, 0, [], false⟩
theorem fix_Div.cok (k : Nat) : CtxOk PR (fix_Div.cx k) := ctx_ok tysOk eqsOk (FnsOk.cons (fix_MulDiv.ok k) FnsOk.nil) HsOk.nil
theorem fix_Div.way (k : Nat) (a0 : Int) (a1 : Int) : Owp (fix_Div k a0 a1) fun y => ∃ answers cmds, exec PR (fix_Div.cx k) fix_Div.code 0 (entry T27 (a0, a1, ())).st answers (Ret (fix_Div.cx k) Try.f218 cmds (.more (.dp T2) (.one (.dp T2))) y) := by
  unfold fix_Div; exact
   Owp.bif (fun e1 =>
   Owp.some (⟨[.dec true], [], via (retP (And.intro trivial e1) (.more (.dp T2) (.one (.dp T2))) (((0 : Int), (17 : Int)) : (Int × Int))) (by kernel_rfl)⟩)) (fun e1 =>
   Owp.bnd fun y2 e3 =>
    Owp.some (⟨[.dec false, .res (.one (.dp T2)) y2], [], via (retP (And.intro (And.intro trivial e1) e3) (.more (.dp T2) (.one (.dp T2))) ((y2, (0 : Int)) : (Int × Int))) (by kernel_rfl)⟩))
theorem fix_Div.ok (k : Nat) : FnOk PR 218 (fix_Div.sp k) :=
  fn_ok (fix_Div.cok k) hmix Try.func218 (code := fix_Div.code) (by kernel_rfl) (by kernel_rfl) (by kernel_rfl) rfl rfl (by kernel_rfl) (by kernel_rfl) (by kernel_rfl) (fun x => Nat.le_of_ble_eq_true (by kernel_rfl)) fun x y hy => (fix_Div.way k x.1 x.2.1).ap hy

/-! tourney/vec.Add -/
noncomputable def vec_Add.code : Code := Func.cd Try.f26
def vec_Add (k : Nat) (a0 : V27) (a1 : V27) : Option V27 :=
  bnd (fix_Add k a0.1 a1.1) fun y1 =>
  bnd (fix_Add k a0.2.1 a1.2.1) fun y3 =>
  some (y1, y3, ())
noncomputable def vec_Add.sp (k : Nat) : Go.Sx.Spec := ⟨T35, (.one (.dp T27)), fun x => vec_Add k x.1 x.2.1, false⟩
noncomputable def vec_Add.cx (k : Nat) : Go.Sx.Ctx := ⟨tys, [(104, fix_Add.sp k)], eqs, 16, 0, [], false⟩
theorem vec_Add.cok (k : Nat) : CtxOk PR (vec_Add.cx k) := ctx_ok tysOk eqsOk (FnsOk.cons (fix_Add.ok k) FnsOk.nil) HsOk.nil
theorem vec_Add.way (k : Nat) (a0 : V27) (a1 : V27) : Owp (vec_Add k a0 a1) fun y => ∃ answers cmds, exec PR (vec_Add.cx k) vec_Add.code 0 (entry T35 (a0, a1, ())).st answers (Ret (vec_Add.cx k) Try.f26 cmds (.one (.dp T27)) y) := by
  unfold vec_Add; exact
   Owp.bnd fun y1 e2 =>
   Owp.bnd fun y3 e4 =>
   Owp.some (⟨[.res (.one (.dp T2)) y1, .res (.one (.dp T2)) y3], [], via (retP (And.intro (And.intro trivial e2) e4) (.one (.dp T27)) ((y1, y3, ()) : V27)) (by kernel_rfl)⟩)
theorem vec_Add.ok (k : Nat) : FnOk PR 26 (vec_Add.sp k) :=
  fn_ok (vec_Add.cok k) hmix Try.func26 (code := vec_Add.code) (by kernel_rfl) (by kernel_rfl) (by kernel_rfl) rfl rfl (by kernel_rfl) (by kernel_rfl) (by kernel_rfl) (fun x => Nat.le_of_ble_eq_true (by kernel_rfl)) fun x y hy => (vec_Add.way k x.1 x.2.1).ap hy

/-! tourney/vec.Scale -/
noncomputable def vec_Scale.code : Code := Func.cd Try.f27
def vec_Scale (k : Nat) (a0 : V27) (a1 : Int) : Option V27 :=
  bnd (fix_Mul k a0.1 a1) fun y1 =>
  bnd (fix_Mul k a0.2.1 a1) fun y3 =>
  some (y1, y3, ())
noncomputable def vec_Scale.sp (k : Nat) : Go.Sx.Spec := ⟨(.pair T27 (.pair T2 .unit)), (.one (.dp T27)), fun x => vec_Scale k x.1 x.2.1, false⟩
noncomputable def vec_Scale.cx (k : Nat) : Go.Sx.Ctx := ⟨tys, [(105, fix_Mul.sp k)], eqs, 14, 0, [], false⟩
theorem vec_Scale.cok (k : Nat) : CtxOk PR (vec_Scale.cx k) := ctx_ok tysOk eqsOk (FnsOk.cons (fix_Mul.ok k) FnsOk.nil) HsOk.nil
theorem vec_Scale.way (k : Nat) (a0 : V27) (a1 : Int) : Owp (vec_Scale k a0 a1) fun y => ∃ answers cmds, exec PR (vec_Scale.cx k) vec_Scale.code 0 (entry (.pair T27 (.pair T2 .unit)) (a0, a1, ())).st answers (Ret (vec_Scale.cx k) Try.f27 cmds (.one (.dp T27)) y) := by
  unfold vec_Scale; exact
   Owp.bnd fun y1 e2 =>
   Owp.bnd fun y3 e4 =>
   Owp.some (⟨[.res (.one (.dp T2)) y1, .res (.one (.dp T2)) y3], [], via (retP (And.intro (And.intro trivial e2) e4) (.one (.dp T27)) ((y1, y3, ()) : V27)) (by kernel_rfl)⟩)
theorem vec_Scale.ok (k : Nat) : FnOk PR 27 (vec_Scale.sp k) :=
  fn_ok (vec_Scale.cok k) hmix Try.func27 (code := vec_Scale.code) (by kernel_rfl) (by kernel_rfl) (by kernel_rfl) rfl rfl (by kernel_rfl) (by kernel_rfl) (by kernel_rfl) (fun x => Nat.le_of_ble_eq_true (by kernel_rfl)) fun x y hy => (vec_Scale.way k x.1 x.2.1).ap hy

/-! tourney/vec.mag -/
noncomputable def vec_mag.code : Code := Func.cd Try.f170
def vec_mag (k : Nat) (a0 : Int) : Option Int :=
  some (icv .u64 (imax a0 (ineg .i64 a0)))
noncomputable def vec_mag.sp (k : Nat) : Go.Sx.Spec := ⟨(.pair T2 .unit), (.one (.dp T12)), fun x => vec_mag k x.1, false⟩
noncomputable def vec_mag.cx (k : Nat) : Go.Sx.Ctx := ⟨tys, [], eqs, 8, 0, [], false⟩
theorem vec_mag.cok (k : Nat) : CtxOk PR (vec_mag.cx k) := ctx_ok tysOk eqsOk FnsOk.nil HsOk.nil
theorem vec_mag.way (k : Nat) (a0 : Int) : Owp (vec_mag k a0) fun y => ∃ answers cmds, exec PR (vec_mag.cx k) vec_mag.code 0 (entry (.pair T2 .unit) (a0, ())).st answers (Ret (vec_mag.cx k) Try.f170 cmds (.one (.dp T12)) y) := by
  unfold vec_mag; exact
   Owp.some (⟨[], [], via (retP trivial (.one (.dp T12)) ((icv .u64 (imax a0 (ineg .i64 a0))) : Int)) (by kernel_rfl)⟩)
theorem vec_mag.ok (k : Nat) : FnOk PR 170 (vec_mag.sp k) :=
  fn_ok (vec_mag.cok k) hmix Try.func170 (code := vec_mag.code) (by kernel_rfl) (by kernel_rfl) (by kernel_rfl) rfl rfl (by kernel_rfl) (by kernel_rfl) (by kernel_rfl) (fun x => Nat.le_of_ble_eq_true (by kernel_rfl)) fun x y hy => (vec_mag.way k x.1).ap hy

/-! tourney/vec.length -/
noncomputable def vec_length.code : Code := Func.cd Try.f126
def vec_length (k : Nat) (a0 : Int) (a1 : Int) : Option Int :=
  bnd (vec_mag k a0) fun y1 =>
  bnd (vec_mag k a0) fun y3 =>
  bnd (bits_Mul64 k y1 y3) fun y5 =>
  bnd (vec_mag k a1) fun y7 =>
  bnd (vec_mag k a1) fun y9 =>
  bnd (bits_Mul64 k y7 y9) fun y11 =>
  bnd (bits_Add64 k y5.2 y11.2 0) fun y13 =>
  bnd (bits_Add64 k y5.1 y11.1 y13.2) fun y15 =>
  bnd (fix_Root k y15.1 y13.1) fun y17 =>
  some (icv .i64 y17)
noncomputable def vec_length.sp (k : Nat) : Go.Sx.Spec := ⟨T27, (.one (.dp T2)), fun x => vec_length k x.1 x.2.1, false⟩
noncomputable def vec_length.cx (k : Nat) : Go.Sx.Ctx := ⟨tys, [(170, vec_mag.sp k), (169, bits_Mul64.sp k), (171, bits_Add64.sp k), (172, fix_Root.sp k)], eqs, 46, 0, [], false⟩
theorem vec_length.cok (k : Nat) : CtxOk PR (vec_length.cx k) := ctx_ok tysOk eqsOk (FnsOk.cons (vec_mag.ok k) (FnsOk.cons (bits_Mul64.ok k) (FnsOk.cons (bits_Add64.ok k) (FnsOk.cons (fix_Root.ok k) FnsOk.nil)))) HsOk.nil
theorem vec_length.way (k : Nat) (a0 : Int) (a1 : Int) : Owp (vec_length k a0 a1) fun y => ∃ answers cmds, exec PR (vec_length.cx k) vec_length.code 0 (entry T27 (a0, a1, ())).st answers (Ret (vec_length.cx k) Try.f126 cmds (.one (.dp T2)) y) := by
  unfold vec_length; exact
   Owp.bnd fun y1 e2 =>
   Owp.bnd fun y3 e4 =>
   Owp.bnd fun y5 e6 =>
   Owp.bnd fun y7 e8 =>
   Owp.bnd fun y9 e10 =>
   Owp.bnd fun y11 e12 =>
   Owp.bnd fun y13 e14 =>
   Owp.bnd fun y15 e16 =>
   Owp.bnd fun y17 e18 =>
   Owp.some (⟨[.res (.one (.dp T12)) y1, .res (.one (.dp T12)) y3, .res (.more (.dp T12) (.one (.dp T12))) y5, .res (.one (.dp T12)) y7, .res (.one (.dp T12)) y9, .res (.more (.dp T12) (.one (.dp T12))) y11, .res (.more (.dp T12) (.one (.dp T12))) y13, .res (.more (.dp T12) (.one (.dp T12))) y15, .res (.one (.dp T12)) y17], [], via (retP (And.intro (And.intro (And.intro (And.intro (And.intro (And.intro (And.intro (And.intro (And.intro trivial e2) e4) e6) e8) e10) e12) e14) e16) e18) (.one (.dp T2)) ((icv .i64 y17) : Int)) (by kernel_rfl)⟩)
theorem vec_length.ok (k : Nat) : FnOk PR 126 (vec_length.sp k) :=
  fn_ok (vec_length.cok k) hmix Try.func126 (code := vec_length.code) (by kernel_rfl) (by kernel_rfl) (by kernel_rfl) rfl rfl (by kernel_rfl) (by kernel_rfl) (by kernel_rfl) (fun x => Nat.le_of_ble_eq_true (by kernel_rfl)) fun x y hy => (vec_length.way k x.1 x.2.1).ap hy

/-! tourney/vec.Len -/
noncomputable def vec_Len.code : Code := Func.cd Try.f54
def vec_Len (k : Nat) (a0 : V27) : Option Int :=
  bnd (fix_Clamp k a0.1) fun y1 =>
  bnd (fix_Clamp k a0.2.1) fun y3 =>
  bnd (vec_length k y1 y3) fun y5 =>
  bnd (fix_Clamp k y5) fun y7 =>
  some y7
noncomputable def vec_Len.sp (k : Nat) : Go.Sx.Spec := ⟨(.pair T27 .unit), (.one (.dp T2)), fun x => vec_Len k x.1, false⟩
noncomputable def vec_Len.cx (k : Nat) : Go.Sx.Ctx := ⟨tys, [(125, fix_Clamp.sp k), (126, vec_length.sp k)], eqs, 11, 0, [], false⟩
theorem vec_Len.cok (k : Nat) : CtxOk PR (vec_Len.cx k) := ctx_ok tysOk eqsOk (FnsOk.cons (fix_Clamp.ok k) (FnsOk.cons (vec_length.ok k) FnsOk.nil)) HsOk.nil
theorem vec_Len.way (k : Nat) (a0 : V27) : Owp (vec_Len k a0) fun y => ∃ answers cmds, exec PR (vec_Len.cx k) vec_Len.code 0 (entry (.pair T27 .unit) (a0, ())).st answers (Ret (vec_Len.cx k) Try.f54 cmds (.one (.dp T2)) y) := by
  unfold vec_Len; exact
   Owp.bnd fun y1 e2 =>
   Owp.bnd fun y3 e4 =>
   Owp.bnd fun y5 e6 =>
   Owp.bnd fun y7 e8 =>
   Owp.some (⟨[.res (.one (.dp T2)) y1, .res (.one (.dp T2)) y3, .res (.one (.dp T2)) y5, .res (.one (.dp T2)) y7], [], via (retP (And.intro (And.intro (And.intro (And.intro trivial e2) e4) e6) e8) (.one (.dp T2)) (y7 : Int)) (by kernel_rfl)⟩)
theorem vec_Len.ok (k : Nat) : FnOk PR 54 (vec_Len.sp k) :=
  fn_ok (vec_Len.cok k) hmix Try.func54 (code := vec_Len.code) (by kernel_rfl) (by kernel_rfl) (by kernel_rfl) rfl rfl (by kernel_rfl) (by kernel_rfl) (by kernel_rfl) (fun x => Nat.le_of_ble_eq_true (by kernel_rfl)) fun x y hy => (vec_Len.way k x.1).ap hy

/-! tourney/vec.Sub -/
noncomputable def vec_Sub.code : Code := Func.cd Try.f55
def vec_Sub (k : Nat) (a0 : V27) (a1 : V27) : Option V27 :=
  bnd (fix_Sub k a0.1 a1.1) fun y1 =>
  bnd (fix_Sub k a0.2.1 a1.2.1) fun y3 =>
  some (y1, y3, ())
noncomputable def vec_Sub.sp (k : Nat) : Go.Sx.Spec := ⟨T35, (.one (.dp T27)), fun x => vec_Sub k x.1 x.2.1, false⟩
noncomputable def vec_Sub.cx (k : Nat) : Go.Sx.Ctx := ⟨tys, [(127, fix_Sub.sp k)], eqs, 16, 0, [], false⟩
theorem vec_Sub.cok (k : Nat) : CtxOk PR (vec_Sub.cx k) := ctx_ok tysOk eqsOk (FnsOk.cons (fix_Sub.ok k) FnsOk.nil) HsOk.nil
theorem vec_Sub.way (k : Nat) (a0 : V27) (a1 : V27) : Owp (vec_Sub k a0 a1) fun y => ∃ answers cmds, exec PR (vec_Sub.cx k) vec_Sub.code 0 (entry T35 (a0, a1, ())).st answers (Ret (vec_Sub.cx k) Try.f55 cmds (.one (.dp T27)) y) := by
  unfold vec_Sub; exact
   Owp.bnd fun y1 e2 =>
   Owp.bnd fun y3 e4 =>
   Owp.some (⟨[.res (.one (.dp T2)) y1, .res (.one (.dp T2)) y3], [], via (retP (And.intro (And.intro trivial e2) e4) (.one (.dp T27)) ((y1, y3, ()) : V27)) (by kernel_rfl)⟩)
theorem vec_Sub.ok (k : Nat) : FnOk PR 55 (vec_Sub.sp k) :=
  fn_ok (vec_Sub.cok k) hmix Try.func55 (code := vec_Sub.code) (by kernel_rfl) (by kernel_rfl) (by kernel_rfl) rfl rfl (by kernel_rfl) (by kernel_rfl) (by kernel_rfl) (fun x => Nat.le_of_ble_eq_true (by kernel_rfl)) fun x y hy => (vec_Sub.way k x.1 x.2.1).ap hy

/-! tourney/trig.table -/
noncomputable def trig_table.code : Code := Func.cd Try.f244
def trig_table (k : Nat) : Option (List Int) :=
  some [0, 1608, 3216, 4821, 6424, 8022, 9616, 11204, 12785, 14359, 15924, 17479, 19024, 20557, 22078, 23586, 25080, 26558, 28020, 29466, 30893, 32303, 33692, 35062, 36410, 37736, 39040, 40320, 41576, 42806, 44011, 45190, 46341, 47464, 48559, 49624, 50660, 51665, 52639, 53581, 54491, 55368, 56212, 57022, 57798, 58538, 59244, 59914, 60547, 61145, 61705, 62228, 62714, 63162, 63572, 63944, 64277, 64571, 64827, 65043, 65220, 65358, 65457, 65516, 65536]
noncomputable def trig_table.sp (k : Nat) : Go.Sx.Spec := ⟨.unit, (.one (.dp (.arr 65 T2))), fun x => trig_table k, false⟩
noncomputable def trig_table.cx (k : Nat) : Go.Sx.Ctx := ⟨tys, [], eqs, 2, 0, [], false⟩
theorem trig_table.cok (k : Nat) : CtxOk PR (trig_table.cx k) := ctx_ok tysOk eqsOk FnsOk.nil HsOk.nil
theorem trig_table.way (k : Nat) : Owp (trig_table k) fun y => ∃ answers cmds, exec PR (trig_table.cx k) trig_table.code 0 (entry .unit ()).st answers (Ret (trig_table.cx k) Try.f244 cmds (.one (.dp (.arr 65 T2))) y) := by
  unfold trig_table; exact
   Owp.some (⟨[], [], via (retP trivial (.one (.dp (.arr 65 T2))) ([(0 : Int), (1608 : Int), (3216 : Int), (4821 : Int), (6424 : Int), (8022 : Int), (9616 : Int), (11204 : Int), (12785 : Int), (14359 : Int), (15924 : Int), (17479 : Int), (19024 : Int), (20557 : Int), (22078 : Int), (23586 : Int), (25080 : Int), (26558 : Int), (28020 : Int), (29466 : Int), (30893 : Int), (32303 : Int), (33692 : Int), (35062 : Int), (36410 : Int), (37736 : Int), (39040 : Int), (40320 : Int), (41576 : Int), (42806 : Int), (44011 : Int), (45190 : Int), (46341 : Int), (47464 : Int), (48559 : Int), (49624 : Int), (50660 : Int), (51665 : Int), (52639 : Int), (53581 : Int), (54491 : Int), (55368 : Int), (56212 : Int), (57022 : Int), (57798 : Int), (58538 : Int), (59244 : Int), (59914 : Int), (60547 : Int), (61145 : Int), (61705 : Int), (62228 : Int), (62714 : Int), (63162 : Int), (63572 : Int), (63944 : Int), (64277 : Int), (64571 : Int), (64827 : Int), (65043 : Int), (65220 : Int), (65358 : Int), (65457 : Int), (65516 : Int), (65536 : Int)] : (List Int))) (by kernel_rfl)⟩)
theorem trig_table.ok (k : Nat) : FnOk PR 244 (trig_table.sp k) :=
  fn_ok (trig_table.cok k) hmix Try.func244 (code := trig_table.code) (by kernel_rfl) (by kernel_rfl) (by kernel_rfl) rfl rfl (by kernel_rfl) (by kernel_rfl) (by kernel_rfl) (fun x => Nat.le_of_ble_eq_true (by kernel_rfl)) fun x y hy => (trig_table.way k).ap hy

/-! tourney/trig.first -/
noncomputable def trig_first.code : Code := Func.cd Try.f215
def trig_first (k : Nat) (a0 : Int) : Option Int :=
  bnd (trig_table k) fun y1 =>
  bif' (ieq (irem a0 256) 0)
  (req (inR (iquo .i64 a0 256) 65) <|
   some (el 0 y1 (iquo .i64 a0 256)))
  (req (inR (iquo .i64 a0 256) 65) <|
   req (inR (iadd .i64 (iquo .i64 a0 256) 1) 65) <|
   some (iadd .i64 (el 0 y1 (iquo .i64 a0 256)) (iquo .i64 (iadd .i64 (imul .i64 (isub .i64 (el 0 y1 (iadd .i64 (iquo .i64 a0 256) 1)) (el 0 y1 (iquo .i64 a0 256))) (irem a0 256)) 128) 256)))
noncomputable def trig_first.sp (k : Nat) : Go.Sx.Spec := ⟨(.pair T2 .unit), (.one (.dp T2)), fun x => trig_first k x.1, false⟩
noncomputable def trig_first.cx (k : Nat) : Go.Sx.Ctx := ⟨tys, [(244, trig_table.sp k)], eqs, 32, 0, [], false⟩
theorem trig_first.cok (k : Nat) : CtxOk PR (trig_first.cx k) := ctx_ok tysOk eqsOk (FnsOk.cons (trig_table.ok k) FnsOk.nil) HsOk.nil
theorem trig_first.way (k : Nat) (a0 : Int) : Owp (trig_first k a0) fun y => ∃ answers cmds, exec PR (trig_first.cx k) trig_first.code 0 (entry (.pair T2 .unit) (a0, ())).st answers (Ret (trig_first.cx k) Try.f215 cmds (.one (.dp T2)) y) := by
  unfold trig_first; exact
   Owp.bnd fun y1 e2 =>
   Owp.bif (fun e3 =>
   Owp.req fun h4 =>
    Owp.some (⟨[.res (.one (.dp (.arr 65 T2))) y1, .dec true], [], via (retP (And.intro (And.intro (And.intro (And.intro (And.intro (And.intro trivial e2) (by decide : nz (256 : Int))) (by decide : nz (256 : Int))) e3) h4) h4) (.one (.dp T2)) ((el (0 : Int) y1 (iquo .i64 a0 (256 : Int))) : Int)) (by kernel_rfl)⟩)) (fun e3 =>
   Owp.req fun h5 =>
    Owp.req fun h6 =>
    Owp.some (⟨[.res (.one (.dp (.arr 65 T2))) y1, .dec false], [], via (retP (And.intro (And.intro (And.intro (And.intro (And.intro (And.intro (And.intro (And.intro (And.intro (And.intro (And.intro trivial e2) (by decide : nz (256 : Int))) (by decide : nz (256 : Int))) e3) h5) h5) h6) h6) h5) h5) (by decide : nz (256 : Int))) (.one (.dp T2)) ((iadd .i64 (el (0 : Int) y1 (iquo .i64 a0 (256 : Int))) (iquo .i64 (iadd .i64 (imul .i64 (isub .i64 (el (0 : Int) y1 (iadd .i64 (iquo .i64 a0 (256 : Int)) (1 : Int))) (el (0 : Int) y1 (iquo .i64 a0 (256 : Int)))) (irem a0 (256 : Int))) (128 : Int)) (256 : Int))) : Int)) (by kernel_rfl)⟩))
theorem trig_first.ok (k : Nat) : FnOk PR 215 (trig_first.sp k) :=
  fn_ok (trig_first.cok k) hmix Try.func215 (code := trig_first.code) (by kernel_rfl) (by kernel_rfl) (by kernel_rfl) rfl rfl (by kernel_rfl) (by kernel_rfl) (by kernel_rfl) (fun x => Nat.le_of_ble_eq_true (by kernel_rfl)) fun x y hy => (trig_first.way k x.1).ap hy

/-! tourney/trig.Sin -/
noncomputable def trig_Sin.code : Code := Func.cd Try.f168
def trig_Sin (k : Nat) (a0 : Int) : Option Int :=
  bif' (ieq (iquo .i64 (ibits .and .i64 a0 65535) 16384) 0)
  (bnd (trig_first k (irem (ibits .and .i64 a0 65535) 16384)) fun y2 =>
   some y2)
  (bif' (ieq (iquo .i64 (ibits .and .i64 a0 65535) 16384) 1)
   (bnd (trig_first k (isub .i64 16384 (irem (ibits .and .i64 a0 65535) 16384))) fun y5 =>
    some y5)
   (bif' (ieq (iquo .i64 (ibits .and .i64 a0 65535) 16384) 2)
    (bnd (trig_first k (irem (ibits .and .i64 a0 65535) 16384)) fun y8 =>
     some (ineg .i64 y8))
    (bnd (trig_first k (isub .i64 16384 (irem (ibits .and .i64 a0 65535) 16384))) fun y10 =>
     some (ineg .i64 y10))))
noncomputable def trig_Sin.sp (k : Nat) : Go.Sx.Spec := ⟨(.pair T2 .unit), (.one (.dp T2)), fun x => trig_Sin k x.1, false⟩
noncomputable def trig_Sin.cx (k : Nat) : Go.Sx.Ctx := ⟨tys, [(215, trig_first.sp k)], eqs, 28, 0, [], false⟩
theorem trig_Sin.cok (k : Nat) : CtxOk PR (trig_Sin.cx k) := ctx_ok tysOk eqsOk (FnsOk.cons (trig_first.ok k) FnsOk.nil) HsOk.nil
theorem trig_Sin.way (k : Nat) (a0 : Int) : Owp (trig_Sin k a0) fun y => ∃ answers cmds, exec PR (trig_Sin.cx k) trig_Sin.code 0 (entry (.pair T2 .unit) (a0, ())).st answers (Ret (trig_Sin.cx k) Try.f168 cmds (.one (.dp T2)) y) := by
  unfold trig_Sin; exact
   Owp.bif (fun e1 =>
   Owp.bnd fun y2 e3 =>
    Owp.some (⟨[.dec true, .res (.one (.dp T2)) y2], [], via (retP (And.intro (And.intro (And.intro (And.intro trivial (by decide : nz (16384 : Int))) (by decide : nz (16384 : Int))) e1) e3) (.one (.dp T2)) (y2 : Int)) (by kernel_rfl)⟩)) (fun e1 =>
   Owp.bif (fun e4 =>
    Owp.bnd fun y5 e6 =>
     Owp.some (⟨[.dec false, .dec true, .res (.one (.dp T2)) y5], [], via (retP (And.intro (And.intro (And.intro (And.intro (And.intro trivial (by decide : nz (16384 : Int))) (by decide : nz (16384 : Int))) e1) e4) e6) (.one (.dp T2)) (y5 : Int)) (by kernel_rfl)⟩)) (fun e4 =>
    Owp.bif (fun e7 =>
     Owp.bnd fun y8 e9 =>
      Owp.some (⟨[.dec false, .dec false, .dec true, .res (.one (.dp T2)) y8], [], via (retP (And.intro (And.intro (And.intro (And.intro (And.intro (And.intro trivial (by decide : nz (16384 : Int))) (by decide : nz (16384 : Int))) e1) e4) e7) e9) (.one (.dp T2)) ((ineg .i64 y8) : Int)) (by kernel_rfl)⟩)) (fun e7 =>
     Owp.bnd fun y10 e11 =>
      Owp.some (⟨[.dec false, .dec false, .dec false, .res (.one (.dp T2)) y10], [], via (retP (And.intro (And.intro (And.intro (And.intro (And.intro (And.intro trivial (by decide : nz (16384 : Int))) (by decide : nz (16384 : Int))) e1) e4) e7) e11) (.one (.dp T2)) ((ineg .i64 y10) : Int)) (by kernel_rfl)⟩))))
theorem trig_Sin.ok (k : Nat) : FnOk PR 168 (trig_Sin.sp k) :=
  fn_ok (trig_Sin.cok k) hmix Try.func168 (code := trig_Sin.code) (by kernel_rfl) (by kernel_rfl) (by kernel_rfl) rfl rfl (by kernel_rfl) (by kernel_rfl) (by kernel_rfl) (fun x => Nat.le_of_ble_eq_true (by kernel_rfl)) fun x y hy => (trig_Sin.way k x.1).ap hy

/-! tourney/trig.Cos -/
noncomputable def trig_Cos.code : Code := Func.cd Try.f167
def trig_Cos (k : Nat) (a0 : Int) : Option Int :=
  bnd (trig_Sin k (iadd .i64 (ibits .and .i64 a0 65535) 16384)) fun y1 =>
  some y1
noncomputable def trig_Cos.sp (k : Nat) : Go.Sx.Spec := ⟨(.pair T2 .unit), (.one (.dp T2)), fun x => trig_Cos k x.1, false⟩
noncomputable def trig_Cos.cx (k : Nat) : Go.Sx.Ctx := ⟨tys, [(168, trig_Sin.sp k)], eqs, 7, 0, [], false⟩
theorem trig_Cos.cok (k : Nat) : CtxOk PR (trig_Cos.cx k) := ctx_ok tysOk eqsOk (FnsOk.cons (trig_Sin.ok k) FnsOk.nil) HsOk.nil
theorem trig_Cos.way (k : Nat) (a0 : Int) : Owp (trig_Cos k a0) fun y => ∃ answers cmds, exec PR (trig_Cos.cx k) trig_Cos.code 0 (entry (.pair T2 .unit) (a0, ())).st answers (Ret (trig_Cos.cx k) Try.f167 cmds (.one (.dp T2)) y) := by
  unfold trig_Cos; exact
   Owp.bnd fun y1 e2 =>
   Owp.some (⟨[.res (.one (.dp T2)) y1], [], via (retP (And.intro trivial e2) (.one (.dp T2)) (y1 : Int)) (by kernel_rfl)⟩)
theorem trig_Cos.ok (k : Nat) : FnOk PR 167 (trig_Cos.sp k) :=
  fn_ok (trig_Cos.cok k) hmix Try.func167 (code := trig_Cos.code) (by kernel_rfl) (by kernel_rfl) (by kernel_rfl) rfl rfl (by kernel_rfl) (by kernel_rfl) (by kernel_rfl) (fun x => Nat.le_of_ble_eq_true (by kernel_rfl)) fun x y hy => (trig_Cos.way k x.1).ap hy

/-! tourney/vec.Turn -/
noncomputable def vec_Turn.code : Code := Func.cd Try.f124
def vec_Turn (k : Nat) (a0 : V27) (a1 : Int) : Option V27 :=
  bnd (trig_Cos k a1) fun y1 =>
  bnd (trig_Sin k a1) fun y3 =>
  bnd (fix_Mul k a0.1 y1) fun y5 =>
  bnd (fix_Mul k a0.2.1 y3) fun y7 =>
  bnd (fix_Sub k y5 y7) fun y9 =>
  bnd (fix_Mul k a0.1 y3) fun y11 =>
  bnd (fix_Mul k a0.2.1 y1) fun y13 =>
  bnd (fix_Add k y11 y13) fun y15 =>
  some (y9, y15, ())
noncomputable def vec_Turn.sp (k : Nat) : Go.Sx.Spec := ⟨(.pair T27 (.pair T2 .unit)), (.one (.dp T27)), fun x => vec_Turn k x.1 x.2.1, false⟩
noncomputable def vec_Turn.cx (k : Nat) : Go.Sx.Ctx := ⟨tys, [(167, trig_Cos.sp k), (168, trig_Sin.sp k), (105, fix_Mul.sp k), (127, fix_Sub.sp k), (104, fix_Add.sp k)], eqs, 30, 0, [], false⟩
theorem vec_Turn.cok (k : Nat) : CtxOk PR (vec_Turn.cx k) := ctx_ok tysOk eqsOk (FnsOk.cons (trig_Cos.ok k) (FnsOk.cons (trig_Sin.ok k) (FnsOk.cons (fix_Mul.ok k) (FnsOk.cons (fix_Sub.ok k) (FnsOk.cons (fix_Add.ok k) FnsOk.nil))))) HsOk.nil
theorem vec_Turn.way (k : Nat) (a0 : V27) (a1 : Int) : Owp (vec_Turn k a0 a1) fun y => ∃ answers cmds, exec PR (vec_Turn.cx k) vec_Turn.code 0 (entry (.pair T27 (.pair T2 .unit)) (a0, a1, ())).st answers (Ret (vec_Turn.cx k) Try.f124 cmds (.one (.dp T27)) y) := by
  unfold vec_Turn; exact
   Owp.bnd fun y1 e2 =>
   Owp.bnd fun y3 e4 =>
   Owp.bnd fun y5 e6 =>
   Owp.bnd fun y7 e8 =>
   Owp.bnd fun y9 e10 =>
   Owp.bnd fun y11 e12 =>
   Owp.bnd fun y13 e14 =>
   Owp.bnd fun y15 e16 =>
   Owp.some (⟨[.res (.one (.dp T2)) y1, .res (.one (.dp T2)) y3, .res (.one (.dp T2)) y5, .res (.one (.dp T2)) y7, .res (.one (.dp T2)) y9, .res (.one (.dp T2)) y11, .res (.one (.dp T2)) y13, .res (.one (.dp T2)) y15], [], via (retP (And.intro (And.intro (And.intro (And.intro (And.intro (And.intro (And.intro (And.intro trivial e2) e4) e6) e8) e10) e12) e14) e16) (.one (.dp T27)) ((y9, y15, ()) : V27)) (by kernel_rfl)⟩)
theorem vec_Turn.ok (k : Nat) : FnOk PR 124 (vec_Turn.sp k) :=
  fn_ok (vec_Turn.cok k) hmix Try.func124 (code := vec_Turn.code) (by kernel_rfl) (by kernel_rfl) (by kernel_rfl) rfl rfl (by kernel_rfl) (by kernel_rfl) (by kernel_rfl) (fun x => Nat.le_of_ble_eq_true (by kernel_rfl)) fun x y hy => (vec_Turn.way k x.1 x.2.1).ap hy

/-! tourney/vec.through -/
noncomputable def vec_through.code : Code := Func.cd Try.f178
def vec_through.c1 (k : Nat) (a0 : Int) (a1 : Int) : Option (Bool) :=
  bif' (ilt (iadd .i64 (imul .i64 (imul .i64 2 a0) 65536) a1) 0)
  (req (nz (imul .i64 2 a1)) <|
   some (ine (irem (iadd .i64 (imul .i64 (imul .i64 2 a0) 65536) a1) (imul .i64 2 a1)) 0))
  (some false)
def vec_through (k : Nat) (a0 : Int) (a1 : Int) : Option Int :=
  req (nz (imul .i64 2 a1)) <|
  bnd (vec_through.c1 k a0 a1) fun o4 =>
  bif' o4
  (some (isub .i64 (iquo .i64 (iadd .i64 (imul .i64 (imul .i64 2 a0) 65536) a1) (imul .i64 2 a1)) 1))
  (some (iquo .i64 (iadd .i64 (imul .i64 (imul .i64 2 a0) 65536) a1) (imul .i64 2 a1)))
noncomputable def vec_through.sp (k : Nat) : Go.Sx.Spec := ⟨T27, (.one (.dp T2)), fun x => vec_through k x.1 x.2.1, false⟩
noncomputable def vec_through.cx (k : Nat) : Go.Sx.Ctx := ⟨tys, [], eqs, 28, 0, [], false⟩
theorem vec_through.cok (k : Nat) : CtxOk PR (vec_through.cx k) := ctx_ok tysOk eqsOk FnsOk.nil HsOk.nil
noncomputable def vec_through.c1p (a0 : Int) (a1 : Int) : SL := ⟨[(1, (.val T2 a1)), (5, (.val T2 (iadd .i64 (imul .i64 (imul .i64 (2 : Int) a0) (65536 : Int)) a1))), (6, (.val T2 (iquo .i64 (iadd .i64 (imul .i64 (imul .i64 (2 : Int) a0) (65536 : Int)) a1) (imul .i64 (2 : Int) a1))))], []⟩
noncomputable def vec_through.c1q (a0 : Int) (a1 : Int) (o : Bool) : SL := (fun v => ⟨[(6, (.val T2 (iquo .i64 (iadd .i64 (imul .i64 (imul .i64 (2 : Int) a0) (65536 : Int)) a1) (imul .i64 (2 : Int) a1)))), (24, (.val T4 v))], []⟩) o
noncomputable def vec_through.c1x (o : Bool) : Ex := (fun _ => .normal) o
noncomputable def vec_through.c1n (o : Bool) : Nat := (fun _ => 0) o
theorem vec_through.c1_ok (k : Nat) (a0 : Int) (a1 : Int) : Owp (vec_through.c1 k a0 a1) fun o => Triple PR (vec_through.cx k) (sub vec_through.code [1, 1, 1, 0, 0]) 0 (vec_through.c1p a0 a1) (vec_through.c1x o) (vec_through.c1n o) (vec_through.c1q a0 a1 o) := by
  unfold vec_through.c1; exact
   Owp.bif (fun e2 =>
   Owp.req fun h3 =>
    Owp.some (triple_way (vec_through.cok k) hmix [.dec true, .dec true, .dec true, .dec true, .dec true, .dec true] [] [] (via (finP (And.intro (And.intro (And.intro (And.intro (And.intro (And.intro trivial e2) e2) e2) (And.intro e2 h3)) e2) e2) .normal [] (vec_through.c1q a0 a1 (ine (irem (iadd .i64 (imul .i64 (imul .i64 (2 : Int) a0) (65536 : Int)) a1) (imul .i64 (2 : Int) a1)) (0 : Int)))) (by kernel_rfl)))) (fun e2 =>
   Owp.some (triple_way (vec_through.cok k) hmix [.dec false, .dec false, .dec false, .dec false, .dec false, .dec false] [] [] (via (finP (And.intro (And.intro (And.intro (And.intro (And.intro (And.intro trivial e2) e2) e2) e2) e2) e2) .normal [] (vec_through.c1q a0 a1 false)) (by kernel_rfl))))
theorem vec_through.way (k : Nat) (a0 : Int) (a1 : Int) : Owp (vec_through k a0 a1) fun y => ∃ answers cmds, exec PR (vec_through.cx k) vec_through.code 0 (entry T27 (a0, a1, ())).st answers (Ret (vec_through.cx k) Try.f178 cmds (.one (.dp T2)) y) := by
  unfold vec_through; exact
   Owp.req fun h1 =>
   Owp.bnd fun o4 e5 =>
   Owp.bif (fun e6 =>
   Owp.some (⟨[.cutR 3 ⟨[], [], (vec_through.c1p a0 a1), 0, .normal, (vec_through.c1q a0 a1 o4), 0⟩, .dec true], [], via (cutP (And.intro trivial h1) [] (vec_through.c1p a0 a1) (((vec_through.c1_ok k a0 a1).ap e5)) (retP (And.intro trivial e6) (.one (.dp T2)) ((isub .i64 (iquo .i64 (iadd .i64 (imul .i64 (imul .i64 (2 : Int) a0) (65536 : Int)) a1) (imul .i64 (2 : Int) a1)) (1 : Int)) : Int))) (by kernel_rfl)⟩)) (fun e6 =>
   Owp.some (⟨[.cutR 3 ⟨[], [], (vec_through.c1p a0 a1), 0, .normal, (vec_through.c1q a0 a1 o4), 0⟩, .dec false], [], via (cutP (And.intro trivial h1) [] (vec_through.c1p a0 a1) (((vec_through.c1_ok k a0 a1).ap e5)) (retP (And.intro trivial e6) (.one (.dp T2)) ((iquo .i64 (iadd .i64 (imul .i64 (imul .i64 (2 : Int) a0) (65536 : Int)) a1) (imul .i64 (2 : Int) a1)) : Int))) (by kernel_rfl)⟩))
theorem vec_through.ok (k : Nat) : FnOk PR 178 (vec_through.sp k) :=
  fn_ok (vec_through.cok k) hmix Try.func178 (code := vec_through.code) (by kernel_rfl) (by kernel_rfl) (by kernel_rfl) rfl rfl (by kernel_rfl) (by kernel_rfl) (by kernel_rfl) (fun x => Nat.le_of_ble_eq_true (by kernel_rfl)) fun x y hy => (vec_through.way k x.1 x.2.1).ap hy

/-! tourney/vec.Unit -/
noncomputable def vec_Unit.code : Code := Func.cd Try.f129
def vec_Unit.c1 (k : Nat) (y1 : Int) (y3 : Int) : Option (Bool) :=
  bif' (ieq y1 0)
  (some (ieq y3 0))
  (some false)
def vec_Unit.c2 (k : Nat) : Nat → Int → Int → Option ((Int × Int))
  | 0, _, _ => none
  | n + 1, v9, v10 =>
   bnd (vec_mag k v9) fun y11 =>
   bnd (vec_mag k v10) fun y13 =>
   bif' (ilt (imax y11 y13) 1073741824)
   (vec_Unit.c2 k n (imul .i64 2 v9) (imul .i64 2 v10))
   (some (v9, v10))
def vec_Unit (k : Nat) (a0 : V27) : Option V27 :=
  bnd (fix_Clamp k a0.1) fun y1 =>
  bnd (fix_Clamp k a0.2.1) fun y3 =>
  bnd (vec_Unit.c1 k y1 y3) fun o6 =>
  bif' o6
  (some (0, 0, ()))
  (bnd (vec_Unit.c2 k k y1 y3) fun o16 =>
   bnd (vec_length k o16.1 o16.2) fun y18 =>
   bnd (vec_through k o16.1 y18) fun y20 =>
   bnd (vec_through k o16.2 y18) fun y22 =>
   some (y20, y22, ()))
noncomputable def vec_Unit.sp (k : Nat) : Go.Sx.Spec := ⟨(.pair T27 .unit), (.one (.dp T27)), fun x => vec_Unit k x.1, false⟩
noncomputable def vec_Unit.cx (k : Nat) : Go.Sx.Ctx := ⟨tys, [(125, fix_Clamp.sp k), (170, vec_mag.sp k), (126, vec_length.sp k), (178, vec_through.sp k)], eqs, 39, 0, [], false⟩
theorem vec_Unit.cok (k : Nat) : CtxOk PR (vec_Unit.cx k) := ctx_ok tysOk eqsOk (FnsOk.cons (fix_Clamp.ok k) (FnsOk.cons (vec_mag.ok k) (FnsOk.cons (vec_length.ok k) (FnsOk.cons (vec_through.ok k) FnsOk.nil)))) HsOk.nil
noncomputable def vec_Unit.c1p (y1 : Int) (y3 : Int) : SL := ⟨[(2, (.val .ptr ⟨0, 0, (0 : Int), 0, 0⟩)), (3, (.val T2 y1)), (4, (.val T2 y3))], [(0, .cells T27 ((0 : Int), (0 : Int), ()))]⟩
noncomputable def vec_Unit.c1q (y1 : Int) (y3 : Int) (o : Bool) : SL := (fun v => ⟨[(2, (.val .ptr ⟨0, 0, (0 : Int), 0, 0⟩)), (3, (.val T2 y1)), (4, (.val T2 y3)), (17, (.val T4 v))], [(0, .cells T27 ((0 : Int), (0 : Int), ()))]⟩) o
noncomputable def vec_Unit.c1x (o : Bool) : Ex := (fun _ => .normal) o
noncomputable def vec_Unit.c1n (o : Bool) : Nat := (fun _ => 1) o
theorem vec_Unit.c1_ok (k : Nat) (y1 : Int) (y3 : Int) : Owp (vec_Unit.c1 k y1 y3) fun o => Triple PR (vec_Unit.cx k) (sub vec_Unit.code [1, 1, 0, 0]) 1 (vec_Unit.c1p y1 y3) (vec_Unit.c1x o) (vec_Unit.c1n o) (vec_Unit.c1q y1 y3 o) := by
  unfold vec_Unit.c1; exact
   Owp.bif (fun e5 =>
   Owp.some (triple_way (vec_Unit.cok k) hmix [.dec true, .dec true, .dec true] [] [(0, 0)] (via (finP (And.intro (And.intro (And.intro trivial e5) e5) e5) .normal [(0, 0)] (vec_Unit.c1q y1 y3 (ieq y3 (0 : Int)))) (by kernel_rfl)))) (fun e5 =>
   Owp.some (triple_way (vec_Unit.cok k) hmix [.dec false, .dec false, .dec false] [] [(0, 0)] (via (finP (And.intro (And.intro (And.intro trivial e5) e5) e5) .normal [(0, 0)] (vec_Unit.c1q y1 y3 false)) (by kernel_rfl))))
noncomputable def vec_Unit.c2p (v9 : Int) (v10 : Int) : SL := ⟨[(2, (.val .ptr ⟨0, 0, (0 : Int), 0, 0⟩)), (3, (.val T2 v9)), (4, (.val T2 v10))], [(0, .cells T27 ((0 : Int), (0 : Int), ()))]⟩
noncomputable def vec_Unit.c2q (o : (Int × Int)) : SL := (fun v => ⟨[(2, (.val .ptr ⟨0, 0, (0 : Int), 0, 0⟩)), (3, (.val T2 v.1)), (4, (.val T2 v.2))], [(0, .cells T27 ((0 : Int), (0 : Int), ()))]⟩) o
noncomputable def vec_Unit.c2x (o : (Int × Int)) : Ex := (fun _ => (.exit 0)) o
noncomputable def vec_Unit.c2n (o : (Int × Int)) : Nat := (fun _ => 1) o
theorem vec_Unit.c2_ok (k : Nat) : ∀ (n : Nat) (v9 : Int) (v10 : Int), Owp (vec_Unit.c2 k n v9 v10) fun o => LTriple PR (vec_Unit.cx k) (sub vec_Unit.code [1, 1, 1, 0, 0, 0]) 1 (vec_Unit.c2p v9 v10) (vec_Unit.c2x o) (vec_Unit.c2n o) (vec_Unit.c2q o)
  | 0, _, _ => fun _ h => nomatch h
  | n + 1, v9, v10 => Owp.of (vec_Unit.c2.eq_2 ..) (
   Owp.bnd fun y11 e12 =>
   Owp.bnd fun y13 e14 =>
   Owp.bif (fun e15 =>
   fun y hy => loop_back (vec_Unit.cok k) hmix 1 (vec_Unit.c2p (imul .i64 (2 : Int) v9) (imul .i64 (2 : Int) v10)) [.res (.one (.dp T12)) y11, .res (.one (.dp T12)) y13, .dec true] [] [(0, 0)] (via (finP (And.intro (And.intro (And.intro trivial e12) e14) e15) .normal [(0, 0)] (vec_Unit.c2p (imul .i64 (2 : Int) v9) (imul .i64 (2 : Int) v10))) (by kernel_rfl)) ((vec_Unit.c2_ok k n (imul .i64 (2 : Int) v9) (imul .i64 (2 : Int) v10)).ap hy)) (fun e15 =>
   Owp.some (loop_exit (vec_Unit.cok k) hmix [.res (.one (.dp T12)) y11, .res (.one (.dp T12)) y13, .dec false] [] [(0, 0)] (exne 0) (via (finP (And.intro (And.intro (And.intro trivial e12) e14) e15) (.exit 0) [(0, 0)] (vec_Unit.c2q (v9, v10))) (by kernel_rfl)))))
theorem vec_Unit.way (k : Nat) (a0 : V27) : Owp (vec_Unit k a0) fun y => ∃ answers cmds, exec PR (vec_Unit.cx k) vec_Unit.code 0 (entry (.pair T27 .unit) (a0, ())).st answers (Ret (vec_Unit.cx k) Try.f129 cmds (.one (.dp T27)) y) := by
  unfold vec_Unit; exact
   Owp.bnd fun y1 e2 =>
   Owp.bnd fun y3 e4 =>
   Owp.bnd fun o6 e7 =>
   Owp.bif (fun e8 =>
   Owp.some (⟨[.res (.one (.dp T2)) y1, .res (.one (.dp T2)) y3, .cutR 2 ⟨[], [(0, 1)], (vec_Unit.c1p y1 y3), 1, .normal, (vec_Unit.c1q y1 y3 o6), 1⟩, .dec true], [], via (cutP (And.intro (And.intro trivial e2) e4) [(0, 1)] (vec_Unit.c1p y1 y3) (((vec_Unit.c1_ok k y1 y3).ap e7)) (retP (And.intro trivial e8) (.one (.dp T27)) (((0 : Int), (0 : Int), ()) : V27))) (by kernel_rfl)⟩)) (fun e8 =>
   Owp.bnd fun o16 e17 =>
    Owp.bnd fun y18 e19 =>
    Owp.bnd fun y20 e21 =>
    Owp.bnd fun y22 e23 =>
    Owp.some (⟨[.res (.one (.dp T2)) y1, .res (.one (.dp T2)) y3, .cutR 2 ⟨[], [(0, 1)], (vec_Unit.c1p y1 y3), 1, .normal, (vec_Unit.c1q y1 y3 o6), 1⟩, .dec false, .cut ⟨[], [(0, 0)], (vec_Unit.c2p y1 y3), 1, (.exit 0), (vec_Unit.c2q o16), 1⟩, .res (.one (.dp T2)) y18, .res (.one (.dp T2)) y20, .res (.one (.dp T2)) y22], [], via (cutP (And.intro (And.intro trivial e2) e4) [(0, 1)] (vec_Unit.c1p y1 y3) (((vec_Unit.c1_ok k y1 y3).ap e7)) (cutP (And.intro trivial e8) [(0, 0)] (vec_Unit.c2p y1 y3) (((vec_Unit.c2_ok k k y1 y3).ap e17).triple) (retP (And.intro (And.intro (And.intro trivial e19) e21) e23) (.one (.dp T27)) ((y20, y22, ()) : V27)))) (by kernel_rfl)⟩))
theorem vec_Unit.ok (k : Nat) : FnOk PR 129 (vec_Unit.sp k) :=
  fn_ok (vec_Unit.cok k) hmix Try.func129 (code := vec_Unit.code) (by kernel_rfl) (by kernel_rfl) (by kernel_rfl) rfl rfl (by kernel_rfl) (by kernel_rfl) (by kernel_rfl) (fun x => Nat.le_of_ble_eq_true (by kernel_rfl)) fun x y hy => (vec_Unit.way k x.1).ap hy

/-! tourney/vec.Dot -/
noncomputable def vec_Dot.code : Code := Func.cd Try.f174
def vec_Dot (k : Nat) (a0 : V27) (a1 : V27) : Option Int :=
  bnd (fix_Mul k a0.1 a1.1) fun y1 =>
  bnd (fix_Mul k a0.2.1 a1.2.1) fun y3 =>
  bnd (fix_Add k y1 y3) fun y5 =>
  some y5
noncomputable def vec_Dot.sp (k : Nat) : Go.Sx.Spec := ⟨T35, (.one (.dp T2)), fun x => vec_Dot k x.1 x.2.1, false⟩
noncomputable def vec_Dot.cx (k : Nat) : Go.Sx.Ctx := ⟨tys, [(105, fix_Mul.sp k), (104, fix_Add.sp k)], eqs, 16, 0, [], false⟩
theorem vec_Dot.cok (k : Nat) : CtxOk PR (vec_Dot.cx k) := ctx_ok tysOk eqsOk (FnsOk.cons (fix_Mul.ok k) (FnsOk.cons (fix_Add.ok k) FnsOk.nil)) HsOk.nil
theorem vec_Dot.way (k : Nat) (a0 : V27) (a1 : V27) : Owp (vec_Dot k a0 a1) fun y => ∃ answers cmds, exec PR (vec_Dot.cx k) vec_Dot.code 0 (entry T35 (a0, a1, ())).st answers (Ret (vec_Dot.cx k) Try.f174 cmds (.one (.dp T2)) y) := by
  unfold vec_Dot; exact
   Owp.bnd fun y1 e2 =>
   Owp.bnd fun y3 e4 =>
   Owp.bnd fun y5 e6 =>
   Owp.some (⟨[.res (.one (.dp T2)) y1, .res (.one (.dp T2)) y3, .res (.one (.dp T2)) y5], [], via (retP (And.intro (And.intro (And.intro trivial e2) e4) e6) (.one (.dp T2)) (y5 : Int)) (by kernel_rfl)⟩)
theorem vec_Dot.ok (k : Nat) : FnOk PR 174 (vec_Dot.sp k) :=
  fn_ok (vec_Dot.cok k) hmix Try.func174 (code := vec_Dot.code) (by kernel_rfl) (by kernel_rfl) (by kernel_rfl) rfl rfl (by kernel_rfl) (by kernel_rfl) (by kernel_rfl) (fun x => Nat.le_of_ble_eq_true (by kernel_rfl)) fun x y hy => (vec_Dot.way k x.1 x.2.1).ap hy

/-! tourney/vec.Cross -/
noncomputable def vec_Cross.code : Code := Func.cd Try.f216
def vec_Cross (k : Nat) (a0 : V27) (a1 : V27) : Option Int :=
  bnd (fix_Mul k a0.1 a1.2.1) fun y1 =>
  bnd (fix_Mul k a0.2.1 a1.1) fun y3 =>
  bnd (fix_Sub k y1 y3) fun y5 =>
  some y5
noncomputable def vec_Cross.sp (k : Nat) : Go.Sx.Spec := ⟨T35, (.one (.dp T2)), fun x => vec_Cross k x.1 x.2.1, false⟩
noncomputable def vec_Cross.cx (k : Nat) : Go.Sx.Ctx := ⟨tys, [(105, fix_Mul.sp k), (127, fix_Sub.sp k)], eqs, 16, 0, [], false⟩
theorem vec_Cross.cok (k : Nat) : CtxOk PR (vec_Cross.cx k) := ctx_ok tysOk eqsOk (FnsOk.cons (fix_Mul.ok k) (FnsOk.cons (fix_Sub.ok k) FnsOk.nil)) HsOk.nil
theorem vec_Cross.way (k : Nat) (a0 : V27) (a1 : V27) : Owp (vec_Cross k a0 a1) fun y => ∃ answers cmds, exec PR (vec_Cross.cx k) vec_Cross.code 0 (entry T35 (a0, a1, ())).st answers (Ret (vec_Cross.cx k) Try.f216 cmds (.one (.dp T2)) y) := by
  unfold vec_Cross; exact
   Owp.bnd fun y1 e2 =>
   Owp.bnd fun y3 e4 =>
   Owp.bnd fun y5 e6 =>
   Owp.some (⟨[.res (.one (.dp T2)) y1, .res (.one (.dp T2)) y3, .res (.one (.dp T2)) y5], [], via (retP (And.intro (And.intro (And.intro trivial e2) e4) e6) (.one (.dp T2)) (y5 : Int)) (by kernel_rfl)⟩)
theorem vec_Cross.ok (k : Nat) : FnOk PR 216 (vec_Cross.sp k) :=
  fn_ok (vec_Cross.cok k) hmix Try.func216 (code := vec_Cross.code) (by kernel_rfl) (by kernel_rfl) (by kernel_rfl) rfl rfl (by kernel_rfl) (by kernel_rfl) (by kernel_rfl) (fun x => Nat.le_of_ble_eq_true (by kernel_rfl)) fun x y hy => (vec_Cross.way k x.1 x.2.1).ap hy

/-! tourney/tourlaw2.square -/
noncomputable def tourlaw2_square.code : Code := Func.cd Try.f15
def tourlaw2_square (k : Nat) (a0 : Int) (a1 : Int) (a2 : Int) : Option (List V27) :=
  some [((imul .i64 a0 65536), (imul .i64 a1 65536), ()), ((iadd .i64 (imul .i64 a0 65536) (imul .i64 a2 65536)), (imul .i64 a1 65536), ()), ((iadd .i64 (imul .i64 a0 65536) (imul .i64 a2 65536)), (iadd .i64 (imul .i64 a1 65536) (imul .i64 a2 65536)), ()), ((imul .i64 a0 65536), (iadd .i64 (imul .i64 a1 65536) (imul .i64 a2 65536)), ())]
noncomputable def tourlaw2_square.sp (k : Nat) : Go.Sx.Spec := ⟨(.pair T2 T27), (.one (.ow T27 28)), fun x => tourlaw2_square k x.1 x.2.1 x.2.2.1, false⟩
noncomputable def tourlaw2_square.cx (k : Nat) : Go.Sx.Ctx := ⟨tys, [], eqs, 34, 0, [], false⟩
theorem tourlaw2_square.cok (k : Nat) : CtxOk PR (tourlaw2_square.cx k) := ctx_ok tysOk eqsOk FnsOk.nil HsOk.nil
theorem tourlaw2_square.way (k : Nat) (a0 : Int) (a1 : Int) (a2 : Int) : Owp (tourlaw2_square k a0 a1 a2) fun y => ∃ answers cmds, exec PR (tourlaw2_square.cx k) tourlaw2_square.code 0 (entry (.pair T2 T27) (a0, a1, a2, ())).st answers (Ret (tourlaw2_square.cx k) Try.f15 cmds (.one (.ow T27 28)) y) := by
  unfold tourlaw2_square; exact
   Owp.some (⟨[.dec true], [], via (retP trivial (.one (.ow T27 28)) ([((imul .i64 a0 (65536 : Int)), (imul .i64 a1 (65536 : Int)), ()), ((iadd .i64 (imul .i64 a0 (65536 : Int)) (imul .i64 a2 (65536 : Int))), (imul .i64 a1 (65536 : Int)), ()), ((iadd .i64 (imul .i64 a0 (65536 : Int)) (imul .i64 a2 (65536 : Int))), (iadd .i64 (imul .i64 a1 (65536 : Int)) (imul .i64 a2 (65536 : Int))), ()), ((imul .i64 a0 (65536 : Int)), (iadd .i64 (imul .i64 a1 (65536 : Int)) (imul .i64 a2 (65536 : Int))), ())] : (List V27))) (by kernel_rfl)⟩)
theorem tourlaw2_square.ok (k : Nat) : FnOk PR 15 (tourlaw2_square.sp k) :=
  fn_ok (tourlaw2_square.cok k) hmix Try.func15 (code := tourlaw2_square.code) (by kernel_rfl) (by kernel_rfl) (by kernel_rfl) rfl rfl (by kernel_rfl) (by kernel_rfl) (by kernel_rfl) (fun x => Nat.le_of_ble_eq_true (by kernel_rfl)) fun x y hy => (tourlaw2_square.way k x.1 x.2.1 x.2.2.1).ap hy

end Go.Proofs.T1
