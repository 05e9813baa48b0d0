import Derived.Test.YtlinkcdelenjeaaG0
import Derived.Test.YtlinkcdelenjeaaG1
namespace Go.Proofs.T1
open Go Go.Sx Go.Proofs
set_option maxRecDepth 100000
set_option linter.unusedVariables false
/-! math/bits.Div64 -/
noncomputable def bits_Div64.code : Code := Func.cd Try.f151
def bits_Div64.c2 (k : Nat) (a1 : Int) (a2 : Int) (v10 : Int) (v11 : Int) (y5 : Int) : Option (Bool) :=
  bif' (ige v10 4294967296)
  (some true)
  (some (igt (imul .u64 v10 (ibits .and .u64 (ishl .u64 a2 (icv .u64 y5)) 4294967295)) (iadd .u64 (imul .u64 4294967296 v11) (ishr .u64 (ishl .u64 a1 (icv .u64 y5)) 32))))
def bits_Div64.c1 (k : Nat) (a1 : Int) (a2 : Int) (y5 : Int) : Nat → Int → Int → Option (Int)
  | 0, _, _ => none
  | n + 1, v10, v11 =>
   bnd (bits_Div64.c2 k a1 a2 v10 v11 y5) fun o13 =>
   bif' o13
   (bif' (ige (iadd .u64 v11 (ishr .u64 (ishl .u64 a2 (icv .u64 y5)) 32)) 4294967296)
    (some (isub .u64 v10 1))
    (bits_Div64.c1 k a1 a2 y5 n (isub .u64 v10 1) (iadd .u64 v11 (ishr .u64 (ishl .u64 a2 (icv .u64 y5)) 32))))
   (some v10)
def bits_Div64.c4 (k : Nat) (a1 : Int) (a2 : Int) (v19 : Int) (v20 : Int) (y5 : Int) : Option (Bool) :=
  bif' (ige v20 4294967296)
  (some true)
  (some (igt (imul .u64 v20 (ibits .and .u64 (ishl .u64 a2 (icv .u64 y5)) 4294967295)) (iadd .u64 (imul .u64 4294967296 v19) (ibits .and .u64 (ishl .u64 a1 (icv .u64 y5)) 4294967295))))
def bits_Div64.c3 (k : Nat) (a1 : Int) (a2 : Int) (y5 : Int) : Nat → Int → Int → Option (Int)
  | 0, _, _ => none
  | n + 1, v19, v20 =>
   bnd (bits_Div64.c4 k a1 a2 v19 v20 y5) fun o22 =>
   bif' o22
   (bif' (ige (iadd .u64 v19 (ishr .u64 (ishl .u64 a2 (icv .u64 y5)) 32)) 4294967296)
    (some (isub .u64 v20 1))
    (bits_Div64.c3 k a1 a2 y5 n (iadd .u64 v19 (ishr .u64 (ishl .u64 a2 (icv .u64 y5)) 32)) (isub .u64 v20 1)))
   (some v20)
def bits_Div64 (k : Nat) (a0 : Int) (a1 : Int) (a2 : Int) : Option (Int × Int) :=
  bif' (ieq a2 0)
  (none)
  (bif' (ile a2 a0)
   (none)
   (bif' (ieq a0 0)
    (req (nz a2) <|
     some ((iquo .u64 a1 a2), (irem a1 a2)))
    (bnd (bits_LeadingZeros64 k a2) fun y5 =>
     req (ng (icv .u64 y5)) <|
     req (ng (isub .u64 64 (icv .u64 y5))) <|
     req (nz (ishr .u64 (ishl .u64 a2 (icv .u64 y5)) 32)) <|
     bnd (bits_Div64.c1 k a1 a2 y5 k (iquo .u64 (ibits .or .u64 (ishl .u64 a0 (icv .u64 y5)) (ishr .u64 a1 (isub .u64 64 (icv .u64 y5)))) (ishr .u64 (ishl .u64 a2 (icv .u64 y5)) 32)) (isub .u64 (ibits .or .u64 (ishl .u64 a0 (icv .u64 y5)) (ishr .u64 a1 (isub .u64 64 (icv .u64 y5)))) (imul .u64 (iquo .u64 (ibits .or .u64 (ishl .u64 a0 (icv .u64 y5)) (ishr .u64 a1 (isub .u64 64 (icv .u64 y5)))) (ishr .u64 (ishl .u64 a2 (icv .u64 y5)) 32)) (ishr .u64 (ishl .u64 a2 (icv .u64 y5)) 32)))) fun o17 =>
     bnd (bits_Div64.c3 k a1 a2 y5 k (isub .u64 (isub .u64 (iadd .u64 (imul .u64 (ibits .or .u64 (ishl .u64 a0 (icv .u64 y5)) (ishr .u64 a1 (isub .u64 64 (icv .u64 y5)))) 4294967296) (ishr .u64 (ishl .u64 a1 (icv .u64 y5)) 32)) (imul .u64 o17 (ishl .u64 a2 (icv .u64 y5)))) (imul .u64 (iquo .u64 (isub .u64 (iadd .u64 (imul .u64 (ibits .or .u64 (ishl .u64 a0 (icv .u64 y5)) (ishr .u64 a1 (isub .u64 64 (icv .u64 y5)))) 4294967296) (ishr .u64 (ishl .u64 a1 (icv .u64 y5)) 32)) (imul .u64 o17 (ishl .u64 a2 (icv .u64 y5)))) (ishr .u64 (ishl .u64 a2 (icv .u64 y5)) 32)) (ishr .u64 (ishl .u64 a2 (icv .u64 y5)) 32))) (iquo .u64 (isub .u64 (iadd .u64 (imul .u64 (ibits .or .u64 (ishl .u64 a0 (icv .u64 y5)) (ishr .u64 a1 (isub .u64 64 (icv .u64 y5)))) 4294967296) (ishr .u64 (ishl .u64 a1 (icv .u64 y5)) 32)) (imul .u64 o17 (ishl .u64 a2 (icv .u64 y5)))) (ishr .u64 (ishl .u64 a2 (icv .u64 y5)) 32))) fun o26 =>
     some ((iadd .u64 (imul .u64 o17 4294967296) o26), (ishr .u64 (isub .u64 (iadd .u64 (imul .u64 (isub .u64 (iadd .u64 (imul .u64 (ibits .or .u64 (ishl .u64 a0 (icv .u64 y5)) (ishr .u64 a1 (isub .u64 64 (icv .u64 y5)))) 4294967296) (ishr .u64 (ishl .u64 a1 (icv .u64 y5)) 32)) (imul .u64 o17 (ishl .u64 a2 (icv .u64 y5)))) 4294967296) (ibits .and .u64 (ishl .u64 a1 (icv .u64 y5)) 4294967295)) (imul .u64 o26 (ishl .u64 a2 (icv .u64 y5)))) (icv .u64 y5))))))
noncomputable def bits_Div64.sp (k : Nat) : Go.Sx.Spec := ⟨(.pair T12 (.pair T12 (.pair T12 .unit))), (.more (.dp T12) (.one (.dp T12))), fun x => bits_Div64 k x.1 x.2.1 x.2.2.1, false⟩
noncomputable def bits_Div64.cx (k : Nat) : Go.Sx.Ctx := ⟨tys, [(175, bits_LeadingZeros64.sp k)], eqs, 135, false⟩
theorem bits_Div64.cok (k : Nat) : CtxOk PR (bits_Div64.cx k) := ctx_ok tysOk eqsOk (FnsOk.cons (bits_LeadingZeros64.ok k) FnsOk.nil)
noncomputable def bits_Div64.c2p (a0 : Int) (a1 : Int) (a2 : Int) (v10 : Int) (v11 : Int) (y5 : Int) : SL := ⟨[(2, (.val T12 (ishl .u64 a2 (icv .u64 y5)))), (8, (.val T12 (icv .u64 y5))), (9, (.val T12 (ishr .u64 (ishl .u64 a2 (icv .u64 y5)) (32 : Int)))), (10, (.val T12 (ibits .and .u64 (ishl .u64 a2 (icv .u64 y5)) (4294967295 : Int)))), (11, (.val T12 (ibits .or .u64 (ishl .u64 a0 (icv .u64 y5)) (ishr .u64 a1 (isub .u64 (64 : Int) (icv .u64 y5)))))), (13, (.val T12 (ishr .u64 (ishl .u64 a1 (icv .u64 y5)) (32 : Int)))), (14, (.val T12 (ibits .and .u64 (ishl .u64 a1 (icv .u64 y5)) (4294967295 : Int)))), (15, (.val T12 v10)), (16, (.val T12 v11))], []⟩
noncomputable def bits_Div64.c2q (a0 : Int) (a1 : Int) (a2 : Int) (v10 : Int) (v11 : Int) (y5 : Int) (o : Bool) : SL := (fun v => ⟨[(2, (.val T12 (ishl .u64 a2 (icv .u64 y5)))), (8, (.val T12 (icv .u64 y5))), (9, (.val T12 (ishr .u64 (ishl .u64 a2 (icv .u64 y5)) (32 : Int)))), (10, (.val T12 (ibits .and .u64 (ishl .u64 a2 (icv .u64 y5)) (4294967295 : Int)))), (11, (.val T12 (ibits .or .u64 (ishl .u64 a0 (icv .u64 y5)) (ishr .u64 a1 (isub .u64 (64 : Int) (icv .u64 y5)))))), (13, (.val T12 (ishr .u64 (ishl .u64 a1 (icv .u64 y5)) (32 : Int)))), (14, (.val T12 (ibits .and .u64 (ishl .u64 a1 (icv .u64 y5)) (4294967295 : Int)))), (15, (.val T12 v10)), (16, (.val T12 v11)), (78, (.val T4 v))], []⟩) o
noncomputable def bits_Div64.c2x (o : Bool) : Ex := (fun _ => .normal) o
noncomputable def bits_Div64.c2n (o : Bool) : Nat := (fun _ => 0) o
theorem bits_Div64.c2_ok (k : Nat) (a0 : Int) (a1 : Int) (a2 : Int) (v10 : Int) (v11 : Int) (y5 : Int) : Owp (bits_Div64.c2 k a1 a2 v10 v11 y5) fun o => Triple PR (bits_Div64.cx k) (sub bits_Div64.code [1, 1, 1, 1, 1, 1, 1, 1, 1, 1, 1, 1, 1, 1, 0, 0, 0, 0, 0]) 0 (bits_Div64.c2p a0 a1 a2 v10 v11 y5) (bits_Div64.c2x o) (bits_Div64.c2n o) (bits_Div64.c2q a0 a1 a2 v10 v11 y5 o) := by
  unfold bits_Div64.c2; exact
   Owp.bif (fun e12 =>
   Owp.some (triple_way (bits_Div64.cok k) hmix [.dec true, .dec true, .dec true, .dec true, .dec true, .dec true, .dec true, .dec true, .dec true] [] [] (via (finP (And.intro (And.intro (And.intro (And.intro (And.intro (And.intro (And.intro (And.intro (And.intro trivial e12) e12) e12) e12) e12) e12) e12) e12) e12) .normal [] (bits_Div64.c2q a0 a1 a2 v10 v11 y5 true)) (by kernel_rfl)))) (fun e12 =>
   Owp.some (triple_way (bits_Div64.cok k) hmix [.dec false, .dec false, .dec false, .dec false, .dec false, .dec false, .dec false, .dec false, .dec false] [] [] (via (finP (And.intro (And.intro (And.intro (And.intro (And.intro (And.intro (And.intro (And.intro (And.intro trivial e12) e12) e12) e12) e12) e12) e12) e12) e12) .normal [] (bits_Div64.c2q a0 a1 a2 v10 v11 y5 (igt (imul .u64 v10 (ibits .and .u64 (ishl .u64 a2 (icv .u64 y5)) (4294967295 : Int))) (iadd .u64 (imul .u64 (4294967296 : Int) v11) (ishr .u64 (ishl .u64 a1 (icv .u64 y5)) (32 : Int)))))) (by kernel_rfl))))
noncomputable def bits_Div64.c1p (a0 : Int) (a1 : Int) (a2 : Int) (y5 : Int) (v10 : Int) (v11 : Int) : SL := ⟨[(2, (.val T12 (ishl .u64 a2 (icv .u64 y5)))), (8, (.val T12 (icv .u64 y5))), (9, (.val T12 (ishr .u64 (ishl .u64 a2 (icv .u64 y5)) (32 : Int)))), (10, (.val T12 (ibits .and .u64 (ishl .u64 a2 (icv .u64 y5)) (4294967295 : Int)))), (11, (.val T12 (ibits .or .u64 (ishl .u64 a0 (icv .u64 y5)) (ishr .u64 a1 (isub .u64 (64 : Int) (icv .u64 y5)))))), (13, (.val T12 (ishr .u64 (ishl .u64 a1 (icv .u64 y5)) (32 : Int)))), (14, (.val T12 (ibits .and .u64 (ishl .u64 a1 (icv .u64 y5)) (4294967295 : Int)))), (15, (.val T12 v10)), (16, (.val T12 v11))], []⟩
noncomputable def bits_Div64.c1q (a0 : Int) (a1 : Int) (a2 : Int) (y5 : Int) (o : Int) : SL := (fun v => ⟨[(2, (.val T12 (ishl .u64 a2 (icv .u64 y5)))), (8, (.val T12 (icv .u64 y5))), (9, (.val T12 (ishr .u64 (ishl .u64 a2 (icv .u64 y5)) (32 : Int)))), (10, (.val T12 (ibits .and .u64 (ishl .u64 a2 (icv .u64 y5)) (4294967295 : Int)))), (11, (.val T12 (ibits .or .u64 (ishl .u64 a0 (icv .u64 y5)) (ishr .u64 a1 (isub .u64 (64 : Int) (icv .u64 y5)))))), (13, (.val T12 (ishr .u64 (ishl .u64 a1 (icv .u64 y5)) (32 : Int)))), (14, (.val T12 (ibits .and .u64 (ishl .u64 a1 (icv .u64 y5)) (4294967295 : Int)))), (15, (.val T12 v))], []⟩) o
noncomputable def bits_Div64.c1x (o : Int) : Ex := (fun _ => (.exit 0)) o
noncomputable def bits_Div64.c1n (o : Int) : Nat := (fun _ => 0) o
theorem bits_Div64.c1_ok (k : Nat) (a0 : Int) (a1 : Int) (a2 : Int) (y5 : Int) : ∀ (n : Nat) (v10 : Int) (v11 : Int), Owp (bits_Div64.c1 k a1 a2 y5 n v10 v11) fun o => LTriple PR (bits_Div64.cx k) (sub bits_Div64.code [1, 1, 1, 1, 1, 1, 1, 1, 1, 1, 1, 1, 1, 1, 0, 0, 0]) 0 (bits_Div64.c1p a0 a1 a2 y5 v10 v11) (bits_Div64.c1x o) (bits_Div64.c1n o) (bits_Div64.c1q a0 a1 a2 y5 o)
  | 0, _, _ => fun _ h => nomatch h
  | n + 1, v10, v11 => Owp.of (bits_Div64.c1.eq_2 ..) (
   Owp.bnd fun o13 e14 =>
   Owp.bif (fun e15 =>
   Owp.bif (fun e16 =>
    Owp.some (loop_exit (bits_Div64.cok k) hmix [.cutR 17 ⟨[], [], (bits_Div64.c2p a0 a1 a2 v10 v11 y5), 0, .normal, (bits_Div64.c2q a0 a1 a2 v10 v11 y5 o13), 0⟩, .dec true, .dec true] [] [] (exne 0) (via (cutP trivial [] (bits_Div64.c2p a0 a1 a2 v10 v11 y5) (((bits_Div64.c2_ok k a0 a1 a2 v10 v11 y5).ap e14)) (finP (And.intro (And.intro trivial e15) e16) (.exit 0) [] (bits_Div64.c1q a0 a1 a2 y5 (isub .u64 v10 (1 : Int))))) (by kernel_rfl)))) (fun e16 =>
    fun y hy => loop_back (bits_Div64.cok k) hmix 0 (bits_Div64.c1p a0 a1 a2 y5 (isub .u64 v10 (1 : Int)) (iadd .u64 v11 (ishr .u64 (ishl .u64 a2 (icv .u64 y5)) (32 : Int)))) [.cutR 17 ⟨[], [], (bits_Div64.c2p a0 a1 a2 v10 v11 y5), 0, .normal, (bits_Div64.c2q a0 a1 a2 v10 v11 y5 o13), 0⟩, .dec true, .dec false] [] [] (via (cutP trivial [] (bits_Div64.c2p a0 a1 a2 v10 v11 y5) (((bits_Div64.c2_ok k a0 a1 a2 v10 v11 y5).ap e14)) (finP (And.intro (And.intro trivial e15) e16) .normal [] (bits_Div64.c1p a0 a1 a2 y5 (isub .u64 v10 (1 : Int)) (iadd .u64 v11 (ishr .u64 (ishl .u64 a2 (icv .u64 y5)) (32 : Int)))))) (by kernel_rfl)) ((bits_Div64.c1_ok k a0 a1 a2 y5 n (isub .u64 v10 (1 : Int)) (iadd .u64 v11 (ishr .u64 (ishl .u64 a2 (icv .u64 y5)) (32 : Int)))).ap hy))) (fun e15 =>
   Owp.some (loop_exit (bits_Div64.cok k) hmix [.cutR 17 ⟨[], [], (bits_Div64.c2p a0 a1 a2 v10 v11 y5), 0, .normal, (bits_Div64.c2q a0 a1 a2 v10 v11 y5 o13), 0⟩, .dec false] [] [] (exne 0) (via (cutP trivial [] (bits_Div64.c2p a0 a1 a2 v10 v11 y5) (((bits_Div64.c2_ok k a0 a1 a2 v10 v11 y5).ap e14)) (finP (And.intro trivial e15) (.exit 0) [] (bits_Div64.c1q a0 a1 a2 y5 v10))) (by kernel_rfl)))))
noncomputable def bits_Div64.c4p (a0 : Int) (a1 : Int) (a2 : Int) (o17 : Int) (v19 : Int) (v20 : Int) (y5 : Int) : SL := ⟨[(2, (.val T12 (ishl .u64 a2 (icv .u64 y5)))), (8, (.val T12 (icv .u64 y5))), (9, (.val T12 (ishr .u64 (ishl .u64 a2 (icv .u64 y5)) (32 : Int)))), (10, (.val T12 (ibits .and .u64 (ishl .u64 a2 (icv .u64 y5)) (4294967295 : Int)))), (14, (.val T12 (ibits .and .u64 (ishl .u64 a1 (icv .u64 y5)) (4294967295 : Int)))), (15, (.val T12 o17)), (16, (.val T12 v19)), (17, (.val T12 (isub .u64 (iadd .u64 (imul .u64 (ibits .or .u64 (ishl .u64 a0 (icv .u64 y5)) (ishr .u64 a1 (isub .u64 (64 : Int) (icv .u64 y5)))) (4294967296 : Int)) (ishr .u64 (ishl .u64 a1 (icv .u64 y5)) (32 : Int))) (imul .u64 o17 (ishl .u64 a2 (icv .u64 y5)))))), (18, (.val T12 v20))], []⟩
noncomputable def bits_Div64.c4q (a0 : Int) (a1 : Int) (a2 : Int) (o17 : Int) (v19 : Int) (v20 : Int) (y5 : Int) (o : Bool) : SL := (fun v => ⟨[(2, (.val T12 (ishl .u64 a2 (icv .u64 y5)))), (8, (.val T12 (icv .u64 y5))), (9, (.val T12 (ishr .u64 (ishl .u64 a2 (icv .u64 y5)) (32 : Int)))), (10, (.val T12 (ibits .and .u64 (ishl .u64 a2 (icv .u64 y5)) (4294967295 : Int)))), (14, (.val T12 (ibits .and .u64 (ishl .u64 a1 (icv .u64 y5)) (4294967295 : Int)))), (15, (.val T12 o17)), (16, (.val T12 v19)), (17, (.val T12 (isub .u64 (iadd .u64 (imul .u64 (ibits .or .u64 (ishl .u64 a0 (icv .u64 y5)) (ishr .u64 a1 (isub .u64 (64 : Int) (icv .u64 y5)))) (4294967296 : Int)) (ishr .u64 (ishl .u64 a1 (icv .u64 y5)) (32 : Int))) (imul .u64 o17 (ishl .u64 a2 (icv .u64 y5)))))), (18, (.val T12 v20)), (113, (.val T4 v))], []⟩) o
noncomputable def bits_Div64.c4x (o : Bool) : Ex := (fun _ => .normal) o
noncomputable def bits_Div64.c4n (o : Bool) : Nat := (fun _ => 0) o
theorem bits_Div64.c4_ok (k : Nat) (a0 : Int) (a1 : Int) (a2 : Int) (o17 : Int) (v19 : Int) (v20 : Int) (y5 : Int) : Owp (bits_Div64.c4 k a1 a2 v19 v20 y5) fun o => Triple PR (bits_Div64.cx k) (sub bits_Div64.code [1, 1, 1, 1, 1, 1, 1, 1, 1, 1, 1, 1, 1, 1, 1, 1, 1, 1, 0, 0, 0, 0, 0]) 0 (bits_Div64.c4p a0 a1 a2 o17 v19 v20 y5) (bits_Div64.c4x o) (bits_Div64.c4n o) (bits_Div64.c4q a0 a1 a2 o17 v19 v20 y5 o) := by
  unfold bits_Div64.c4; exact
   Owp.bif (fun e21 =>
   Owp.some (triple_way (bits_Div64.cok k) hmix [.dec true, .dec true, .dec true, .dec true, .dec true, .dec true, .dec true, .dec true, .dec true] [] [] (via (finP (And.intro (And.intro (And.intro (And.intro (And.intro (And.intro (And.intro (And.intro (And.intro trivial e21) e21) e21) e21) e21) e21) e21) e21) e21) .normal [] (bits_Div64.c4q a0 a1 a2 o17 v19 v20 y5 true)) (by kernel_rfl)))) (fun e21 =>
   Owp.some (triple_way (bits_Div64.cok k) hmix [.dec false, .dec false, .dec false, .dec false, .dec false, .dec false, .dec false, .dec false, .dec false] [] [] (via (finP (And.intro (And.intro (And.intro (And.intro (And.intro (And.intro (And.intro (And.intro (And.intro trivial e21) e21) e21) e21) e21) e21) e21) e21) e21) .normal [] (bits_Div64.c4q a0 a1 a2 o17 v19 v20 y5 (igt (imul .u64 v20 (ibits .and .u64 (ishl .u64 a2 (icv .u64 y5)) (4294967295 : Int))) (iadd .u64 (imul .u64 (4294967296 : Int) v19) (ibits .and .u64 (ishl .u64 a1 (icv .u64 y5)) (4294967295 : Int)))))) (by kernel_rfl))))
noncomputable def bits_Div64.c3p (a0 : Int) (a1 : Int) (a2 : Int) (o17 : Int) (y5 : Int) (v19 : Int) (v20 : Int) : SL := ⟨[(2, (.val T12 (ishl .u64 a2 (icv .u64 y5)))), (8, (.val T12 (icv .u64 y5))), (9, (.val T12 (ishr .u64 (ishl .u64 a2 (icv .u64 y5)) (32 : Int)))), (10, (.val T12 (ibits .and .u64 (ishl .u64 a2 (icv .u64 y5)) (4294967295 : Int)))), (14, (.val T12 (ibits .and .u64 (ishl .u64 a1 (icv .u64 y5)) (4294967295 : Int)))), (15, (.val T12 o17)), (16, (.val T12 v19)), (17, (.val T12 (isub .u64 (iadd .u64 (imul .u64 (ibits .or .u64 (ishl .u64 a0 (icv .u64 y5)) (ishr .u64 a1 (isub .u64 (64 : Int) (icv .u64 y5)))) (4294967296 : Int)) (ishr .u64 (ishl .u64 a1 (icv .u64 y5)) (32 : Int))) (imul .u64 o17 (ishl .u64 a2 (icv .u64 y5)))))), (18, (.val T12 v20))], []⟩
noncomputable def bits_Div64.c3q (a0 : Int) (a1 : Int) (a2 : Int) (o17 : Int) (y5 : Int) (o : Int) : SL := (fun v => ⟨[(2, (.val T12 (ishl .u64 a2 (icv .u64 y5)))), (8, (.val T12 (icv .u64 y5))), (14, (.val T12 (ibits .and .u64 (ishl .u64 a1 (icv .u64 y5)) (4294967295 : Int)))), (15, (.val T12 o17)), (17, (.val T12 (isub .u64 (iadd .u64 (imul .u64 (ibits .or .u64 (ishl .u64 a0 (icv .u64 y5)) (ishr .u64 a1 (isub .u64 (64 : Int) (icv .u64 y5)))) (4294967296 : Int)) (ishr .u64 (ishl .u64 a1 (icv .u64 y5)) (32 : Int))) (imul .u64 o17 (ishl .u64 a2 (icv .u64 y5)))))), (18, (.val T12 v))], []⟩) o
noncomputable def bits_Div64.c3x (o : Int) : Ex := (fun _ => (.exit 2)) o
noncomputable def bits_Div64.c3n (o : Int) : Nat := (fun _ => 0) o
theorem bits_Div64.c3_ok (k : Nat) (a0 : Int) (a1 : Int) (a2 : Int) (o17 : Int) (y5 : Int) : ∀ (n : Nat) (v19 : Int) (v20 : Int), Owp (bits_Div64.c3 k a1 a2 y5 n v19 v20) fun o => LTriple PR (bits_Div64.cx k) (sub bits_Div64.code [1, 1, 1, 1, 1, 1, 1, 1, 1, 1, 1, 1, 1, 1, 1, 1, 1, 1, 0, 0, 0]) 0 (bits_Div64.c3p a0 a1 a2 o17 y5 v19 v20) (bits_Div64.c3x o) (bits_Div64.c3n o) (bits_Div64.c3q a0 a1 a2 o17 y5 o)
  | 0, _, _ => fun _ h => nomatch h
  | n + 1, v19, v20 => Owp.of (bits_Div64.c3.eq_2 ..) (
   Owp.bnd fun o22 e23 =>
   Owp.bif (fun e24 =>
   Owp.bif (fun e25 =>
    Owp.some (loop_exit (bits_Div64.cok k) hmix [.cutR 24 ⟨[], [], (bits_Div64.c4p a0 a1 a2 o17 v19 v20 y5), 0, .normal, (bits_Div64.c4q a0 a1 a2 o17 v19 v20 y5 o22), 0⟩, .dec true, .dec true] [] [] (exne 2) (via (cutP trivial [] (bits_Div64.c4p a0 a1 a2 o17 v19 v20 y5) (((bits_Div64.c4_ok k a0 a1 a2 o17 v19 v20 y5).ap e23)) (finP (And.intro (And.intro trivial e24) e25) (.exit 2) [] (bits_Div64.c3q a0 a1 a2 o17 y5 (isub .u64 v20 (1 : Int))))) (by kernel_rfl)))) (fun e25 =>
    fun y hy => loop_back (bits_Div64.cok k) hmix 0 (bits_Div64.c3p a0 a1 a2 o17 y5 (iadd .u64 v19 (ishr .u64 (ishl .u64 a2 (icv .u64 y5)) (32 : Int))) (isub .u64 v20 (1 : Int))) [.cutR 24 ⟨[], [], (bits_Div64.c4p a0 a1 a2 o17 v19 v20 y5), 0, .normal, (bits_Div64.c4q a0 a1 a2 o17 v19 v20 y5 o22), 0⟩, .dec true, .dec false] [] [] (via (cutP trivial [] (bits_Div64.c4p a0 a1 a2 o17 v19 v20 y5) (((bits_Div64.c4_ok k a0 a1 a2 o17 v19 v20 y5).ap e23)) (finP (And.intro (And.intro trivial e24) e25) .normal [] (bits_Div64.c3p a0 a1 a2 o17 y5 (iadd .u64 v19 (ishr .u64 (ishl .u64 a2 (icv .u64 y5)) (32 : Int))) (isub .u64 v20 (1 : Int))))) (by kernel_rfl)) ((bits_Div64.c3_ok k a0 a1 a2 o17 y5 n (iadd .u64 v19 (ishr .u64 (ishl .u64 a2 (icv .u64 y5)) (32 : Int))) (isub .u64 v20 (1 : Int))).ap hy))) (fun e24 =>
   Owp.some (loop_exit (bits_Div64.cok k) hmix [.cutR 24 ⟨[], [], (bits_Div64.c4p a0 a1 a2 o17 v19 v20 y5), 0, .normal, (bits_Div64.c4q a0 a1 a2 o17 v19 v20 y5 o22), 0⟩, .dec false] [] [] (exne 2) (via (cutP trivial [] (bits_Div64.c4p a0 a1 a2 o17 v19 v20 y5) (((bits_Div64.c4_ok k a0 a1 a2 o17 v19 v20 y5).ap e23)) (finP (And.intro trivial e24) (.exit 2) [] (bits_Div64.c3q a0 a1 a2 o17 y5 v20))) (by kernel_rfl)))))
theorem bits_Div64.way (k : Nat) (a0 : Int) (a1 : Int) (a2 : Int) : Owp (bits_Div64 k a0 a1 a2) fun y => ∃ answers cmds, exec PR (bits_Div64.cx k) bits_Div64.code 0 (entry (.pair T12 (.pair T12 (.pair T12 .unit))) (a0, a1, a2, ())).st answers (Ret (bits_Div64.cx k) Try.f151 cmds (.more (.dp T12) (.one (.dp T12))) y) := by
  unfold bits_Div64; exact
   Owp.bif (fun e1 =>
   Owp.none) (fun e1 =>
   Owp.bif (fun e2 =>
    Owp.none) (fun e2 =>
    Owp.bif (fun e3 =>
     Owp.req fun h4 =>
      Owp.some (⟨[.dec false, .dec false, .dec true], [], via (retP (And.intro (And.intro (And.intro (And.intro (And.intro trivial e1) e2) e3) h4) h4) (.more (.dp T12) (.one (.dp T12))) (((iquo .u64 a1 a2), (irem a1 a2)) : (Int × Int))) (by kernel_rfl)⟩)) (fun e3 =>
     Owp.bnd fun y5 e6 =>
      Owp.req fun h7 =>
      Owp.req fun h8 =>
      Owp.req fun h9 =>
      Owp.bnd fun o17 e18 =>
      Owp.bnd fun o26 e27 =>
      Owp.some (⟨[.dec false, .dec false, .dec false, .res (.one (.dp T2)) y5, .cut ⟨[], [], (bits_Div64.c1p a0 a1 a2 y5 (iquo .u64 (ibits .or .u64 (ishl .u64 a0 (icv .u64 y5)) (ishr .u64 a1 (isub .u64 (64 : Int) (icv .u64 y5)))) (ishr .u64 (ishl .u64 a2 (icv .u64 y5)) (32 : Int))) (isub .u64 (ibits .or .u64 (ishl .u64 a0 (icv .u64 y5)) (ishr .u64 a1 (isub .u64 (64 : Int) (icv .u64 y5)))) (imul .u64 (iquo .u64 (ibits .or .u64 (ishl .u64 a0 (icv .u64 y5)) (ishr .u64 a1 (isub .u64 (64 : Int) (icv .u64 y5)))) (ishr .u64 (ishl .u64 a2 (icv .u64 y5)) (32 : Int))) (ishr .u64 (ishl .u64 a2 (icv .u64 y5)) (32 : Int))))), 0, (.exit 0), (bits_Div64.c1q a0 a1 a2 y5 o17), 0⟩, .cut ⟨[], [], (bits_Div64.c3p a0 a1 a2 o17 y5 (isub .u64 (isub .u64 (iadd .u64 (imul .u64 (ibits .or .u64 (ishl .u64 a0 (icv .u64 y5)) (ishr .u64 a1 (isub .u64 (64 : Int) (icv .u64 y5)))) (4294967296 : Int)) (ishr .u64 (ishl .u64 a1 (icv .u64 y5)) (32 : Int))) (imul .u64 o17 (ishl .u64 a2 (icv .u64 y5)))) (imul .u64 (iquo .u64 (isub .u64 (iadd .u64 (imul .u64 (ibits .or .u64 (ishl .u64 a0 (icv .u64 y5)) (ishr .u64 a1 (isub .u64 (64 : Int) (icv .u64 y5)))) (4294967296 : Int)) (ishr .u64 (ishl .u64 a1 (icv .u64 y5)) (32 : Int))) (imul .u64 o17 (ishl .u64 a2 (icv .u64 y5)))) (ishr .u64 (ishl .u64 a2 (icv .u64 y5)) (32 : Int))) (ishr .u64 (ishl .u64 a2 (icv .u64 y5)) (32 : Int)))) (iquo .u64 (isub .u64 (iadd .u64 (imul .u64 (ibits .or .u64 (ishl .u64 a0 (icv .u64 y5)) (ishr .u64 a1 (isub .u64 (64 : Int) (icv .u64 y5)))) (4294967296 : Int)) (ishr .u64 (ishl .u64 a1 (icv .u64 y5)) (32 : Int))) (imul .u64 o17 (ishl .u64 a2 (icv .u64 y5)))) (ishr .u64 (ishl .u64 a2 (icv .u64 y5)) (32 : Int)))), 0, (.exit 2), (bits_Div64.c3q a0 a1 a2 o17 y5 o26), 0⟩], [], via (cutP (And.intro (And.intro (And.intro (And.intro (And.intro (And.intro (And.intro (And.intro (And.intro (And.intro (And.intro trivial e1) e2) e3) e6) h7) (by decide : ng (32 : Int))) h7) h8) h7) (by decide : ng (32 : Int))) h9) [] (bits_Div64.c1p a0 a1 a2 y5 (iquo .u64 (ibits .or .u64 (ishl .u64 a0 (icv .u64 y5)) (ishr .u64 a1 (isub .u64 (64 : Int) (icv .u64 y5)))) (ishr .u64 (ishl .u64 a2 (icv .u64 y5)) (32 : Int))) (isub .u64 (ibits .or .u64 (ishl .u64 a0 (icv .u64 y5)) (ishr .u64 a1 (isub .u64 (64 : Int) (icv .u64 y5)))) (imul .u64 (iquo .u64 (ibits .or .u64 (ishl .u64 a0 (icv .u64 y5)) (ishr .u64 a1 (isub .u64 (64 : Int) (icv .u64 y5)))) (ishr .u64 (ishl .u64 a2 (icv .u64 y5)) (32 : Int))) (ishr .u64 (ishl .u64 a2 (icv .u64 y5)) (32 : Int))))) (((bits_Div64.c1_ok k a0 a1 a2 y5 k (iquo .u64 (ibits .or .u64 (ishl .u64 a0 (icv .u64 y5)) (ishr .u64 a1 (isub .u64 (64 : Int) (icv .u64 y5)))) (ishr .u64 (ishl .u64 a2 (icv .u64 y5)) (32 : Int))) (isub .u64 (ibits .or .u64 (ishl .u64 a0 (icv .u64 y5)) (ishr .u64 a1 (isub .u64 (64 : Int) (icv .u64 y5)))) (imul .u64 (iquo .u64 (ibits .or .u64 (ishl .u64 a0 (icv .u64 y5)) (ishr .u64 a1 (isub .u64 (64 : Int) (icv .u64 y5)))) (ishr .u64 (ishl .u64 a2 (icv .u64 y5)) (32 : Int))) (ishr .u64 (ishl .u64 a2 (icv .u64 y5)) (32 : Int))))).ap e18).triple) (cutP (And.intro trivial h9) [] (bits_Div64.c3p a0 a1 a2 o17 y5 (isub .u64 (isub .u64 (iadd .u64 (imul .u64 (ibits .or .u64 (ishl .u64 a0 (icv .u64 y5)) (ishr .u64 a1 (isub .u64 (64 : Int) (icv .u64 y5)))) (4294967296 : Int)) (ishr .u64 (ishl .u64 a1 (icv .u64 y5)) (32 : Int))) (imul .u64 o17 (ishl .u64 a2 (icv .u64 y5)))) (imul .u64 (iquo .u64 (isub .u64 (iadd .u64 (imul .u64 (ibits .or .u64 (ishl .u64 a0 (icv .u64 y5)) (ishr .u64 a1 (isub .u64 (64 : Int) (icv .u64 y5)))) (4294967296 : Int)) (ishr .u64 (ishl .u64 a1 (icv .u64 y5)) (32 : Int))) (imul .u64 o17 (ishl .u64 a2 (icv .u64 y5)))) (ishr .u64 (ishl .u64 a2 (icv .u64 y5)) (32 : Int))) (ishr .u64 (ishl .u64 a2 (icv .u64 y5)) (32 : Int)))) (iquo .u64 (isub .u64 (iadd .u64 (imul .u64 (ibits .or .u64 (ishl .u64 a0 (icv .u64 y5)) (ishr .u64 a1 (isub .u64 (64 : Int) (icv .u64 y5)))) (4294967296 : Int)) (ishr .u64 (ishl .u64 a1 (icv .u64 y5)) (32 : Int))) (imul .u64 o17 (ishl .u64 a2 (icv .u64 y5)))) (ishr .u64 (ishl .u64 a2 (icv .u64 y5)) (32 : Int)))) (((bits_Div64.c3_ok k a0 a1 a2 o17 y5 k (isub .u64 (isub .u64 (iadd .u64 (imul .u64 (ibits .or .u64 (ishl .u64 a0 (icv .u64 y5)) (ishr .u64 a1 (isub .u64 (64 : Int) (icv .u64 y5)))) (4294967296 : Int)) (ishr .u64 (ishl .u64 a1 (icv .u64 y5)) (32 : Int))) (imul .u64 o17 (ishl .u64 a2 (icv .u64 y5)))) (imul .u64 (iquo .u64 (isub .u64 (iadd .u64 (imul .u64 (ibits .or .u64 (ishl .u64 a0 (icv .u64 y5)) (ishr .u64 a1 (isub .u64 (64 : Int) (icv .u64 y5)))) (4294967296 : Int)) (ishr .u64 (ishl .u64 a1 (icv .u64 y5)) (32 : Int))) (imul .u64 o17 (ishl .u64 a2 (icv .u64 y5)))) (ishr .u64 (ishl .u64 a2 (icv .u64 y5)) (32 : Int))) (ishr .u64 (ishl .u64 a2 (icv .u64 y5)) (32 : Int)))) (iquo .u64 (isub .u64 (iadd .u64 (imul .u64 (ibits .or .u64 (ishl .u64 a0 (icv .u64 y5)) (ishr .u64 a1 (isub .u64 (64 : Int) (icv .u64 y5)))) (4294967296 : Int)) (ishr .u64 (ishl .u64 a1 (icv .u64 y5)) (32 : Int))) (imul .u64 o17 (ishl .u64 a2 (icv .u64 y5)))) (ishr .u64 (ishl .u64 a2 (icv .u64 y5)) (32 : Int)))).ap e27).triple) (retP (And.intro trivial h7) (.more (.dp T12) (.one (.dp T12))) (((iadd .u64 (imul .u64 o17 (4294967296 : Int)) o26), (ishr .u64 (isub .u64 (iadd .u64 (imul .u64 (isub .u64 (iadd .u64 (imul .u64 (ibits .or .u64 (ishl .u64 a0 (icv .u64 y5)) (ishr .u64 a1 (isub .u64 (64 : Int) (icv .u64 y5)))) (4294967296 : Int)) (ishr .u64 (ishl .u64 a1 (icv .u64 y5)) (32 : Int))) (imul .u64 o17 (ishl .u64 a2 (icv .u64 y5)))) (4294967296 : Int)) (ibits .and .u64 (ishl .u64 a1 (icv .u64 y5)) (4294967295 : Int))) (imul .u64 o26 (ishl .u64 a2 (icv .u64 y5)))) (icv .u64 y5))) : (Int × Int))))) (by kernel_rfl)⟩))))
theorem bits_Div64.ok (k : Nat) : FnOk PR 151 (bits_Div64.sp k) :=
  fn_ok (bits_Div64.cok k) hmix Try.func151 (code := bits_Div64.code) (by kernel_rfl) (by kernel_rfl) (by kernel_rfl) rfl (by kernel_rfl) (by kernel_rfl) (by kernel_rfl) (fun x => Nat.le_of_ble_eq_true (by kernel_rfl)) fun x y hy => (bits_Div64.way k x.1 x.2.1 x.2.2.1).ap hy

/-! (tourney/poly.Wide).Over -/
noncomputable def poly_Wide_Over.code : Code := Func.cd Try.f113
def poly_Wide_Over.c1 (k : Nat) (a0 : V108) : Option (V108) :=
  bif' (ilt a0.1 0)
  (bnd (poly_Wide_Minus k (0, 0, ()) a0) fun y3 =>
   some y3)
  (some a0)
def poly_Wide_Over.c2 (k : Nat) (a0 : V108) (a1 : Int) : Option ((Bool × Int)) :=
  bif' (ilt a1 0)
  (some ((!(ilt a0.1 0)), (ineg .u64 (icv .u64 a1))))
  (some ((ilt a0.1 0), (icv .u64 a1)))
def poly_Wide_Over.c3 (k : Nat) (o8 : (Bool × Int)) (y11 : (Int × Int)) : Option (Bool) :=
  bif' (igt y11.2 (isub .u64 o8.2 y11.2))
  (some true)
  (bif' (ieq y11.2 (isub .u64 o8.2 y11.2))
   (some (!o8.1))
   (some false))
def poly_Wide_Over.c4 (k : Nat) (o15 : Bool) (y11 : (Int × Int)) : Option (Unit ⊕ Int) :=
  bif' o15
  (bif' (ieq (iadd .u64 y11.1 1) 0)
   (some (.inl ()))
   (some (.inr (iadd .u64 y11.1 1))))
  (some (.inr y11.1))
def poly_Wide_Over.c5 (k : Nat) (o8 : (Bool × Int)) (y23 : Int) : Option (Bool) :=
  bif' o8.1
  (some (ile y23 9223372036854775808))
  (some false)
def poly_Wide_Over.c6 (k : Nat) (o8 : (Bool × Int)) (y23 : Int) : Option (Bool) :=
  bif' o8.1
  (some false)
  (some (ilt y23 9223372036854775808))
def poly_Wide_Over (k : Nat) (a0 : V108) (a1 : Int) : Option (Int × Int) :=
  bif' (ieq a1 0)
  (some (0, 17))
  (bnd (poly_Wide_Over.c1 k a0) fun o5 =>
   bnd (poly_Wide_Over.c2 k a0 a1) fun o8 =>
   bif' (ige (icv .u64 o5.1) o8.2)
   (some (0, 2))
   (bnd (bits_Div64 k (icv .u64 o5.1) o5.2.1 o8.2) fun y11 =>
    bnd (poly_Wide_Over.c3 k o8 y11) fun o15 =>
    bnd (poly_Wide_Over.c4 k o15 y11) fun o19 =>
    two o19 (fun y21 =>
    some (0, 2)) (fun y23 =>
    bnd (poly_Wide_Over.c5 k o8 y23) fun o26 =>
     bif' o26
     (some ((icv .i64 (ineg .u64 y23)), 0))
     (bnd (poly_Wide_Over.c6 k o8 y23) fun o30 =>
      bif' o30
      (some ((icv .i64 y23), 0))
      (some (0, 2))))))
noncomputable def poly_Wide_Over.sp (k : Nat) : Go.Sx.Spec := ⟨(.pair T108 (.pair T2 .unit)), (.more (.dp T2) (.one (.dp T2))), fun x => poly_Wide_Over k x.1 x.2.1, false⟩
noncomputable def poly_Wide_Over.cx (k : Nat) : Go.Sx.Ctx := ⟨tys, [(150, poly_Wide_Minus.sp k), (151, bits_Div64.sp k)], eqs, 82, false⟩
theorem poly_Wide_Over.cok (k : Nat) : CtxOk PR (poly_Wide_Over.cx k) := ctx_ok tysOk eqsOk (FnsOk.cons (poly_Wide_Minus.ok k) (FnsOk.cons (bits_Div64.ok k) FnsOk.nil))
noncomputable def poly_Wide_Over.c1p (a0 : V108) (a1 : Int) : SL := ⟨[(1, (.val T2 a1)), (2, (.val .ptr ⟨0, 0, (0 : Int), 0, 0⟩)), (6, (.val T4 (ilt a0.1 (0 : Int)))), (17, (.val T4 (ilt a0.1 (0 : Int))))], [(0, .cells T108 a0)]⟩
noncomputable def poly_Wide_Over.c1q (a0 : V108) (a1 : Int) (o : V108) : SL := (fun v => ⟨[(1, (.val T2 a1)), (2, (.val .ptr ⟨0, 0, (0 : Int), 0, 0⟩)), (6, (.val T4 (ilt a0.1 (0 : Int))))], [(0, .cells T108 v)]⟩) o
noncomputable def poly_Wide_Over.c1x (o : V108) : Ex := (fun _ => .normal) o
noncomputable def poly_Wide_Over.c1n (o : V108) : Nat := (fun _ => 1) o
theorem poly_Wide_Over.c1_ok (k : Nat) (a0 : V108) (a1 : Int) : Owp (poly_Wide_Over.c1 k a0) fun o => Triple PR (poly_Wide_Over.cx k) (sub poly_Wide_Over.code [1, 1, 1, 0, 1]) 1 (poly_Wide_Over.c1p a0 a1) (poly_Wide_Over.c1x o) (poly_Wide_Over.c1n o) (poly_Wide_Over.c1q a0 a1 o) := by
  unfold poly_Wide_Over.c1; exact
   Owp.bif (fun e2 =>
   Owp.bnd fun y3 e4 =>
    Owp.some (triple_way (poly_Wide_Over.cok k) hmix [.dec true, .res (.one (.dp T108)) y3] [] [(0, 0)] (via (finP (And.intro (And.intro trivial e2) e4) .normal [(0, 0)] (poly_Wide_Over.c1q a0 a1 y3)) (by kernel_rfl)))) (fun e2 =>
   Owp.some (triple_way (poly_Wide_Over.cok k) hmix [.dec false] [] [(0, 0)] (via (finP (And.intro trivial e2) .normal [(0, 0)] (poly_Wide_Over.c1q a0 a1 a0)) (by kernel_rfl))))
noncomputable def poly_Wide_Over.c2p (a0 : V108) (a1 : Int) (o5 : V108) : SL := ⟨[(2, (.val .ptr ⟨0, 0, (0 : Int), 0, 0⟩)), (6, (.val T4 (ilt a0.1 (0 : Int)))), (7, (.val T12 (icv .u64 a1))), (24, (.val T4 (ilt a1 (0 : Int))))], [(0, .cells T108 o5)]⟩
noncomputable def poly_Wide_Over.c2q (o5 : V108) (o : (Bool × Int)) : SL := (fun v => ⟨[(2, (.val .ptr ⟨0, 0, (0 : Int), 0, 0⟩)), (6, (.val T4 v.1)), (7, (.val T12 v.2))], [(0, .cells T108 o5)]⟩) o
noncomputable def poly_Wide_Over.c2x (o : (Bool × Int)) : Ex := (fun _ => .normal) o
noncomputable def poly_Wide_Over.c2n (o : (Bool × Int)) : Nat := (fun _ => 1) o
theorem poly_Wide_Over.c2_ok (k : Nat) (a0 : V108) (a1 : Int) (o5 : V108) : Owp (poly_Wide_Over.c2 k a0 a1) fun o => Triple PR (poly_Wide_Over.cx k) (sub poly_Wide_Over.code [1, 1, 1, 1, 1, 0, 1]) 1 (poly_Wide_Over.c2p a0 a1 o5) (poly_Wide_Over.c2x o) (poly_Wide_Over.c2n o) (poly_Wide_Over.c2q o5 o) := by
  unfold poly_Wide_Over.c2; exact
   Owp.bif (fun e7 =>
   Owp.some (triple_way (poly_Wide_Over.cok k) hmix [.dec true] [] [(0, 0)] (via (finP (And.intro trivial e7) .normal [(0, 0)] (poly_Wide_Over.c2q o5 ((!(ilt a0.1 (0 : Int))), (ineg .u64 (icv .u64 a1))))) (by kernel_rfl)))) (fun e7 =>
   Owp.some (triple_way (poly_Wide_Over.cok k) hmix [.dec false] [] [(0, 0)] (via (finP (And.intro trivial e7) .normal [(0, 0)] (poly_Wide_Over.c2q o5 ((ilt a0.1 (0 : Int)), (icv .u64 a1)))) (by kernel_rfl))))
noncomputable def poly_Wide_Over.c3p (o8 : (Bool × Int)) (y11 : (Int × Int)) : SL := ⟨[(6, (.val T4 o8.1)), (7, (.val T12 o8.2)), (9, (.val T12 y11.1)), (10, (.val T12 y11.2))], []⟩
noncomputable def poly_Wide_Over.c3q (o8 : (Bool × Int)) (y11 : (Int × Int)) (o : Bool) : SL := (fun v => ⟨[(6, (.val T4 o8.1)), (9, (.val T12 y11.1)), (11, (.val T4 v))], []⟩) o
noncomputable def poly_Wide_Over.c3x (o : Bool) : Ex := (fun _ => .normal) o
noncomputable def poly_Wide_Over.c3n (o : Bool) : Nat := (fun _ => 0) o
theorem poly_Wide_Over.c3_ok (k : Nat) (o8 : (Bool × Int)) (y11 : (Int × Int)) : Owp (poly_Wide_Over.c3 k o8 y11) fun o => Triple PR (poly_Wide_Over.cx k) (sub poly_Wide_Over.code [1, 1, 1, 1, 1, 1, 1, 1, 1, 0]) 0 (poly_Wide_Over.c3p o8 y11) (poly_Wide_Over.c3x o) (poly_Wide_Over.c3n o) (poly_Wide_Over.c3q o8 y11 o) := by
  unfold poly_Wide_Over.c3; exact
   Owp.bif (fun e13 =>
   Owp.some (triple_way (poly_Wide_Over.cok k) hmix [.dec true, .dec true, .dec true, .dec true, .dec true, .dec true, .dec true, .dec true, .dec true, .dec true, .dec true] [] [] (via (finP (And.intro (And.intro (And.intro (And.intro (And.intro (And.intro (And.intro (And.intro trivial e13) e13) e13) e13) e13) e13) e13) e13) .normal [] (poly_Wide_Over.c3q o8 y11 true)) (by kernel_rfl)))) (fun e13 =>
   Owp.bif (fun e14 =>
    Owp.some (triple_way (poly_Wide_Over.cok k) hmix [.dec false, .dec false, .dec false, .dec false, .dec false, .dec false, .dec true, .dec true, .dec false, .dec true, .dec false] [] [] (via (finP (And.intro (And.intro (And.intro (And.intro (And.intro (And.intro (And.intro (And.intro (And.intro (And.intro trivial e13) e13) e13) e13) e13) e13) e14) e14) (And.intro e13 e14)) e13) .normal [] (poly_Wide_Over.c3q o8 y11 (!o8.1))) (by kernel_rfl)))) (fun e14 =>
    Owp.some (triple_way (poly_Wide_Over.cok k) hmix [.dec false, .dec false, .dec false, .dec false, .dec false, .dec false, .dec false, .dec false, .dec false, .dec false, .dec false] [] [] (via (finP (And.intro (And.intro (And.intro (And.intro (And.intro (And.intro (And.intro (And.intro (And.intro (And.intro trivial e13) e13) e13) e13) e13) e13) e14) e14) (And.intro e13 e14)) e13) .normal [] (poly_Wide_Over.c3q o8 y11 false)) (by kernel_rfl)))))
noncomputable def poly_Wide_Over.c4p (o8 : (Bool × Int)) (o15 : Bool) (y11 : (Int × Int)) : SL := ⟨[(6, (.val T4 o8.1)), (9, (.val T12 y11.1)), (59, (.val T4 o15))], []⟩
noncomputable def poly_Wide_Over.c4q (o8 : (Bool × Int)) (o : Unit ⊕ Int) : SL := (fun o => two o (fun v => ⟨[(4, (.val T2 (0 : Int))), (5, (.val T2 (2 : Int)))], []⟩) (fun v => ⟨[(6, (.val T4 o8.1)), (9, (.val T12 v))], []⟩)) o
noncomputable def poly_Wide_Over.c4x (o : Unit ⊕ Int) : Ex := (fun o => two o (fun _ => .ret) (fun _ => .normal)) o
noncomputable def poly_Wide_Over.c4n (o : Unit ⊕ Int) : Nat := (fun o => two o (fun _ => 0) (fun _ => 0)) o
theorem poly_Wide_Over.c4_ok (k : Nat) (o8 : (Bool × Int)) (o15 : Bool) (y11 : (Int × Int)) : Owp (poly_Wide_Over.c4 k o15 y11) fun o => Triple PR (poly_Wide_Over.cx k) (sub poly_Wide_Over.code [1, 1, 1, 1, 1, 1, 1, 1, 1, 1, 0, 1]) 0 (poly_Wide_Over.c4p o8 o15 y11) (poly_Wide_Over.c4x o) (poly_Wide_Over.c4n o) (poly_Wide_Over.c4q o8 o) := by
  unfold poly_Wide_Over.c4; exact
   Owp.bif (fun e17 =>
   Owp.bif (fun e18 =>
    Owp.some (triple_way (poly_Wide_Over.cok k) hmix [.dec true, .dec true] [] [] (via (finP (And.intro (And.intro trivial e17) e18) .ret [] (poly_Wide_Over.c4q o8 (.inl ()))) (by kernel_rfl)))) (fun e18 =>
    Owp.some (triple_way (poly_Wide_Over.cok k) hmix [.dec true, .dec false] [] [] (via (finP (And.intro (And.intro trivial e17) e18) .normal [] (poly_Wide_Over.c4q o8 (.inr (iadd .u64 y11.1 (1 : Int))))) (by kernel_rfl))))) (fun e17 =>
   Owp.some (triple_way (poly_Wide_Over.cok k) hmix [.dec false] [] [] (via (finP (And.intro trivial e17) .normal [] (poly_Wide_Over.c4q o8 (.inr y11.1))) (by kernel_rfl))))
noncomputable def poly_Wide_Over.c5p (o8 : (Bool × Int)) (y23 : Int) : SL := ⟨[(6, (.val T4 o8.1)), (9, (.val T12 y23))], []⟩
noncomputable def poly_Wide_Over.c5q (o8 : (Bool × Int)) (y23 : Int) (o : Bool) : SL := (fun v => ⟨[(6, (.val T4 o8.1)), (9, (.val T12 y23)), (64, (.val T4 v))], []⟩) o
noncomputable def poly_Wide_Over.c5x (o : Bool) : Ex := (fun _ => .normal) o
noncomputable def poly_Wide_Over.c5n (o : Bool) : Nat := (fun _ => 0) o
theorem poly_Wide_Over.c5_ok (k : Nat) (o8 : (Bool × Int)) (y23 : Int) : Owp (poly_Wide_Over.c5 k o8 y23) fun o => Triple PR (poly_Wide_Over.cx k) (sub poly_Wide_Over.code [1, 1, 1, 1, 1, 1, 1, 1, 1, 1, 1, 0, 0, 0]) 0 (poly_Wide_Over.c5p o8 y23) (poly_Wide_Over.c5x o) (poly_Wide_Over.c5n o) (poly_Wide_Over.c5q o8 y23 o) := by
  unfold poly_Wide_Over.c5; exact
   Owp.bif (fun e25 =>
   Owp.some (triple_way (poly_Wide_Over.cok k) hmix [.dec true, .dec true, .dec true] [] [] (via (finP (And.intro (And.intro (And.intro trivial e25) e25) e25) .normal [] (poly_Wide_Over.c5q o8 y23 (ile y23 (9223372036854775808 : Int)))) (by kernel_rfl)))) (fun e25 =>
   Owp.some (triple_way (poly_Wide_Over.cok k) hmix [.dec false, .dec false, .dec false] [] [] (via (finP (And.intro (And.intro (And.intro trivial e25) e25) e25) .normal [] (poly_Wide_Over.c5q o8 y23 false)) (by kernel_rfl))))
noncomputable def poly_Wide_Over.c6p (o8 : (Bool × Int)) (y23 : Int) : SL := ⟨[(6, (.val T4 o8.1)), (9, (.val T12 y23))], []⟩
noncomputable def poly_Wide_Over.c6q (y23 : Int) (o : Bool) : SL := (fun v => ⟨[(9, (.val T12 y23)), (73, (.val T4 v))], []⟩) o
noncomputable def poly_Wide_Over.c6x (o : Bool) : Ex := (fun _ => .normal) o
noncomputable def poly_Wide_Over.c6n (o : Bool) : Nat := (fun _ => 0) o
theorem poly_Wide_Over.c6_ok (k : Nat) (o8 : (Bool × Int)) (y23 : Int) : Owp (poly_Wide_Over.c6 k o8 y23) fun o => Triple PR (poly_Wide_Over.cx k) (sub poly_Wide_Over.code [1, 1, 1, 1, 1, 1, 1, 1, 1, 1, 1, 0, 0, 1, 1, 0]) 0 (poly_Wide_Over.c6p o8 y23) (poly_Wide_Over.c6x o) (poly_Wide_Over.c6n o) (poly_Wide_Over.c6q y23 o) := by
  unfold poly_Wide_Over.c6; exact
   Owp.bif (fun e29 =>
   Owp.some (triple_way (poly_Wide_Over.cok k) hmix [.dec false, .dec false, .dec false] [] [] (via (finP (And.intro (And.intro (And.intro trivial (congrArg not e29)) (congrArg not e29)) (congrArg not e29)) .normal [] (poly_Wide_Over.c6q y23 false)) (by kernel_rfl)))) (fun e29 =>
   Owp.some (triple_way (poly_Wide_Over.cok k) hmix [.dec true, .dec true, .dec true] [] [] (via (finP (And.intro (And.intro (And.intro trivial (congrArg not e29)) (congrArg not e29)) (congrArg not e29)) .normal [] (poly_Wide_Over.c6q y23 (ilt y23 (9223372036854775808 : Int)))) (by kernel_rfl))))
theorem poly_Wide_Over.way (k : Nat) (a0 : V108) (a1 : Int) : Owp (poly_Wide_Over k a0 a1) fun y => ∃ answers cmds, exec PR (poly_Wide_Over.cx k) poly_Wide_Over.code 0 (entry (.pair T108 (.pair T2 .unit)) (a0, a1, ())).st answers (Ret (poly_Wide_Over.cx k) Try.f113 cmds (.more (.dp T2) (.one (.dp T2))) y) := by
  unfold poly_Wide_Over; exact
   Owp.bif (fun e1 =>
   Owp.some (⟨[.dec true], [], via (retP (And.intro trivial e1) (.more (.dp T2) (.one (.dp T2))) (((0 : Int), (17 : Int)) : (Int × Int))) (by kernel_rfl)⟩)) (fun e1 =>
   Owp.bnd fun o5 e6 =>
    Owp.bnd fun o8 e9 =>
    Owp.bif (fun e10 =>
    Owp.some (⟨[.dec false, .cut ⟨[], [(0, 0)], (poly_Wide_Over.c1p a0 a1), 1, .normal, (poly_Wide_Over.c1q a0 a1 o5), 1⟩, .cut ⟨[], [(0, 0)], (poly_Wide_Over.c2p a0 a1 o5), 1, .normal, (poly_Wide_Over.c2q o5 o8), 1⟩, .dec true], [], via (cutP (And.intro trivial e1) [(0, 0)] (poly_Wide_Over.c1p a0 a1) (((poly_Wide_Over.c1_ok k a0 a1).ap e6)) (cutP trivial [(0, 0)] (poly_Wide_Over.c2p a0 a1 o5) (((poly_Wide_Over.c2_ok k a0 a1 o5).ap e9)) (retP (And.intro trivial e10) (.more (.dp T2) (.one (.dp T2))) (((0 : Int), (2 : Int)) : (Int × Int))))) (by kernel_rfl)⟩)) (fun e10 =>
    Owp.bnd fun y11 e12 =>
     Owp.bnd fun o15 e16 =>
     Owp.bnd fun o19 e20 =>
     Owp.two (fun y21 e22 =>
     Owp.some (⟨[.dec false, .cut ⟨[], [(0, 0)], (poly_Wide_Over.c1p a0 a1), 1, .normal, (poly_Wide_Over.c1q a0 a1 o5), 1⟩, .cut ⟨[], [(0, 0)], (poly_Wide_Over.c2p a0 a1 o5), 1, .normal, (poly_Wide_Over.c2q o5 o8), 1⟩, .dec false, .res (.more (.dp T12) (.one (.dp T12))) y11, .cutR 13 ⟨[], [], (poly_Wide_Over.c3p o8 y11), 0, .normal, (poly_Wide_Over.c3q o8 y11 o15), 0⟩, .cut ⟨[], [], (poly_Wide_Over.c4p o8 o15 y11), 0, .ret, (poly_Wide_Over.c4q o8 (.inl ())), 0⟩], [], via (cutP (And.intro trivial e1) [(0, 0)] (poly_Wide_Over.c1p a0 a1) (((poly_Wide_Over.c1_ok k a0 a1).ap e6)) (cutP trivial [(0, 0)] (poly_Wide_Over.c2p a0 a1 o5) (((poly_Wide_Over.c2_ok k a0 a1 o5).ap e9)) (cutP (And.intro (And.intro trivial e10) e12) [] (poly_Wide_Over.c3p o8 y11) (((poly_Wide_Over.c3_ok k o8 y11).ap e16)) (cutP trivial [] (poly_Wide_Over.c4p o8 o15 y11) (((poly_Wide_Over.c4_ok k o8 o15 y11).ap (e20.trans (congrArg some e22)))) (retP trivial (.more (.dp T2) (.one (.dp T2))) (((0 : Int), (2 : Int)) : (Int × Int))))))) (by kernel_rfl)⟩)) (fun y23 e24 =>
     Owp.bnd fun o26 e27 =>
      Owp.bif (fun e28 =>
      Owp.some (⟨[.dec false, .cut ⟨[], [(0, 0)], (poly_Wide_Over.c1p a0 a1), 1, .normal, (poly_Wide_Over.c1q a0 a1 o5), 1⟩, .cut ⟨[], [(0, 0)], (poly_Wide_Over.c2p a0 a1 o5), 1, .normal, (poly_Wide_Over.c2q o5 o8), 1⟩, .dec false, .res (.more (.dp T12) (.one (.dp T12))) y11, .cutR 13 ⟨[], [], (poly_Wide_Over.c3p o8 y11), 0, .normal, (poly_Wide_Over.c3q o8 y11 o15), 0⟩, .cut ⟨[], [], (poly_Wide_Over.c4p o8 o15 y11), 0, .normal, (poly_Wide_Over.c4q o8 (.inr y23)), 0⟩, .cutR 18 ⟨[], [], (poly_Wide_Over.c5p o8 y23), 0, .normal, (poly_Wide_Over.c5q o8 y23 o26), 0⟩, .dec true], [], via (cutP (And.intro trivial e1) [(0, 0)] (poly_Wide_Over.c1p a0 a1) (((poly_Wide_Over.c1_ok k a0 a1).ap e6)) (cutP trivial [(0, 0)] (poly_Wide_Over.c2p a0 a1 o5) (((poly_Wide_Over.c2_ok k a0 a1 o5).ap e9)) (cutP (And.intro (And.intro trivial e10) e12) [] (poly_Wide_Over.c3p o8 y11) (((poly_Wide_Over.c3_ok k o8 y11).ap e16)) (cutP trivial [] (poly_Wide_Over.c4p o8 o15 y11) (((poly_Wide_Over.c4_ok k o8 o15 y11).ap (e20.trans (congrArg some e24)))) (cutP trivial [] (poly_Wide_Over.c5p o8 y23) (((poly_Wide_Over.c5_ok k o8 y23).ap e27)) (retP (And.intro trivial e28) (.more (.dp T2) (.one (.dp T2))) (((icv .i64 (ineg .u64 y23)), (0 : Int)) : (Int × Int)))))))) (by kernel_rfl)⟩)) (fun e28 =>
      Owp.bnd fun o30 e31 =>
       Owp.bif (fun e32 =>
       Owp.some (⟨[.dec false, .cut ⟨[], [(0, 0)], (poly_Wide_Over.c1p a0 a1), 1, .normal, (poly_Wide_Over.c1q a0 a1 o5), 1⟩, .cut ⟨[], [(0, 0)], (poly_Wide_Over.c2p a0 a1 o5), 1, .normal, (poly_Wide_Over.c2q o5 o8), 1⟩, .dec false, .res (.more (.dp T12) (.one (.dp T12))) y11, .cutR 13 ⟨[], [], (poly_Wide_Over.c3p o8 y11), 0, .normal, (poly_Wide_Over.c3q o8 y11 o15), 0⟩, .cut ⟨[], [], (poly_Wide_Over.c4p o8 o15 y11), 0, .normal, (poly_Wide_Over.c4q o8 (.inr y23)), 0⟩, .cutR 18 ⟨[], [], (poly_Wide_Over.c5p o8 y23), 0, .normal, (poly_Wide_Over.c5q o8 y23 o26), 0⟩, .dec false, .cutR 20 ⟨[], [], (poly_Wide_Over.c6p o8 y23), 0, .normal, (poly_Wide_Over.c6q y23 o30), 0⟩, .dec true], [], via (cutP (And.intro trivial e1) [(0, 0)] (poly_Wide_Over.c1p a0 a1) (((poly_Wide_Over.c1_ok k a0 a1).ap e6)) (cutP trivial [(0, 0)] (poly_Wide_Over.c2p a0 a1 o5) (((poly_Wide_Over.c2_ok k a0 a1 o5).ap e9)) (cutP (And.intro (And.intro trivial e10) e12) [] (poly_Wide_Over.c3p o8 y11) (((poly_Wide_Over.c3_ok k o8 y11).ap e16)) (cutP trivial [] (poly_Wide_Over.c4p o8 o15 y11) (((poly_Wide_Over.c4_ok k o8 o15 y11).ap (e20.trans (congrArg some e24)))) (cutP trivial [] (poly_Wide_Over.c5p o8 y23) (((poly_Wide_Over.c5_ok k o8 y23).ap e27)) (cutP (And.intro trivial e28) [] (poly_Wide_Over.c6p o8 y23) (((poly_Wide_Over.c6_ok k o8 y23).ap e31)) (retP (And.intro trivial e32) (.more (.dp T2) (.one (.dp T2))) (((icv .i64 y23), (0 : Int)) : (Int × Int))))))))) (by kernel_rfl)⟩)) (fun e32 =>
       Owp.some (⟨[.dec false, .cut ⟨[], [(0, 0)], (poly_Wide_Over.c1p a0 a1), 1, .normal, (poly_Wide_Over.c1q a0 a1 o5), 1⟩, .cut ⟨[], [(0, 0)], (poly_Wide_Over.c2p a0 a1 o5), 1, .normal, (poly_Wide_Over.c2q o5 o8), 1⟩, .dec false, .res (.more (.dp T12) (.one (.dp T12))) y11, .cutR 13 ⟨[], [], (poly_Wide_Over.c3p o8 y11), 0, .normal, (poly_Wide_Over.c3q o8 y11 o15), 0⟩, .cut ⟨[], [], (poly_Wide_Over.c4p o8 o15 y11), 0, .normal, (poly_Wide_Over.c4q o8 (.inr y23)), 0⟩, .cutR 18 ⟨[], [], (poly_Wide_Over.c5p o8 y23), 0, .normal, (poly_Wide_Over.c5q o8 y23 o26), 0⟩, .dec false, .cutR 20 ⟨[], [], (poly_Wide_Over.c6p o8 y23), 0, .normal, (poly_Wide_Over.c6q y23 o30), 0⟩, .dec false], [], via (cutP (And.intro trivial e1) [(0, 0)] (poly_Wide_Over.c1p a0 a1) (((poly_Wide_Over.c1_ok k a0 a1).ap e6)) (cutP trivial [(0, 0)] (poly_Wide_Over.c2p a0 a1 o5) (((poly_Wide_Over.c2_ok k a0 a1 o5).ap e9)) (cutP (And.intro (And.intro trivial e10) e12) [] (poly_Wide_Over.c3p o8 y11) (((poly_Wide_Over.c3_ok k o8 y11).ap e16)) (cutP trivial [] (poly_Wide_Over.c4p o8 o15 y11) (((poly_Wide_Over.c4_ok k o8 o15 y11).ap (e20.trans (congrArg some e24)))) (cutP trivial [] (poly_Wide_Over.c5p o8 y23) (((poly_Wide_Over.c5_ok k o8 y23).ap e27)) (cutP (And.intro trivial e28) [] (poly_Wide_Over.c6p o8 y23) (((poly_Wide_Over.c6_ok k o8 y23).ap e31)) (retP (And.intro trivial e32) (.more (.dp T2) (.one (.dp T2))) (((0 : Int), (2 : Int)) : (Int × Int))))))))) (by kernel_rfl)⟩))))))
theorem poly_Wide_Over.ok (k : Nat) : FnOk PR 113 (poly_Wide_Over.sp k) :=
  fn_ok (poly_Wide_Over.cok k) hmix Try.func113 (code := poly_Wide_Over.code) (by kernel_rfl) (by kernel_rfl) (by kernel_rfl) rfl (by kernel_rfl) (by kernel_rfl) (by kernel_rfl) (fun x => Nat.le_of_ble_eq_true (by kernel_rfl)) fun x y hy => (poly_Wide_Over.way k x.1 x.2.1).ap hy

/-! (tourney/tourref2.Big).Below -/
noncomputable def tourref2_Big_Below.code : Code := Func.cd Try.f139
def tourref2_Big_Below (k : Nat) (a0 : (List Int)) : Option Bool :=
  some (ieq (ishr .u32 (el 0 a0 7) 15) 1)
noncomputable def tourref2_Big_Below.sp (k : Nat) : Go.Sx.Spec := ⟨(.pair T113 .unit), (.one (.dp T4)), fun x => tourref2_Big_Below k x.1, false⟩
noncomputable def tourref2_Big_Below.cx (k : Nat) : Go.Sx.Ctx := ⟨tys, [], eqs, 7, false⟩
theorem tourref2_Big_Below.cok (k : Nat) : CtxOk PR (tourref2_Big_Below.cx k) := ctx_ok tysOk eqsOk FnsOk.nil
theorem tourref2_Big_Below.way (k : Nat) (a0 : (List Int)) : Owp (tourref2_Big_Below k a0) fun y => ∃ answers cmds, exec PR (tourref2_Big_Below.cx k) tourref2_Big_Below.code 0 (entry (.pair T113 .unit) (a0, ())).st answers (Ret (tourref2_Big_Below.cx k) Try.f139 cmds (.one (.dp T4)) y) := by
  unfold tourref2_Big_Below; exact
   Owp.some (⟨[], [], via (retP (And.intro (And.intro (And.intro trivial (by decide : inR (7 : Int) 8)) (by decide : inR (7 : Int) 8)) (by decide : ng (15 : Int))) (.one (.dp T4)) ((ieq (ishr .u32 (el (0 : Int) a0 (7 : Int)) (15 : Int)) (1 : Int)) : Bool)) (by kernel_rfl)⟩)
theorem tourref2_Big_Below.ok (k : Nat) : FnOk PR 139 (tourref2_Big_Below.sp k) :=
  fn_ok (tourref2_Big_Below.cok k) hmix Try.func139 (code := tourref2_Big_Below.code) (by kernel_rfl) (by kernel_rfl) (by kernel_rfl) rfl (by kernel_rfl) (by kernel_rfl) (by kernel_rfl) (fun x => Nat.le_of_ble_eq_true (by kernel_rfl)) fun x y hy => (tourref2_Big_Below.way k x.1).ap hy

/-! (tourney/tourref2.Big).Cmp -/
noncomputable def tourref2_Big_Cmp.code : Code := Func.cd Try.f103
def tourref2_Big_Cmp.c1 (k : Nat) (a0 : (List Int)) (a1 : (List Int)) : Nat → Int → Option (Int ⊕ Unit)
  | 0, _ => none
  | n + 1, v6 =>
   bif' (ige v6 0)
   (req (inR v6 8) <|
    bif' (ine (el 0 a0 v6) (el 0 a1 v6))
    (bif' (ilt (el 0 a0 v6) (el 0 a1 v6))
     (some (.inl (-1)))
     (some (.inl 1)))
    (tourref2_Big_Cmp.c1 k a0 a1 n (isub .i64 v6 1)))
   (some (.inr ()))
def tourref2_Big_Cmp (k : Nat) (a0 : (List Int)) (a1 : (List Int)) : Option Int :=
  bnd (tourref2_Big_Below k a0) fun y1 =>
  bnd (tourref2_Big_Below k a1) fun y3 =>
  bif' (Ty.eqb T4 y1 y3)
  (bnd (tourref2_Big_Cmp.c1 k a0 a1 k 7) fun o11 =>
   two o11 (fun y13 =>
   some y13) (fun y15 =>
   some 0))
  (bnd (tourref2_Big_Below k a0) fun y17 =>
   bif' y17
   (some (-1))
   (some 1))
noncomputable def tourref2_Big_Cmp.sp (k : Nat) : Go.Sx.Spec := ⟨(.pair T113 (.pair T113 .unit)), (.one (.dp T2)), fun x => tourref2_Big_Cmp k x.1 x.2.1, false⟩
noncomputable def tourref2_Big_Cmp.cx (k : Nat) : Go.Sx.Ctx := ⟨tys, [(139, tourref2_Big_Below.sp k)], eqs, 31, false⟩
theorem tourref2_Big_Cmp.cok (k : Nat) : CtxOk PR (tourref2_Big_Cmp.cx k) := ctx_ok tysOk eqsOk (FnsOk.cons (tourref2_Big_Below.ok k) FnsOk.nil)
noncomputable def tourref2_Big_Cmp.c1p (a0 : (List Int)) (a1 : (List Int)) (v6 : Int) : SL := ⟨[(2, (.val .ptr ⟨0, 0, (0 : Int), 0, 0⟩)), (3, (.val .ptr ⟨1, 0, (0 : Int), 0, 0⟩)), (5, (.val T2 v6))], [(0, .cells T113 a0), (1, .cells T113 a1)]⟩
noncomputable def tourref2_Big_Cmp.c1q (o : Int ⊕ Unit) : SL := (fun o => two o (fun v => ⟨[(4, (.val T2 v))], []⟩) (fun v => ⟨[], []⟩)) o
noncomputable def tourref2_Big_Cmp.c1x (o : Int ⊕ Unit) : Ex := (fun o => two o (fun _ => .ret) (fun _ => (.exit 0))) o
noncomputable def tourref2_Big_Cmp.c1n (o : Int ⊕ Unit) : Nat := (fun o => two o (fun _ => 0) (fun _ => 0)) o
theorem tourref2_Big_Cmp.c1_ok (k : Nat) (a0 : (List Int)) (a1 : (List Int)) : ∀ (n : Nat) (v6 : Int), Owp (tourref2_Big_Cmp.c1 k a0 a1 n v6) fun o => LTriple PR (tourref2_Big_Cmp.cx k) (sub tourref2_Big_Cmp.code [1, 1, 0, 1, 0, 0]) 2 (tourref2_Big_Cmp.c1p a0 a1 v6) (tourref2_Big_Cmp.c1x o) (tourref2_Big_Cmp.c1n o) (tourref2_Big_Cmp.c1q o)
  | 0, _ => fun _ h => nomatch h
  | n + 1, v6 => Owp.of (tourref2_Big_Cmp.c1.eq_2 ..) (
   Owp.bif (fun e7 =>
   Owp.req fun h8 =>
    Owp.bif (fun e9 =>
    Owp.bif (fun e10 =>
     Owp.some (loop_exit (tourref2_Big_Cmp.cok k) hmix [.dec true, .dec true, .dec true] [] [] exne_ret (via (finP (And.intro (And.intro (And.intro (And.intro (And.intro (And.intro (And.intro (And.intro (And.intro (And.intro (And.intro trivial e7) h8) h8) h8) h8) e9) h8) h8) h8) h8) e10) .ret [] (tourref2_Big_Cmp.c1q (.inl (-1 : Int)))) (by kernel_rfl)))) (fun e10 =>
     Owp.some (loop_exit (tourref2_Big_Cmp.cok k) hmix [.dec true, .dec true, .dec false] [] [] exne_ret (via (finP (And.intro (And.intro (And.intro (And.intro (And.intro (And.intro (And.intro (And.intro (And.intro (And.intro (And.intro trivial e7) h8) h8) h8) h8) e9) h8) h8) h8) h8) e10) .ret [] (tourref2_Big_Cmp.c1q (.inl (1 : Int)))) (by kernel_rfl))))) (fun e9 =>
    fun y hy => loop_back (tourref2_Big_Cmp.cok k) hmix 2 (tourref2_Big_Cmp.c1p a0 a1 (isub .i64 v6 (1 : Int))) [.dec true, .dec false] [] [(0, 0), (1, 1)] (via (finP (And.intro (And.intro (And.intro (And.intro (And.intro (And.intro trivial e7) h8) h8) h8) h8) e9) .normal [(0, 0), (1, 1)] (tourref2_Big_Cmp.c1p a0 a1 (isub .i64 v6 (1 : Int)))) (by kernel_rfl)) ((tourref2_Big_Cmp.c1_ok k a0 a1 n (isub .i64 v6 (1 : Int))).ap hy))) (fun e7 =>
   Owp.some (loop_exit (tourref2_Big_Cmp.cok k) hmix [.dec false] [] [] (exne 0) (via (finP (And.intro trivial e7) (.exit 0) [] (tourref2_Big_Cmp.c1q (.inr ()))) (by kernel_rfl)))))
theorem tourref2_Big_Cmp.way (k : Nat) (a0 : (List Int)) (a1 : (List Int)) : Owp (tourref2_Big_Cmp k a0 a1) fun y => ∃ answers cmds, exec PR (tourref2_Big_Cmp.cx k) tourref2_Big_Cmp.code 0 (entry (.pair T113 (.pair T113 .unit)) (a0, a1, ())).st answers (Ret (tourref2_Big_Cmp.cx k) Try.f103 cmds (.one (.dp T2)) y) := by
  unfold tourref2_Big_Cmp; exact
   Owp.bnd fun y1 e2 =>
   Owp.bnd fun y3 e4 =>
   Owp.bif (fun e5 =>
   Owp.bnd fun o11 e12 =>
    Owp.two (fun y13 e14 =>
    Owp.some (⟨[.res (.one (.dp T4)) y1, .res (.one (.dp T4)) y3, .dec false, .cut ⟨[], [(0, 0), (1, 1)], (tourref2_Big_Cmp.c1p a0 a1 (7 : Int)), 2, .ret, (tourref2_Big_Cmp.c1q (.inl y13)), 0⟩], [], via (cutP (And.intro (And.intro (And.intro trivial e2) e4) (congrArg not e5)) [(0, 0), (1, 1)] (tourref2_Big_Cmp.c1p a0 a1 (7 : Int)) (((tourref2_Big_Cmp.c1_ok k a0 a1 k (7 : Int)).ap (e12.trans (congrArg some e14))).triple) (retP trivial (.one (.dp T2)) (y13 : Int))) (by kernel_rfl)⟩)) (fun y15 e16 =>
    Owp.some (⟨[.res (.one (.dp T4)) y1, .res (.one (.dp T4)) y3, .dec false, .cut ⟨[], [(0, 0), (1, 1)], (tourref2_Big_Cmp.c1p a0 a1 (7 : Int)), 2, (.exit 0), (tourref2_Big_Cmp.c1q (.inr ())), 0⟩], [], via (cutP (And.intro (And.intro (And.intro trivial e2) e4) (congrArg not e5)) [(0, 0), (1, 1)] (tourref2_Big_Cmp.c1p a0 a1 (7 : Int)) (((tourref2_Big_Cmp.c1_ok k a0 a1 k (7 : Int)).ap (e12.trans (congrArg some e16))).triple) (retP trivial (.one (.dp T2)) ((0 : Int) : Int))) (by kernel_rfl)⟩))) (fun e5 =>
   Owp.bnd fun y17 e18 =>
    Owp.bif (fun e19 =>
    Owp.some (⟨[.res (.one (.dp T4)) y1, .res (.one (.dp T4)) y3, .dec true, .res (.one (.dp T4)) y17, .dec true], [], via (retP (And.intro (And.intro (And.intro (And.intro (And.intro trivial e2) e4) (congrArg not e5)) e18) e19) (.one (.dp T2)) ((-1 : Int) : Int)) (by kernel_rfl)⟩)) (fun e19 =>
    Owp.some (⟨[.res (.one (.dp T4)) y1, .res (.one (.dp T4)) y3, .dec true, .res (.one (.dp T4)) y17, .dec false], [], via (retP (And.intro (And.intro (And.intro (And.intro (And.intro trivial e2) e4) (congrArg not e5)) e18) e19) (.one (.dp T2)) ((1 : Int) : Int)) (by kernel_rfl)⟩)))
theorem tourref2_Big_Cmp.ok (k : Nat) : FnOk PR 103 (tourref2_Big_Cmp.sp k) :=
  fn_ok (tourref2_Big_Cmp.cok k) hmix Try.func103 (code := tourref2_Big_Cmp.code) (by kernel_rfl) (by kernel_rfl) (by kernel_rfl) rfl (by kernel_rfl) (by kernel_rfl) (by kernel_rfl) (fun x => Nat.le_of_ble_eq_true (by kernel_rfl)) fun x y hy => (tourref2_Big_Cmp.way k x.1 x.2.1).ap hy

/-! (tourney/tourref2.Big).Mul -/
noncomputable def tourref2_Big_Mul.code : Code := Func.cd Try.f108
def tourref2_Big_Mul.c2 (k : Nat) (a0 : (List Int)) (a1 : (List Int)) (v1 : Int) : Nat → Int → Int → (List Int) → Option ((List Int))
  | 0, _, _, _ => none
  | n + 1, v4, v5, v6 =>
   bif' (ilt (iadd .i64 v1 v5) 8)
   (req (inR v1 8) <|
    req (inR v5 8) <|
    req (inR (iadd .i64 v1 v5) 8) <|
    tourref2_Big_Mul.c2 k a0 a1 v1 n (ishr .u64 (iadd .u64 v4 (iadd .u64 (imul .u64 (icv .u64 (el 0 a0 v1)) (icv .u64 (el 0 a1 v5))) (icv .u64 (el 0 v6 (iadd .i64 v1 v5))))) 16) (iadd .i64 v5 1) (st v6 (iadd .i64 v1 v5) (icv .u32 (ibits .and .u64 (iadd .u64 v4 (iadd .u64 (imul .u64 (icv .u64 (el 0 a0 v1)) (icv .u64 (el 0 a1 v5))) (icv .u64 (el 0 v6 (iadd .i64 v1 v5))))) 65535))))
   (some v6)
def tourref2_Big_Mul.c1 (k : Nat) (a0 : (List Int)) (a1 : (List Int)) : Nat → Int → (List Int) → Option ((List Int))
  | 0, _, _ => none
  | n + 1, v1, v2 =>
   bif' (ilt v1 8)
   (bnd (tourref2_Big_Mul.c2 k a0 a1 v1 k 0 0 v2) fun o11 =>
    tourref2_Big_Mul.c1 k a0 a1 n (iadd .i64 v1 1) o11)
   (some v2)
def tourref2_Big_Mul (k : Nat) (a0 : (List Int)) (a1 : (List Int)) : Option (List Int) :=
  bnd (tourref2_Big_Mul.c1 k a0 a1 k 0 (List.replicate 8 0)) fun o13 =>
  some o13
noncomputable def tourref2_Big_Mul.sp (k : Nat) : Go.Sx.Spec := ⟨(.pair T113 (.pair T113 .unit)), (.one (.dp T113)), fun x => tourref2_Big_Mul k x.1 x.2.1, false⟩
noncomputable def tourref2_Big_Mul.cx (k : Nat) : Go.Sx.Ctx := ⟨tys, [], eqs, 47, false⟩
theorem tourref2_Big_Mul.cok (k : Nat) : CtxOk PR (tourref2_Big_Mul.cx k) := ctx_ok tysOk eqsOk FnsOk.nil
noncomputable def tourref2_Big_Mul.c2p (a0 : (List Int)) (a1 : (List Int)) (v1 : Int) (v4 : Int) (v5 : Int) (v6 : (List Int)) : SL := ⟨[(2, (.val .ptr ⟨0, 0, (0 : Int), 0, 0⟩)), (3, (.val .ptr ⟨1, 0, (0 : Int), 0, 0⟩)), (4, (.val .ptr ⟨2, 0, (0 : Int), 0, 0⟩)), (5, (.val .ptr ⟨3, 0, (0 : Int), 0, 0⟩)), (6, (.val T2 v1)), (7, (.val T12 v4)), (8, (.val T2 v5)), (9, (.val T2 v1))], [(0, .cells T113 a0), (1, .cells T113 a1), (2, .cells T113 (List.replicate 8 (0 : Int))), (3, .cells T113 v6)]⟩
noncomputable def tourref2_Big_Mul.c2q (a0 : (List Int)) (a1 : (List Int)) (v1 : Int) (o : (List Int)) : SL := (fun v => ⟨[(2, (.val .ptr ⟨0, 0, (0 : Int), 0, 0⟩)), (3, (.val .ptr ⟨1, 0, (0 : Int), 0, 0⟩)), (4, (.val .ptr ⟨2, 0, (0 : Int), 0, 0⟩)), (5, (.val .ptr ⟨3, 0, (0 : Int), 0, 0⟩)), (9, (.val T2 v1))], [(0, .cells T113 a0), (1, .cells T113 a1), (2, .cells T113 (List.replicate 8 (0 : Int))), (3, .cells T113 v)]⟩) o
noncomputable def tourref2_Big_Mul.c2x (o : (List Int)) : Ex := (fun _ => (.exit 2)) o
noncomputable def tourref2_Big_Mul.c2n (o : (List Int)) : Nat := (fun _ => 4) o
theorem tourref2_Big_Mul.c2_ok (k : Nat) (a0 : (List Int)) (a1 : (List Int)) (v1 : Int) : ∀ (n : Nat) (v4 : Int) (v5 : Int) (v6 : (List Int)), Owp (tourref2_Big_Mul.c2 k a0 a1 v1 n v4 v5 v6) fun o => LTriple PR (tourref2_Big_Mul.cx k) (sub tourref2_Big_Mul.code [1, 1, 0, 1, 0, 0, 1, 1, 0, 0, 1, 1, 1, 0, 0]) 4 (tourref2_Big_Mul.c2p a0 a1 v1 v4 v5 v6) (tourref2_Big_Mul.c2x o) (tourref2_Big_Mul.c2n o) (tourref2_Big_Mul.c2q a0 a1 v1 o)
  | 0, _, _, _ => fun _ h => nomatch h
  | n + 1, v4, v5, v6 => Owp.of (tourref2_Big_Mul.c2.eq_2 ..) (
   Owp.bif (fun e7 =>
   Owp.req fun h8 =>
    Owp.req fun h9 =>
    Owp.req fun h10 =>
    fun y hy => loop_back (tourref2_Big_Mul.cok k) hmix 4 (tourref2_Big_Mul.c2p a0 a1 v1 (ishr .u64 (iadd .u64 v4 (iadd .u64 (imul .u64 (icv .u64 (el (0 : Int) a0 v1)) (icv .u64 (el (0 : Int) a1 v5))) (icv .u64 (el (0 : Int) v6 (iadd .i64 v1 v5))))) (16 : Int)) (iadd .i64 v5 (1 : Int)) (st v6 (iadd .i64 v1 v5) (icv .u32 (ibits .and .u64 (iadd .u64 v4 (iadd .u64 (imul .u64 (icv .u64 (el (0 : Int) a0 v1)) (icv .u64 (el (0 : Int) a1 v5))) (icv .u64 (el (0 : Int) v6 (iadd .i64 v1 v5))))) (65535 : Int))))) [.dec true] [] [(0, 0), (1, 1), (2, 2), (3, 3)] (via (finP (And.intro (And.intro (And.intro (And.intro (And.intro (And.intro (And.intro (And.intro (And.intro (And.intro trivial e7) h8) h8) h9) h9) h10) h10) (by decide : ng (16 : Int))) h10) h10) .normal [(0, 0), (1, 1), (2, 2), (3, 3)] (tourref2_Big_Mul.c2p a0 a1 v1 (ishr .u64 (iadd .u64 v4 (iadd .u64 (imul .u64 (icv .u64 (el (0 : Int) a0 v1)) (icv .u64 (el (0 : Int) a1 v5))) (icv .u64 (el (0 : Int) v6 (iadd .i64 v1 v5))))) (16 : Int)) (iadd .i64 v5 (1 : Int)) (st v6 (iadd .i64 v1 v5) (icv .u32 (ibits .and .u64 (iadd .u64 v4 (iadd .u64 (imul .u64 (icv .u64 (el (0 : Int) a0 v1)) (icv .u64 (el (0 : Int) a1 v5))) (icv .u64 (el (0 : Int) v6 (iadd .i64 v1 v5))))) (65535 : Int)))))) (by kernel_rfl)) ((tourref2_Big_Mul.c2_ok k a0 a1 v1 n (ishr .u64 (iadd .u64 v4 (iadd .u64 (imul .u64 (icv .u64 (el (0 : Int) a0 v1)) (icv .u64 (el (0 : Int) a1 v5))) (icv .u64 (el (0 : Int) v6 (iadd .i64 v1 v5))))) (16 : Int)) (iadd .i64 v5 (1 : Int)) (st v6 (iadd .i64 v1 v5) (icv .u32 (ibits .and .u64 (iadd .u64 v4 (iadd .u64 (imul .u64 (icv .u64 (el (0 : Int) a0 v1)) (icv .u64 (el (0 : Int) a1 v5))) (icv .u64 (el (0 : Int) v6 (iadd .i64 v1 v5))))) (65535 : Int))))).ap hy)) (fun e7 =>
   Owp.some (loop_exit (tourref2_Big_Mul.cok k) hmix [.dec false] [] [(0, 0), (1, 1), (2, 2), (3, 3)] (exne 2) (via (finP (And.intro trivial e7) (.exit 2) [(0, 0), (1, 1), (2, 2), (3, 3)] (tourref2_Big_Mul.c2q a0 a1 v1 v6)) (by kernel_rfl)))))
noncomputable def tourref2_Big_Mul.c1p (a0 : (List Int)) (a1 : (List Int)) (v1 : Int) (v2 : (List Int)) : SL := ⟨[(2, (.val .ptr ⟨0, 0, (0 : Int), 0, 0⟩)), (3, (.val .ptr ⟨1, 0, (0 : Int), 0, 0⟩)), (4, (.val .ptr ⟨2, 0, (0 : Int), 0, 0⟩)), (5, (.val .ptr ⟨3, 0, (0 : Int), 0, 0⟩)), (9, (.val T2 v1))], [(0, .cells T113 a0), (1, .cells T113 a1), (2, .cells T113 (List.replicate 8 (0 : Int))), (3, .cells T113 v2)]⟩
noncomputable def tourref2_Big_Mul.c1q (o : (List Int)) : SL := (fun v => ⟨[(4, (.val .ptr ⟨0, 0, (0 : Int), 0, 0⟩)), (5, (.val .ptr ⟨1, 0, (0 : Int), 0, 0⟩))], [(0, .cells T113 (List.replicate 8 (0 : Int))), (1, .cells T113 v)]⟩) o
noncomputable def tourref2_Big_Mul.c1x (o : (List Int)) : Ex := (fun _ => (.exit 0)) o
noncomputable def tourref2_Big_Mul.c1n (o : (List Int)) : Nat := (fun _ => 2) o
theorem tourref2_Big_Mul.c1_ok (k : Nat) (a0 : (List Int)) (a1 : (List Int)) : ∀ (n : Nat) (v1 : Int) (v2 : (List Int)), Owp (tourref2_Big_Mul.c1 k a0 a1 n v1 v2) fun o => LTriple PR (tourref2_Big_Mul.cx k) (sub tourref2_Big_Mul.code [1, 1, 0, 1, 0, 0]) 4 (tourref2_Big_Mul.c1p a0 a1 v1 v2) (tourref2_Big_Mul.c1x o) (tourref2_Big_Mul.c1n o) (tourref2_Big_Mul.c1q o)
  | 0, _, _ => fun _ h => nomatch h
  | n + 1, v1, v2 => Owp.of (tourref2_Big_Mul.c1.eq_2 ..) (
   Owp.bif (fun e3 =>
   Owp.bnd fun o11 e12 =>
    fun y hy => loop_back (tourref2_Big_Mul.cok k) hmix 4 (tourref2_Big_Mul.c1p a0 a1 (iadd .i64 v1 (1 : Int)) o11) [.dec true, .cut ⟨[], [(0, 0), (1, 1), (2, 2), (3, 3)], (tourref2_Big_Mul.c2p a0 a1 v1 (0 : Int) (0 : Int) v2), 4, (.exit 2), (tourref2_Big_Mul.c2q a0 a1 v1 o11), 4⟩] [] [(0, 0), (1, 1), (2, 2), (3, 3)] (via (cutP (And.intro trivial e3) [(0, 0), (1, 1), (2, 2), (3, 3)] (tourref2_Big_Mul.c2p a0 a1 v1 (0 : Int) (0 : Int) v2) (((tourref2_Big_Mul.c2_ok k a0 a1 v1 k (0 : Int) (0 : Int) v2).ap e12).triple) (finP trivial .normal [(0, 0), (1, 1), (2, 2), (3, 3)] (tourref2_Big_Mul.c1p a0 a1 (iadd .i64 v1 (1 : Int)) o11))) (by kernel_rfl)) ((tourref2_Big_Mul.c1_ok k a0 a1 n (iadd .i64 v1 (1 : Int)) o11).ap hy)) (fun e3 =>
   Owp.some (loop_exit (tourref2_Big_Mul.cok k) hmix [.dec false] [] [(0, 2), (1, 3)] (exne 0) (via (finP (And.intro trivial e3) (.exit 0) [(0, 2), (1, 3)] (tourref2_Big_Mul.c1q v2)) (by kernel_rfl)))))
theorem tourref2_Big_Mul.way (k : Nat) (a0 : (List Int)) (a1 : (List Int)) : Owp (tourref2_Big_Mul k a0 a1) fun y => ∃ answers cmds, exec PR (tourref2_Big_Mul.cx k) tourref2_Big_Mul.code 0 (entry (.pair T113 (.pair T113 .unit)) (a0, a1, ())).st answers (Ret (tourref2_Big_Mul.cx k) Try.f108 cmds (.one (.dp T113)) y) := by
  unfold tourref2_Big_Mul; exact
   Owp.bnd fun o13 e14 =>
   Owp.some (⟨[.cut ⟨[], [(0, 0), (1, 1), (2, 2), (3, 3)], (tourref2_Big_Mul.c1p a0 a1 (0 : Int) (List.replicate 8 (0 : Int))), 4, (.exit 0), (tourref2_Big_Mul.c1q o13), 2⟩], [], via (cutP trivial [(0, 0), (1, 1), (2, 2), (3, 3)] (tourref2_Big_Mul.c1p a0 a1 (0 : Int) (List.replicate 8 (0 : Int))) (((tourref2_Big_Mul.c1_ok k a0 a1 k (0 : Int) (List.replicate 8 (0 : Int))).ap e14).triple) (retP trivial (.one (.dp T113)) (o13 : (List Int)))) (by kernel_rfl)⟩)
theorem tourref2_Big_Mul.ok (k : Nat) : FnOk PR 108 (tourref2_Big_Mul.sp k) :=
  fn_ok (tourref2_Big_Mul.cok k) hmix Try.func108 (code := tourref2_Big_Mul.code) (by kernel_rfl) (by kernel_rfl) (by kernel_rfl) rfl (by kernel_rfl) (by kernel_rfl) (by kernel_rfl) (fun x => Nat.le_of_ble_eq_true (by kernel_rfl)) fun x y hy => (tourref2_Big_Mul.way k x.1 x.2.1).ap hy

/-! (tourney/tourref2.Big).Add -/
noncomputable def tourref2_Big_Add.code : Code := Func.cd Try.f138
def tourref2_Big_Add.c1 (k : Nat) (a0 : (List Int)) (a1 : (List Int)) : Nat → Int → Int → (List Int) → Option ((List Int))
  | 0, _, _, _ => none
  | n + 1, v1, v2, v3 =>
   bif' (ilt v2 8)
   (req (inR v2 8) <|
    tourref2_Big_Add.c1 k a0 a1 n (ishr .u32 (iadd .u32 v1 (iadd .u32 (el 0 a0 v2) (el 0 a1 v2))) 16) (iadd .i64 v2 1) (st v3 v2 (ibits .and .u32 (iadd .u32 v1 (iadd .u32 (el 0 a0 v2) (el 0 a1 v2))) 65535)))
   (some v3)
def tourref2_Big_Add (k : Nat) (a0 : (List Int)) (a1 : (List Int)) : Option (List Int) :=
  bnd (tourref2_Big_Add.c1 k a0 a1 k 0 0 (List.replicate 8 0)) fun o6 =>
  some o6
noncomputable def tourref2_Big_Add.sp (k : Nat) : Go.Sx.Spec := ⟨(.pair T113 (.pair T113 .unit)), (.one (.dp T113)), fun x => tourref2_Big_Add k x.1 x.2.1, false⟩
noncomputable def tourref2_Big_Add.cx (k : Nat) : Go.Sx.Ctx := ⟨tys, [], eqs, 28, false⟩
theorem tourref2_Big_Add.cok (k : Nat) : CtxOk PR (tourref2_Big_Add.cx k) := ctx_ok tysOk eqsOk FnsOk.nil
noncomputable def tourref2_Big_Add.c1p (a0 : (List Int)) (a1 : (List Int)) (v1 : Int) (v2 : Int) (v3 : (List Int)) : SL := ⟨[(2, (.val .ptr ⟨0, 0, (0 : Int), 0, 0⟩)), (3, (.val .ptr ⟨1, 0, (0 : Int), 0, 0⟩)), (4, (.val .ptr ⟨2, 0, (0 : Int), 0, 0⟩)), (5, (.val .ptr ⟨3, 0, (0 : Int), 0, 0⟩)), (6, (.val T112 v1)), (8, (.val T2 v2))], [(0, .cells T113 a0), (1, .cells T113 a1), (2, .cells T113 (List.replicate 8 (0 : Int))), (3, .cells T113 v3)]⟩
noncomputable def tourref2_Big_Add.c1q (o : (List Int)) : SL := (fun v => ⟨[(4, (.val .ptr ⟨0, 0, (0 : Int), 0, 0⟩)), (5, (.val .ptr ⟨1, 0, (0 : Int), 0, 0⟩))], [(0, .cells T113 (List.replicate 8 (0 : Int))), (1, .cells T113 v)]⟩) o
noncomputable def tourref2_Big_Add.c1x (o : (List Int)) : Ex := (fun _ => (.exit 0)) o
noncomputable def tourref2_Big_Add.c1n (o : (List Int)) : Nat := (fun _ => 2) o
theorem tourref2_Big_Add.c1_ok (k : Nat) (a0 : (List Int)) (a1 : (List Int)) : ∀ (n : Nat) (v1 : Int) (v2 : Int) (v3 : (List Int)), Owp (tourref2_Big_Add.c1 k a0 a1 n v1 v2 v3) fun o => LTriple PR (tourref2_Big_Add.cx k) (sub tourref2_Big_Add.code [1, 1, 1, 0, 1, 0, 0]) 4 (tourref2_Big_Add.c1p a0 a1 v1 v2 v3) (tourref2_Big_Add.c1x o) (tourref2_Big_Add.c1n o) (tourref2_Big_Add.c1q o)
  | 0, _, _, _ => fun _ h => nomatch h
  | n + 1, v1, v2, v3 => Owp.of (tourref2_Big_Add.c1.eq_2 ..) (
   Owp.bif (fun e4 =>
   Owp.req fun h5 =>
    fun y hy => loop_back (tourref2_Big_Add.cok k) hmix 4 (tourref2_Big_Add.c1p a0 a1 (ishr .u32 (iadd .u32 v1 (iadd .u32 (el (0 : Int) a0 v2) (el (0 : Int) a1 v2))) (16 : Int)) (iadd .i64 v2 (1 : Int)) (st v3 v2 (ibits .and .u32 (iadd .u32 v1 (iadd .u32 (el (0 : Int) a0 v2) (el (0 : Int) a1 v2))) (65535 : Int)))) [.dec true] [] [(0, 0), (1, 1), (2, 2), (3, 3)] (via (finP (And.intro (And.intro (And.intro (And.intro (And.intro (And.intro (And.intro (And.intro trivial e4) h5) h5) h5) h5) (by decide : ng (16 : Int))) h5) h5) .normal [(0, 0), (1, 1), (2, 2), (3, 3)] (tourref2_Big_Add.c1p a0 a1 (ishr .u32 (iadd .u32 v1 (iadd .u32 (el (0 : Int) a0 v2) (el (0 : Int) a1 v2))) (16 : Int)) (iadd .i64 v2 (1 : Int)) (st v3 v2 (ibits .and .u32 (iadd .u32 v1 (iadd .u32 (el (0 : Int) a0 v2) (el (0 : Int) a1 v2))) (65535 : Int))))) (by kernel_rfl)) ((tourref2_Big_Add.c1_ok k a0 a1 n (ishr .u32 (iadd .u32 v1 (iadd .u32 (el (0 : Int) a0 v2) (el (0 : Int) a1 v2))) (16 : Int)) (iadd .i64 v2 (1 : Int)) (st v3 v2 (ibits .and .u32 (iadd .u32 v1 (iadd .u32 (el (0 : Int) a0 v2) (el (0 : Int) a1 v2))) (65535 : Int)))).ap hy)) (fun e4 =>
   Owp.some (loop_exit (tourref2_Big_Add.cok k) hmix [.dec false] [] [(0, 2), (1, 3)] (exne 0) (via (finP (And.intro trivial e4) (.exit 0) [(0, 2), (1, 3)] (tourref2_Big_Add.c1q v3)) (by kernel_rfl)))))
theorem tourref2_Big_Add.way (k : Nat) (a0 : (List Int)) (a1 : (List Int)) : Owp (tourref2_Big_Add k a0 a1) fun y => ∃ answers cmds, exec PR (tourref2_Big_Add.cx k) tourref2_Big_Add.code 0 (entry (.pair T113 (.pair T113 .unit)) (a0, a1, ())).st answers (Ret (tourref2_Big_Add.cx k) Try.f138 cmds (.one (.dp T113)) y) := by
  unfold tourref2_Big_Add; exact
   Owp.bnd fun o6 e7 =>
   Owp.some (⟨[.cut ⟨[], [(0, 0), (1, 1), (2, 2), (3, 3)], (tourref2_Big_Add.c1p a0 a1 (0 : Int) (0 : Int) (List.replicate 8 (0 : Int))), 4, (.exit 0), (tourref2_Big_Add.c1q o6), 2⟩], [], via (cutP trivial [(0, 0), (1, 1), (2, 2), (3, 3)] (tourref2_Big_Add.c1p a0 a1 (0 : Int) (0 : Int) (List.replicate 8 (0 : Int))) (((tourref2_Big_Add.c1_ok k a0 a1 k (0 : Int) (0 : Int) (List.replicate 8 (0 : Int))).ap e7).triple) (retP trivial (.one (.dp T113)) (o6 : (List Int)))) (by kernel_rfl)⟩)
theorem tourref2_Big_Add.ok (k : Nat) : FnOk PR 138 (tourref2_Big_Add.sp k) :=
  fn_ok (tourref2_Big_Add.cok k) hmix Try.func138 (code := tourref2_Big_Add.code) (by kernel_rfl) (by kernel_rfl) (by kernel_rfl) rfl (by kernel_rfl) (by kernel_rfl) (by kernel_rfl) (fun x => Nat.le_of_ble_eq_true (by kernel_rfl)) fun x y hy => (tourref2_Big_Add.way k x.1 x.2.1).ap hy

/-! tourney/tourref2.Of -/
noncomputable def tourref2_Of.code : Code := Func.cd Try.f107
def tourref2_Of.c1 (k : Nat) (a0 : Int) : Nat → Int → (List Int) → Option ((List Int))
  | 0, _, _ => none
  | n + 1, v1, v2 =>
   bif' (ilt v1 8)
   (bif' (ilt v1 4)
    (req (ng (imul .i64 16 v1)) <|
     req (inR v1 8) <|
     tourref2_Of.c1 k a0 n (iadd .i64 v1 1) (st v2 v1 (icv .u32 (ibits .and .u64 (ishr .u64 (icv .u64 a0) (imul .i64 16 v1)) 65535))))
    (bif' (ilt a0 0)
     (req (inR v1 8) <|
      tourref2_Of.c1 k a0 n (iadd .i64 v1 1) (st v2 v1 65535))
     (tourref2_Of.c1 k a0 n (iadd .i64 v1 1) v2)))
   (some v2)
def tourref2_Of (k : Nat) (a0 : Int) : Option (List Int) :=
  bnd (tourref2_Of.c1 k a0 k 0 (List.replicate 8 0)) fun o9 =>
  some o9
noncomputable def tourref2_Of.sp (k : Nat) : Go.Sx.Spec := ⟨(.pair T2 .unit), (.one (.dp T113)), fun x => tourref2_Of k x.1, false⟩
noncomputable def tourref2_Of.cx (k : Nat) : Go.Sx.Ctx := ⟨tys, [], eqs, 27, false⟩
theorem tourref2_Of.cok (k : Nat) : CtxOk PR (tourref2_Of.cx k) := ctx_ok tysOk eqsOk FnsOk.nil
noncomputable def tourref2_Of.c1p (a0 : Int) (v1 : Int) (v2 : (List Int)) : SL := ⟨[(0, (.val T2 a0)), (2, (.val .ptr ⟨0, 0, (0 : Int), 0, 0⟩)), (3, (.val .ptr ⟨1, 0, (0 : Int), 0, 0⟩)), (4, (.val T12 (icv .u64 a0))), (8, (.val T2 v1))], [(0, .cells T113 (List.replicate 8 (0 : Int))), (1, .cells T113 v2)]⟩
noncomputable def tourref2_Of.c1q (o : (List Int)) : SL := (fun v => ⟨[(2, (.val .ptr ⟨0, 0, (0 : Int), 0, 0⟩)), (3, (.val .ptr ⟨1, 0, (0 : Int), 0, 0⟩))], [(0, .cells T113 (List.replicate 8 (0 : Int))), (1, .cells T113 v)]⟩) o
noncomputable def tourref2_Of.c1x (o : (List Int)) : Ex := (fun _ => (.exit 0)) o
noncomputable def tourref2_Of.c1n (o : (List Int)) : Nat := (fun _ => 2) o
theorem tourref2_Of.c1_ok (k : Nat) (a0 : Int) : ∀ (n : Nat) (v1 : Int) (v2 : (List Int)), Owp (tourref2_Of.c1 k a0 n v1 v2) fun o => LTriple PR (tourref2_Of.cx k) (sub tourref2_Of.code [1, 1, 1, 0, 1, 0, 0]) 2 (tourref2_Of.c1p a0 v1 v2) (tourref2_Of.c1x o) (tourref2_Of.c1n o) (tourref2_Of.c1q o)
  | 0, _, _ => fun _ h => nomatch h
  | n + 1, v1, v2 => Owp.of (tourref2_Of.c1.eq_2 ..) (
   Owp.bif (fun e3 =>
   Owp.bif (fun e4 =>
    Owp.req fun h5 =>
     Owp.req fun h6 =>
     fun y hy => loop_back (tourref2_Of.cok k) hmix 2 (tourref2_Of.c1p a0 (iadd .i64 v1 (1 : Int)) (st v2 v1 (icv .u32 (ibits .and .u64 (ishr .u64 (icv .u64 a0) (imul .i64 (16 : Int) v1)) (65535 : Int))))) [.dec true, .dec true] [] [(0, 0), (1, 1)] (via (finP (And.intro (And.intro (And.intro (And.intro (And.intro trivial e3) e4) h5) h6) h6) .normal [(0, 0), (1, 1)] (tourref2_Of.c1p a0 (iadd .i64 v1 (1 : Int)) (st v2 v1 (icv .u32 (ibits .and .u64 (ishr .u64 (icv .u64 a0) (imul .i64 (16 : Int) v1)) (65535 : Int)))))) (by kernel_rfl)) ((tourref2_Of.c1_ok k a0 n (iadd .i64 v1 (1 : Int)) (st v2 v1 (icv .u32 (ibits .and .u64 (ishr .u64 (icv .u64 a0) (imul .i64 (16 : Int) v1)) (65535 : Int))))).ap hy)) (fun e4 =>
    Owp.bif (fun e7 =>
     Owp.req fun h8 =>
      fun y hy => loop_back (tourref2_Of.cok k) hmix 2 (tourref2_Of.c1p a0 (iadd .i64 v1 (1 : Int)) (st v2 v1 (65535 : Int))) [.dec true, .dec false, .dec true] [] [(0, 0), (1, 1)] (via (finP (And.intro (And.intro (And.intro (And.intro (And.intro trivial e3) e4) e7) h8) h8) .normal [(0, 0), (1, 1)] (tourref2_Of.c1p a0 (iadd .i64 v1 (1 : Int)) (st v2 v1 (65535 : Int)))) (by kernel_rfl)) ((tourref2_Of.c1_ok k a0 n (iadd .i64 v1 (1 : Int)) (st v2 v1 (65535 : Int))).ap hy)) (fun e7 =>
     fun y hy => loop_back (tourref2_Of.cok k) hmix 2 (tourref2_Of.c1p a0 (iadd .i64 v1 (1 : Int)) v2) [.dec true, .dec false, .dec false] [] [(0, 0), (1, 1)] (via (finP (And.intro (And.intro (And.intro trivial e3) e4) e7) .normal [(0, 0), (1, 1)] (tourref2_Of.c1p a0 (iadd .i64 v1 (1 : Int)) v2)) (by kernel_rfl)) ((tourref2_Of.c1_ok k a0 n (iadd .i64 v1 (1 : Int)) v2).ap hy)))) (fun e3 =>
   Owp.some (loop_exit (tourref2_Of.cok k) hmix [.dec false] [] [(0, 0), (1, 1)] (exne 0) (via (finP (And.intro trivial e3) (.exit 0) [(0, 0), (1, 1)] (tourref2_Of.c1q v2)) (by kernel_rfl)))))
theorem tourref2_Of.way (k : Nat) (a0 : Int) : Owp (tourref2_Of k a0) fun y => ∃ answers cmds, exec PR (tourref2_Of.cx k) tourref2_Of.code 0 (entry (.pair T2 .unit) (a0, ())).st answers (Ret (tourref2_Of.cx k) Try.f107 cmds (.one (.dp T113)) y) := by
  unfold tourref2_Of; exact
   Owp.bnd fun o9 e10 =>
   Owp.some (⟨[.cut ⟨[], [(0, 0), (1, 1)], (tourref2_Of.c1p a0 (0 : Int) (List.replicate 8 (0 : Int))), 2, (.exit 0), (tourref2_Of.c1q o9), 2⟩], [], via (cutP trivial [(0, 0), (1, 1)] (tourref2_Of.c1p a0 (0 : Int) (List.replicate 8 (0 : Int))) (((tourref2_Of.c1_ok k a0 k (0 : Int) (List.replicate 8 (0 : Int))).ap e10).triple) (retP trivial (.one (.dp T113)) (o9 : (List Int)))) (by kernel_rfl)⟩)
theorem tourref2_Of.ok (k : Nat) : FnOk PR 107 (tourref2_Of.sp k) :=
  fn_ok (tourref2_Of.cok k) hmix Try.func107 (code := tourref2_Of.code) (by kernel_rfl) (by kernel_rfl) (by kernel_rfl) rfl (by kernel_rfl) (by kernel_rfl) (by kernel_rfl) (fun x => Nat.le_of_ble_eq_true (by kernel_rfl)) fun x y hy => (tourref2_Of.way k x.1).ap hy

/-! (tourney/tourref2.Big).Neg -/
noncomputable def tourref2_Big_Neg.code : Code := Func.cd Try.f170
def tourref2_Big_Neg.c1 (k : Nat) : Nat → Int → (List Int) → Option ((List Int))
  | 0, _, _ => none
  | n + 1, v1, v2 =>
   bif' (ilt v1 8)
   (req (inR v1 8) <|
    tourref2_Big_Neg.c1 k n (iadd .i64 v1 1) (st v2 v1 (ibits .xor .u32 (el 0 v2 v1) 65535)))
   (some v2)
def tourref2_Big_Neg (k : Nat) (a0 : (List Int)) : Option (List Int) :=
  bnd (tourref2_Big_Neg.c1 k k 0 a0) fun o5 =>
  bnd (tourref2_Of k 1) fun y7 =>
  bnd (tourref2_Big_Add k o5 y7) fun y9 =>
  some y9
noncomputable def tourref2_Big_Neg.sp (k : Nat) : Go.Sx.Spec := ⟨(.pair T113 .unit), (.one (.dp T113)), fun x => tourref2_Big_Neg k x.1, false⟩
noncomputable def tourref2_Big_Neg.cx (k : Nat) : Go.Sx.Ctx := ⟨tys, [(107, tourref2_Of.sp k), (138, tourref2_Big_Add.sp k)], eqs, 16, false⟩
theorem tourref2_Big_Neg.cok (k : Nat) : CtxOk PR (tourref2_Big_Neg.cx k) := ctx_ok tysOk eqsOk (FnsOk.cons (tourref2_Of.ok k) (FnsOk.cons (tourref2_Big_Add.ok k) FnsOk.nil))
noncomputable def tourref2_Big_Neg.c1p (v1 : Int) (v2 : (List Int)) : SL := ⟨[(1, (.val .ptr ⟨0, 0, (0 : Int), 0, 0⟩)), (2, (.val .ptr ⟨1, 0, (0 : Int), 0, 0⟩)), (4, (.val T2 v1))], [(0, .cells T113 v2), (1, .cells T113 (List.replicate 8 (0 : Int)))]⟩
noncomputable def tourref2_Big_Neg.c1q (o : (List Int)) : SL := (fun v => ⟨[(1, (.val .ptr ⟨0, 0, (0 : Int), 0, 0⟩)), (2, (.val .ptr ⟨1, 0, (0 : Int), 0, 0⟩))], [(0, .cells T113 v), (1, .cells T113 (List.replicate 8 (0 : Int)))]⟩) o
noncomputable def tourref2_Big_Neg.c1x (o : (List Int)) : Ex := (fun _ => (.exit 0)) o
noncomputable def tourref2_Big_Neg.c1n (o : (List Int)) : Nat := (fun _ => 2) o
theorem tourref2_Big_Neg.c1_ok (k : Nat) : ∀ (n : Nat) (v1 : Int) (v2 : (List Int)), Owp (tourref2_Big_Neg.c1 k n v1 v2) fun o => LTriple PR (tourref2_Big_Neg.cx k) (sub tourref2_Big_Neg.code [1, 0, 1, 0, 0]) 2 (tourref2_Big_Neg.c1p v1 v2) (tourref2_Big_Neg.c1x o) (tourref2_Big_Neg.c1n o) (tourref2_Big_Neg.c1q o)
  | 0, _, _ => fun _ h => nomatch h
  | n + 1, v1, v2 => Owp.of (tourref2_Big_Neg.c1.eq_2 ..) (
   Owp.bif (fun e3 =>
   Owp.req fun h4 =>
    fun y hy => loop_back (tourref2_Big_Neg.cok k) hmix 2 (tourref2_Big_Neg.c1p (iadd .i64 v1 (1 : Int)) (st v2 v1 (ibits .xor .u32 (el (0 : Int) v2 v1) (65535 : Int)))) [.dec true] [] [(0, 0), (1, 1)] (via (finP (And.intro (And.intro (And.intro (And.intro (And.intro trivial e3) h4) h4) h4) h4) .normal [(0, 0), (1, 1)] (tourref2_Big_Neg.c1p (iadd .i64 v1 (1 : Int)) (st v2 v1 (ibits .xor .u32 (el (0 : Int) v2 v1) (65535 : Int))))) (by kernel_rfl)) ((tourref2_Big_Neg.c1_ok k n (iadd .i64 v1 (1 : Int)) (st v2 v1 (ibits .xor .u32 (el (0 : Int) v2 v1) (65535 : Int)))).ap hy)) (fun e3 =>
   Owp.some (loop_exit (tourref2_Big_Neg.cok k) hmix [.dec false] [] [(0, 0), (1, 1)] (exne 0) (via (finP (And.intro trivial e3) (.exit 0) [(0, 0), (1, 1)] (tourref2_Big_Neg.c1q v2)) (by kernel_rfl)))))
theorem tourref2_Big_Neg.way (k : Nat) (a0 : (List Int)) : Owp (tourref2_Big_Neg k a0) fun y => ∃ answers cmds, exec PR (tourref2_Big_Neg.cx k) tourref2_Big_Neg.code 0 (entry (.pair T113 .unit) (a0, ())).st answers (Ret (tourref2_Big_Neg.cx k) Try.f170 cmds (.one (.dp T113)) y) := by
  unfold tourref2_Big_Neg; exact
   Owp.bnd fun o5 e6 =>
   Owp.bnd fun y7 e8 =>
   Owp.bnd fun y9 e10 =>
   Owp.some (⟨[.cut ⟨[], [(0, 0), (1, 1)], (tourref2_Big_Neg.c1p (0 : Int) a0), 2, (.exit 0), (tourref2_Big_Neg.c1q o5), 2⟩, .res (.one (.dp T113)) y7, .res (.one (.dp T113)) y9], [], via (cutP trivial [(0, 0), (1, 1)] (tourref2_Big_Neg.c1p (0 : Int) a0) (((tourref2_Big_Neg.c1_ok k k (0 : Int) a0).ap e6).triple) (retP (And.intro (And.intro trivial e8) e10) (.one (.dp T113)) (y9 : (List Int)))) (by kernel_rfl)⟩)
theorem tourref2_Big_Neg.ok (k : Nat) : FnOk PR 170 (tourref2_Big_Neg.sp k) :=
  fn_ok (tourref2_Big_Neg.cok k) hmix Try.func170 (code := tourref2_Big_Neg.code) (by kernel_rfl) (by kernel_rfl) (by kernel_rfl) rfl (by kernel_rfl) (by kernel_rfl) (by kernel_rfl) (fun x => Nat.le_of_ble_eq_true (by kernel_rfl)) fun x y hy => (tourref2_Big_Neg.way k x.1).ap hy

/-! (tourney/tourref2.Big).Sub -/
noncomputable def tourref2_Big_Sub.code : Code := Func.cd Try.f140
def tourref2_Big_Sub (k : Nat) (a0 : (List Int)) (a1 : (List Int)) : Option (List Int) :=
  bnd (tourref2_Big_Neg k a1) fun y1 =>
  bnd (tourref2_Big_Add k a0 y1) fun y3 =>
  some y3
noncomputable def tourref2_Big_Sub.sp (k : Nat) : Go.Sx.Spec := ⟨(.pair T113 (.pair T113 .unit)), (.one (.dp T113)), fun x => tourref2_Big_Sub k x.1 x.2.1, false⟩
noncomputable def tourref2_Big_Sub.cx (k : Nat) : Go.Sx.Ctx := ⟨tys, [(170, tourref2_Big_Neg.sp k), (138, tourref2_Big_Add.sp k)], eqs, 9, false⟩
theorem tourref2_Big_Sub.cok (k : Nat) : CtxOk PR (tourref2_Big_Sub.cx k) := ctx_ok tysOk eqsOk (FnsOk.cons (tourref2_Big_Neg.ok k) (FnsOk.cons (tourref2_Big_Add.ok k) FnsOk.nil))
theorem tourref2_Big_Sub.way (k : Nat) (a0 : (List Int)) (a1 : (List Int)) : Owp (tourref2_Big_Sub k a0 a1) fun y => ∃ answers cmds, exec PR (tourref2_Big_Sub.cx k) tourref2_Big_Sub.code 0 (entry (.pair T113 (.pair T113 .unit)) (a0, a1, ())).st answers (Ret (tourref2_Big_Sub.cx k) Try.f140 cmds (.one (.dp T113)) y) := by
  unfold tourref2_Big_Sub; exact
   Owp.bnd fun y1 e2 =>
   Owp.bnd fun y3 e4 =>
   Owp.some (⟨[.res (.one (.dp T113)) y1, .res (.one (.dp T113)) y3], [], via (retP (And.intro (And.intro trivial e2) e4) (.one (.dp T113)) (y3 : (List Int))) (by kernel_rfl)⟩)
theorem tourref2_Big_Sub.ok (k : Nat) : FnOk PR 140 (tourref2_Big_Sub.sp k) :=
  fn_ok (tourref2_Big_Sub.cok k) hmix Try.func140 (code := tourref2_Big_Sub.code) (by kernel_rfl) (by kernel_rfl) (by kernel_rfl) rfl (by kernel_rfl) (by kernel_rfl) (by kernel_rfl) (fun x => Nat.le_of_ble_eq_true (by kernel_rfl)) fun x y hy => (tourref2_Big_Sub.way k x.1 x.2.1).ap hy

/-! tourney/fix.Clamp -/
noncomputable def fix_Clamp.code : Code := Func.cd Try.f115
def fix_Clamp (k : Nat) (a0 : Int) : Option Int :=
  some (imin (imax a0 (-1099511627776)) 1099511627776)
noncomputable def fix_Clamp.sp (k : Nat) : Go.Sx.Spec := ⟨(.pair T2 .unit), (.one (.dp T2)), fun x => fix_Clamp k x.1, false⟩
noncomputable def fix_Clamp.cx (k : Nat) : Go.Sx.Ctx := ⟨tys, [], eqs, 6, false⟩
theorem fix_Clamp.cok (k : Nat) : CtxOk PR (fix_Clamp.cx k) := ctx_ok tysOk eqsOk FnsOk.nil
theorem fix_Clamp.way (k : Nat) (a0 : Int) : Owp (fix_Clamp k a0) fun y => ∃ answers cmds, exec PR (fix_Clamp.cx k) fix_Clamp.code 0 (entry (.pair T2 .unit) (a0, ())).st answers (Ret (fix_Clamp.cx k) Try.f115 cmds (.one (.dp T2)) y) := by
  unfold fix_Clamp; exact
   Owp.some (⟨[], [], via (retP trivial (.one (.dp T2)) ((imin (imax a0 (-1099511627776 : Int)) (1099511627776 : Int)) : Int)) (by kernel_rfl)⟩)
theorem fix_Clamp.ok (k : Nat) : FnOk PR 115 (fix_Clamp.sp k) :=
  fn_ok (fix_Clamp.cok k) hmix Try.func115 (code := fix_Clamp.code) (by kernel_rfl) (by kernel_rfl) (by kernel_rfl) rfl (by kernel_rfl) (by kernel_rfl) (by kernel_rfl) (fun x => Nat.le_of_ble_eq_true (by kernel_rfl)) fun x y hy => (fix_Clamp.way k x.1).ap hy

/-! tourney/fix.mag -/
noncomputable def fix_mag.code : Code := Func.cd Try.f155
def fix_mag (k : Nat) (a0 : Int) : Option Int :=
  bif' (ilt a0 0)
  (some (icv .u64 (ineg .i64 a0)))
  (some (icv .u64 a0))
noncomputable def fix_mag.sp (k : Nat) : Go.Sx.Spec := ⟨(.pair T2 .unit), (.one (.dp T12)), fun x => fix_mag k x.1, false⟩
noncomputable def fix_mag.cx (k : Nat) : Go.Sx.Ctx := ⟨tys, [], eqs, 10, false⟩
theorem fix_mag.cok (k : Nat) : CtxOk PR (fix_mag.cx k) := ctx_ok tysOk eqsOk FnsOk.nil
theorem fix_mag.way (k : Nat) (a0 : Int) : Owp (fix_mag k a0) fun y => ∃ answers cmds, exec PR (fix_mag.cx k) fix_mag.code 0 (entry (.pair T2 .unit) (a0, ())).st answers (Ret (fix_mag.cx k) Try.f155 cmds (.one (.dp T12)) y) := by
  unfold fix_mag; exact
   Owp.bif (fun e1 =>
   Owp.some (⟨[.dec true], [], via (retP (And.intro trivial e1) (.one (.dp T12)) ((icv .u64 (ineg .i64 a0)) : Int)) (by kernel_rfl)⟩)) (fun e1 =>
   Owp.some (⟨[.dec false], [], via (retP (And.intro trivial e1) (.one (.dp T12)) ((icv .u64 a0) : Int)) (by kernel_rfl)⟩))
theorem fix_mag.ok (k : Nat) : FnOk PR 155 (fix_mag.sp k) :=
  fn_ok (fix_mag.cok k) hmix Try.func155 (code := fix_mag.code) (by kernel_rfl) (by kernel_rfl) (by kernel_rfl) rfl (by kernel_rfl) (by kernel_rfl) (by kernel_rfl) (fun x => Nat.le_of_ble_eq_true (by kernel_rfl)) fun x y hy => (fix_mag.way k x.1).ap hy

end Go.Proofs.T1
