import Derived.Test.YtcgcnojpcgjnmaaG0
import Derived.Test.YtcgcnojpcgjnmaaG1
namespace Go.Proofs.T1
open Go Go.Sx Go.Proofs
set_option maxRecDepth 100000
set_option linter.unusedVariables false
/-! tourney/tourref2.Of -/
noncomputable def tourref2_Of.code : Code := Func.cd Try.f159
def tourref2_Of.c1 (k : Nat) (a0 : Int) : Nat → Int → (List Int) → Option ((List Int))
  | 0, _, _ => none
  | n + 1, v1, v2 =>
   bif' (ilt v1 8)
   (bif' (ilt v1 4)
    (req (ng (imul .i64 16 v1)) <|
     req (inR v1 8) <|
     tourref2_Of.c1 k a0 n (iadd .i64 v1 1) (st v2 v1 (icv .u32 (ibits .and .u64 (ishr .u64 (icv .u64 a0) (imul .i64 16 v1)) 65535))))
    (bif' (ilt a0 0)
     (req (inR v1 8) <|
      tourref2_Of.c1 k a0 n (iadd .i64 v1 1) (st v2 v1 65535))
     (tourref2_Of.c1 k a0 n (iadd .i64 v1 1) v2)))
   (some v2)
def tourref2_Of (k : Nat) (a0 : Int) : Option (List Int) :=
  bnd (tourref2_Of.c1 k a0 k 0 (List.replicate 8 0)) fun o9 =>
  some o9
noncomputable def tourref2_Of.sp (k : Nat) : Go.Sx.Spec := ⟨(.pair T2 .unit), (.one (.dp T134)), fun x => tourref2_Of k x.1, false⟩
noncomputable def tourref2_Of.cx (k : Nat) : Go.Sx.Ctx := ⟨tys, [], eqs, 27, 0, [], false⟩
theorem tourref2_Of.cok (k : Nat) : CtxOk PR (tourref2_Of.cx k) := ctx_ok tysOk eqsOk FnsOk.nil HsOk.nil
noncomputable def tourref2_Of.c1p (a0 : Int) (v1 : Int) (v2 : (List Int)) : SL := ⟨[(0, (.val T2 a0)), (2, (.val .ptr ⟨0, 0, (0 : Int), 0, 0⟩)), (3, (.val .ptr ⟨1, 0, (0 : Int), 0, 0⟩)), (4, (.val T12 (icv .u64 a0))), (8, (.val T2 v1))], [(0, .cells T134 (List.replicate 8 (0 : Int))), (1, .cells T134 v2)]⟩
noncomputable def tourref2_Of.c1q (o : (List Int)) : SL := (fun v => ⟨[(2, (.val .ptr ⟨0, 0, (0 : Int), 0, 0⟩)), (3, (.val .ptr ⟨1, 0, (0 : Int), 0, 0⟩))], [(0, .cells T134 (List.replicate 8 (0 : Int))), (1, .cells T134 v)]⟩) o
noncomputable def tourref2_Of.c1x (o : (List Int)) : Ex := (fun _ => (.exit 0)) o
noncomputable def tourref2_Of.c1n (o : (List Int)) : Nat := (fun _ => 2) o
theorem tourref2_Of.c1_ok (k : Nat) (a0 : Int) : ∀ (n : Nat) (v1 : Int) (v2 : (List Int)), Owp (tourref2_Of.c1 k a0 n v1 v2) fun o => LTriple PR (tourref2_Of.cx k) (sub tourref2_Of.code [1, 1, 1, 0, 1, 0, 0]) 2 (tourref2_Of.c1p a0 v1 v2) (tourref2_Of.c1x o) (tourref2_Of.c1n o) (tourref2_Of.c1q o)
  | 0, _, _ => fun _ h => nomatch h
  | n + 1, v1, v2 => Owp.of (tourref2_Of.c1.eq_2 ..) (
   Owp.bif (fun e3 =>
   Owp.bif (fun e4 =>
    Owp.req fun h5 =>
     Owp.req fun h6 =>
     fun y hy => loop_back (tourref2_Of.cok k) hmix 2 (tourref2_Of.c1p a0 (iadd .i64 v1 (1 : Int)) (st v2 v1 (icv .u32 (ibits .and .u64 (ishr .u64 (icv .u64 a0) (imul .i64 (16 : Int) v1)) (65535 : Int))))) [.dec true, .dec true] [] [(0, 0), (1, 1)] (via (finP (And.intro (And.intro (And.intro (And.intro (And.intro trivial e3) e4) h5) h6) h6) .normal [(0, 0), (1, 1)] (tourref2_Of.c1p a0 (iadd .i64 v1 (1 : Int)) (st v2 v1 (icv .u32 (ibits .and .u64 (ishr .u64 (icv .u64 a0) (imul .i64 (16 : Int) v1)) (65535 : Int)))))) (by kernel_rfl)) ((tourref2_Of.c1_ok k a0 n (iadd .i64 v1 (1 : Int)) (st v2 v1 (icv .u32 (ibits .and .u64 (ishr .u64 (icv .u64 a0) (imul .i64 (16 : Int) v1)) (65535 : Int))))).ap hy)) (fun e4 =>
    Owp.bif (fun e7 =>
     Owp.req fun h8 =>
      fun y hy => loop_back (tourref2_Of.cok k) hmix 2 (tourref2_Of.c1p a0 (iadd .i64 v1 (1 : Int)) (st v2 v1 (65535 : Int))) [.dec true, .dec false, .dec true] [] [(0, 0), (1, 1)] (via (finP (And.intro (And.intro (And.intro (And.intro (And.intro trivial e3) e4) e7) h8) h8) .normal [(0, 0), (1, 1)] (tourref2_Of.c1p a0 (iadd .i64 v1 (1 : Int)) (st v2 v1 (65535 : Int)))) (by kernel_rfl)) ((tourref2_Of.c1_ok k a0 n (iadd .i64 v1 (1 : Int)) (st v2 v1 (65535 : Int))).ap hy)) (fun e7 =>
     fun y hy => loop_back (tourref2_Of.cok k) hmix 2 (tourref2_Of.c1p a0 (iadd .i64 v1 (1 : Int)) v2) [.dec true, .dec false, .dec false] [] [(0, 0), (1, 1)] (via (finP (And.intro (And.intro (And.intro trivial e3) e4) e7) .normal [(0, 0), (1, 1)] (tourref2_Of.c1p a0 (iadd .i64 v1 (1 : Int)) v2)) (by kernel_rfl)) ((tourref2_Of.c1_ok k a0 n (iadd .i64 v1 (1 : Int)) v2).ap hy)))) (fun e3 =>
   Owp.some (loop_exit (tourref2_Of.cok k) hmix [.dec false] [] [(0, 0), (1, 1)] (exne 0) (via (finP (And.intro trivial e3) (.exit 0) [(0, 0), (1, 1)] (tourref2_Of.c1q v2)) (by kernel_rfl)))))
theorem tourref2_Of.way (k : Nat) (a0 : Int) : Owp (tourref2_Of k a0) fun y => ∃ answers cmds, exec PR (tourref2_Of.cx k) tourref2_Of.code 0 (entry (.pair T2 .unit) (a0, ())).st answers (Ret (tourref2_Of.cx k) Try.f159 cmds (.one (.dp T134)) y) := by
  unfold tourref2_Of; exact
   Owp.bnd fun o9 e10 =>
   Owp.some (⟨[.cut ⟨[], [(0, 0), (1, 1)], (tourref2_Of.c1p a0 (0 : Int) (List.replicate 8 (0 : Int))), 2, (.exit 0), (tourref2_Of.c1q o9), 2⟩], [], via (cutP trivial [(0, 0), (1, 1)] (tourref2_Of.c1p a0 (0 : Int) (List.replicate 8 (0 : Int))) (((tourref2_Of.c1_ok k a0 k (0 : Int) (List.replicate 8 (0 : Int))).ap e10).triple) (retP trivial (.one (.dp T134)) (o9 : (List Int)))) (by kernel_rfl)⟩)
theorem tourref2_Of.ok (k : Nat) : FnOk PR 159 (tourref2_Of.sp k) :=
  fn_ok (tourref2_Of.cok k) hmix Try.func159 (code := tourref2_Of.code) (by kernel_rfl) (by kernel_rfl) (by kernel_rfl) rfl rfl (by kernel_rfl) (by kernel_rfl) (by kernel_rfl) (fun x => Nat.le_of_ble_eq_true (by kernel_rfl)) fun x y hy => (tourref2_Of.way k x.1).ap hy

/-! (tourney/tourref2.Big).Add -/
noncomputable def tourref2_Big_Add.code : Code := Func.cd Try.f178
def tourref2_Big_Add.c1 (k : Nat) (a0 : (List Int)) (a1 : (List Int)) : Nat → Int → Int → (List Int) → Option ((List Int))
  | 0, _, _, _ => none
  | n + 1, v1, v2, v3 =>
   bif' (ilt v2 8)
   (req (inR v2 8) <|
    tourref2_Big_Add.c1 k a0 a1 n (ishr .u32 (iadd .u32 v1 (iadd .u32 (el 0 a0 v2) (el 0 a1 v2))) 16) (iadd .i64 v2 1) (st v3 v2 (ibits .and .u32 (iadd .u32 v1 (iadd .u32 (el 0 a0 v2) (el 0 a1 v2))) 65535)))
   (some v3)
def tourref2_Big_Add (k : Nat) (a0 : (List Int)) (a1 : (List Int)) : Option (List Int) :=
  bnd (tourref2_Big_Add.c1 k a0 a1 k 0 0 (List.replicate 8 0)) fun o6 =>
  some o6
noncomputable def tourref2_Big_Add.sp (k : Nat) : Go.Sx.Spec := ⟨(.pair T134 (.pair T134 .unit)), (.one (.dp T134)), fun x => tourref2_Big_Add k x.1 x.2.1, false⟩
noncomputable def tourref2_Big_Add.cx (k : Nat) : Go.Sx.Ctx := ⟨tys, [], eqs, 28, 0, [], false⟩
theorem tourref2_Big_Add.cok (k : Nat) : CtxOk PR (tourref2_Big_Add.cx k) := ctx_ok tysOk eqsOk FnsOk.nil HsOk.nil
noncomputable def tourref2_Big_Add.c1p (a0 : (List Int)) (a1 : (List Int)) (v1 : Int) (v2 : Int) (v3 : (List Int)) : SL := ⟨[(2, (.val .ptr ⟨0, 0, (0 : Int), 0, 0⟩)), (3, (.val .ptr ⟨1, 0, (0 : Int), 0, 0⟩)), (4, (.val .ptr ⟨2, 0, (0 : Int), 0, 0⟩)), (5, (.val .ptr ⟨3, 0, (0 : Int), 0, 0⟩)), (6, (.val T133 v1)), (8, (.val T2 v2))], [(0, .cells T134 a0), (1, .cells T134 a1), (2, .cells T134 (List.replicate 8 (0 : Int))), (3, .cells T134 v3)]⟩
noncomputable def tourref2_Big_Add.c1q (o : (List Int)) : SL := (fun v => ⟨[(4, (.val .ptr ⟨0, 0, (0 : Int), 0, 0⟩)), (5, (.val .ptr ⟨1, 0, (0 : Int), 0, 0⟩))], [(0, .cells T134 (List.replicate 8 (0 : Int))), (1, .cells T134 v)]⟩) o
noncomputable def tourref2_Big_Add.c1x (o : (List Int)) : Ex := (fun _ => (.exit 0)) o
noncomputable def tourref2_Big_Add.c1n (o : (List Int)) : Nat := (fun _ => 2) o
theorem tourref2_Big_Add.c1_ok (k : Nat) (a0 : (List Int)) (a1 : (List Int)) : ∀ (n : Nat) (v1 : Int) (v2 : Int) (v3 : (List Int)), Owp (tourref2_Big_Add.c1 k a0 a1 n v1 v2 v3) fun o => LTriple PR (tourref2_Big_Add.cx k) (sub tourref2_Big_Add.code [1, 1, 1, 0, 1, 0, 0]) 4 (tourref2_Big_Add.c1p a0 a1 v1 v2 v3) (tourref2_Big_Add.c1x o) (tourref2_Big_Add.c1n o) (tourref2_Big_Add.c1q o)
  | 0, _, _, _ => fun _ h => nomatch h
  | n + 1, v1, v2, v3 => Owp.of (tourref2_Big_Add.c1.eq_2 ..) (
   Owp.bif (fun e4 =>
   Owp.req fun h5 =>
    fun y hy => loop_back (tourref2_Big_Add.cok k) hmix 4 (tourref2_Big_Add.c1p a0 a1 (ishr .u32 (iadd .u32 v1 (iadd .u32 (el (0 : Int) a0 v2) (el (0 : Int) a1 v2))) (16 : Int)) (iadd .i64 v2 (1 : Int)) (st v3 v2 (ibits .and .u32 (iadd .u32 v1 (iadd .u32 (el (0 : Int) a0 v2) (el (0 : Int) a1 v2))) (65535 : Int)))) [.dec true] [] [(0, 0), (1, 1), (2, 2), (3, 3)] (via (finP (And.intro (And.intro (And.intro (And.intro (And.intro (And.intro (And.intro (And.intro trivial e4) h5) h5) h5) h5) (by decide : ng (16 : Int))) h5) h5) .normal [(0, 0), (1, 1), (2, 2), (3, 3)] (tourref2_Big_Add.c1p a0 a1 (ishr .u32 (iadd .u32 v1 (iadd .u32 (el (0 : Int) a0 v2) (el (0 : Int) a1 v2))) (16 : Int)) (iadd .i64 v2 (1 : Int)) (st v3 v2 (ibits .and .u32 (iadd .u32 v1 (iadd .u32 (el (0 : Int) a0 v2) (el (0 : Int) a1 v2))) (65535 : Int))))) (by kernel_rfl)) ((tourref2_Big_Add.c1_ok k a0 a1 n (ishr .u32 (iadd .u32 v1 (iadd .u32 (el (0 : Int) a0 v2) (el (0 : Int) a1 v2))) (16 : Int)) (iadd .i64 v2 (1 : Int)) (st v3 v2 (ibits .and .u32 (iadd .u32 v1 (iadd .u32 (el (0 : Int) a0 v2) (el (0 : Int) a1 v2))) (65535 : Int)))).ap hy)) (fun e4 =>
   Owp.some (loop_exit (tourref2_Big_Add.cok k) hmix [.dec false] [] [(0, 2), (1, 3)] (exne 0) (via (finP (And.intro trivial e4) (.exit 0) [(0, 2), (1, 3)] (tourref2_Big_Add.c1q v3)) (by kernel_rfl)))))
theorem tourref2_Big_Add.way (k : Nat) (a0 : (List Int)) (a1 : (List Int)) : Owp (tourref2_Big_Add k a0 a1) fun y => ∃ answers cmds, exec PR (tourref2_Big_Add.cx k) tourref2_Big_Add.code 0 (entry (.pair T134 (.pair T134 .unit)) (a0, a1, ())).st answers (Ret (tourref2_Big_Add.cx k) Try.f178 cmds (.one (.dp T134)) y) := by
  unfold tourref2_Big_Add; exact
   Owp.bnd fun o6 e7 =>
   Owp.some (⟨[.cut ⟨[], [(0, 0), (1, 1), (2, 2), (3, 3)], (tourref2_Big_Add.c1p a0 a1 (0 : Int) (0 : Int) (List.replicate 8 (0 : Int))), 4, (.exit 0), (tourref2_Big_Add.c1q o6), 2⟩], [], via (cutP trivial [(0, 0), (1, 1), (2, 2), (3, 3)] (tourref2_Big_Add.c1p a0 a1 (0 : Int) (0 : Int) (List.replicate 8 (0 : Int))) (((tourref2_Big_Add.c1_ok k a0 a1 k (0 : Int) (0 : Int) (List.replicate 8 (0 : Int))).ap e7).triple) (retP trivial (.one (.dp T134)) (o6 : (List Int)))) (by kernel_rfl)⟩)
theorem tourref2_Big_Add.ok (k : Nat) : FnOk PR 178 (tourref2_Big_Add.sp k) :=
  fn_ok (tourref2_Big_Add.cok k) hmix Try.func178 (code := tourref2_Big_Add.code) (by kernel_rfl) (by kernel_rfl) (by kernel_rfl) rfl rfl (by kernel_rfl) (by kernel_rfl) (by kernel_rfl) (fun x => Nat.le_of_ble_eq_true (by kernel_rfl)) fun x y hy => (tourref2_Big_Add.way k x.1 x.2.1).ap hy

/-! (tourney/tourref2.Big).Neg -/
noncomputable def tourref2_Big_Neg.code : Code := Func.cd Try.f180
def tourref2_Big_Neg.c1 (k : Nat) : Nat → Int → (List Int) → Option ((List Int))
  | 0, _, _ => none
  | n + 1, v1, v2 =>
   bif' (ilt v1 8)
   (req (inR v1 8) <|
    tourref2_Big_Neg.c1 k n (iadd .i64 v1 1) (st v2 v1 (ibits .xor .u32 (el 0 v2 v1) 65535)))
   (some v2)
def tourref2_Big_Neg (k : Nat) (a0 : (List Int)) : Option (List Int) :=
  bnd (tourref2_Big_Neg.c1 k k 0 a0) fun o5 =>
  bnd (tourref2_Of k 1) fun y7 =>
  bnd (tourref2_Big_Add k o5 y7) fun y9 =>
  some y9
noncomputable def tourref2_Big_Neg.sp (k : Nat) : Go.Sx.Spec := ⟨(.pair T134 .unit), (.one (.dp T134)), fun x => tourref2_Big_Neg k x.1, false⟩
noncomputable def tourref2_Big_Neg.cx (k : Nat) : Go.Sx.Ctx := ⟨tys, [(159, tourref2_Of.sp k), (178, tourref2_Big_Add.sp k)], eqs, 16, 0, [], false⟩
theorem tourref2_Big_Neg.cok (k : Nat) : CtxOk PR (tourref2_Big_Neg.cx k) := ctx_ok tysOk eqsOk (FnsOk.cons (tourref2_Of.ok k) (FnsOk.cons (tourref2_Big_Add.ok k) FnsOk.nil)) HsOk.nil
noncomputable def tourref2_Big_Neg.c1p (v1 : Int) (v2 : (List Int)) : SL := ⟨[(1, (.val .ptr ⟨0, 0, (0 : Int), 0, 0⟩)), (2, (.val .ptr ⟨1, 0, (0 : Int), 0, 0⟩)), (4, (.val T2 v1))], [(0, .cells T134 v2), (1, .cells T134 (List.replicate 8 (0 : Int)))]⟩
noncomputable def tourref2_Big_Neg.c1q (o : (List Int)) : SL := (fun v => ⟨[(1, (.val .ptr ⟨0, 0, (0 : Int), 0, 0⟩)), (2, (.val .ptr ⟨1, 0, (0 : Int), 0, 0⟩))], [(0, .cells T134 v), (1, .cells T134 (List.replicate 8 (0 : Int)))]⟩) o
noncomputable def tourref2_Big_Neg.c1x (o : (List Int)) : Ex := (fun _ => (.exit 0)) o
noncomputable def tourref2_Big_Neg.c1n (o : (List Int)) : Nat := (fun _ => 2) o
theorem tourref2_Big_Neg.c1_ok (k : Nat) : ∀ (n : Nat) (v1 : Int) (v2 : (List Int)), Owp (tourref2_Big_Neg.c1 k n v1 v2) fun o => LTriple PR (tourref2_Big_Neg.cx k) (sub tourref2_Big_Neg.code [1, 0, 1, 0, 0]) 2 (tourref2_Big_Neg.c1p v1 v2) (tourref2_Big_Neg.c1x o) (tourref2_Big_Neg.c1n o) (tourref2_Big_Neg.c1q o)
  | 0, _, _ => fun _ h => nomatch h
  | n + 1, v1, v2 => Owp.of (tourref2_Big_Neg.c1.eq_2 ..) (
   Owp.bif (fun e3 =>
   Owp.req fun h4 =>
    fun y hy => loop_back (tourref2_Big_Neg.cok k) hmix 2 (tourref2_Big_Neg.c1p (iadd .i64 v1 (1 : Int)) (st v2 v1 (ibits .xor .u32 (el (0 : Int) v2 v1) (65535 : Int)))) [.dec true] [] [(0, 0), (1, 1)] (via (finP (And.intro (And.intro (And.intro (And.intro (And.intro trivial e3) h4) h4) h4) h4) .normal [(0, 0), (1, 1)] (tourref2_Big_Neg.c1p (iadd .i64 v1 (1 : Int)) (st v2 v1 (ibits .xor .u32 (el (0 : Int) v2 v1) (65535 : Int))))) (by kernel_rfl)) ((tourref2_Big_Neg.c1_ok k n (iadd .i64 v1 (1 : Int)) (st v2 v1 (ibits .xor .u32 (el (0 : Int) v2 v1) (65535 : Int)))).ap hy)) (fun e3 =>
   Owp.some (loop_exit (tourref2_Big_Neg.cok k) hmix [.dec false] [] [(0, 0), (1, 1)] (exne 0) (via (finP (And.intro trivial e3) (.exit 0) [(0, 0), (1, 1)] (tourref2_Big_Neg.c1q v2)) (by kernel_rfl)))))
theorem tourref2_Big_Neg.way (k : Nat) (a0 : (List Int)) : Owp (tourref2_Big_Neg k a0) fun y => ∃ answers cmds, exec PR (tourref2_Big_Neg.cx k) tourref2_Big_Neg.code 0 (entry (.pair T134 .unit) (a0, ())).st answers (Ret (tourref2_Big_Neg.cx k) Try.f180 cmds (.one (.dp T134)) y) := by
  unfold tourref2_Big_Neg; exact
   Owp.bnd fun o5 e6 =>
   Owp.bnd fun y7 e8 =>
   Owp.bnd fun y9 e10 =>
   Owp.some (⟨[.cut ⟨[], [(0, 0), (1, 1)], (tourref2_Big_Neg.c1p (0 : Int) a0), 2, (.exit 0), (tourref2_Big_Neg.c1q o5), 2⟩, .res (.one (.dp T134)) y7, .res (.one (.dp T134)) y9], [], via (cutP trivial [(0, 0), (1, 1)] (tourref2_Big_Neg.c1p (0 : Int) a0) (((tourref2_Big_Neg.c1_ok k k (0 : Int) a0).ap e6).triple) (retP (And.intro (And.intro trivial e8) e10) (.one (.dp T134)) (y9 : (List Int)))) (by kernel_rfl)⟩)
theorem tourref2_Big_Neg.ok (k : Nat) : FnOk PR 180 (tourref2_Big_Neg.sp k) :=
  fn_ok (tourref2_Big_Neg.cok k) hmix Try.func180 (code := tourref2_Big_Neg.code) (by kernel_rfl) (by kernel_rfl) (by kernel_rfl) rfl rfl (by kernel_rfl) (by kernel_rfl) (by kernel_rfl) (fun x => Nat.le_of_ble_eq_true (by kernel_rfl)) fun x y hy => (tourref2_Big_Neg.way k x.1).ap hy

/-! (tourney/tourref2.Big).Sub -/
noncomputable def tourref2_Big_Sub.code : Code := Func.cd Try.f189
def tourref2_Big_Sub (k : Nat) (a0 : (List Int)) (a1 : (List Int)) : Option (List Int) :=
  bnd (tourref2_Big_Neg k a1) fun y1 =>
  bnd (tourref2_Big_Add k a0 y1) fun y3 =>
  some y3
noncomputable def tourref2_Big_Sub.sp (k : Nat) : Go.Sx.Spec := ⟨(.pair T134 (.pair T134 .unit)), (.one (.dp T134)), fun x => tourref2_Big_Sub k x.1 x.2.1, false⟩
noncomputable def tourref2_Big_Sub.cx (k : Nat) : Go.Sx.Ctx := ⟨tys, [(180, tourref2_Big_Neg.sp k), (178, tourref2_Big_Add.sp k)], eqs, 9, 0, [], false⟩
theorem tourref2_Big_Sub.cok (k : Nat) : CtxOk PR (tourref2_Big_Sub.cx k) := ctx_ok tysOk eqsOk (FnsOk.cons (tourref2_Big_Neg.ok k) (FnsOk.cons (tourref2_Big_Add.ok k) FnsOk.nil)) HsOk.nil
theorem tourref2_Big_Sub.way (k : Nat) (a0 : (List Int)) (a1 : (List Int)) : Owp (tourref2_Big_Sub k a0 a1) fun y => ∃ answers cmds, exec PR (tourref2_Big_Sub.cx k) tourref2_Big_Sub.code 0 (entry (.pair T134 (.pair T134 .unit)) (a0, a1, ())).st answers (Ret (tourref2_Big_Sub.cx k) Try.f189 cmds (.one (.dp T134)) y) := by
  unfold tourref2_Big_Sub; exact
   Owp.bnd fun y1 e2 =>
   Owp.bnd fun y3 e4 =>
   Owp.some (⟨[.res (.one (.dp T134)) y1, .res (.one (.dp T134)) y3], [], via (retP (And.intro (And.intro trivial e2) e4) (.one (.dp T134)) (y3 : (List Int))) (by kernel_rfl)⟩)
theorem tourref2_Big_Sub.ok (k : Nat) : FnOk PR 189 (tourref2_Big_Sub.sp k) :=
  fn_ok (tourref2_Big_Sub.cok k) hmix Try.func189 (code := tourref2_Big_Sub.code) (by kernel_rfl) (by kernel_rfl) (by kernel_rfl) rfl rfl (by kernel_rfl) (by kernel_rfl) (by kernel_rfl) (fun x => Nat.le_of_ble_eq_true (by kernel_rfl)) fun x y hy => (tourref2_Big_Sub.way k x.1 x.2.1).ap hy

/-! (tourney/tourref2.Big).Mul -/
noncomputable def tourref2_Big_Mul.code : Code := Func.cd Try.f177
def tourref2_Big_Mul.c2 (k : Nat) (a0 : (List Int)) (a1 : (List Int)) (v1 : Int) : Nat → Int → Int → (List Int) → Option ((List Int))
  | 0, _, _, _ => none
  | n + 1, v4, v5, v6 =>
   bif' (ilt (iadd .i64 v1 v5) 8)
   (req (inR v1 8) <|
    req (inR v5 8) <|
    req (inR (iadd .i64 v1 v5) 8) <|
    tourref2_Big_Mul.c2 k a0 a1 v1 n (ishr .u64 (iadd .u64 v4 (iadd .u64 (imul .u64 (icv .u64 (el 0 a0 v1)) (icv .u64 (el 0 a1 v5))) (icv .u64 (el 0 v6 (iadd .i64 v1 v5))))) 16) (iadd .i64 v5 1) (st v6 (iadd .i64 v1 v5) (icv .u32 (ibits .and .u64 (iadd .u64 v4 (iadd .u64 (imul .u64 (icv .u64 (el 0 a0 v1)) (icv .u64 (el 0 a1 v5))) (icv .u64 (el 0 v6 (iadd .i64 v1 v5))))) 65535))))
   (some v6)
def tourref2_Big_Mul.c1 (k : Nat) (a0 : (List Int)) (a1 : (List Int)) : Nat → Int → (List Int) → Option ((List Int))
  | 0, _, _ => none
  | n + 1, v1, v2 =>
   bif' (ilt v1 8)
   (bnd (tourref2_Big_Mul.c2 k a0 a1 v1 k 0 0 v2) fun o11 =>
    tourref2_Big_Mul.c1 k a0 a1 n (iadd .i64 v1 1) o11)
   (some v2)
def tourref2_Big_Mul (k : Nat) (a0 : (List Int)) (a1 : (List Int)) : Option (List Int) :=
  bnd (tourref2_Big_Mul.c1 k a0 a1 k 0 (List.replicate 8 0)) fun o13 =>
  some o13
noncomputable def tourref2_Big_Mul.sp (k : Nat) : Go.Sx.Spec := ⟨(.pair T134 (.pair T134 .unit)), (.one (.dp T134)), fun x => tourref2_Big_Mul k x.1 x.2.1, false⟩
noncomputable def tourref2_Big_Mul.cx (k : Nat) : Go.Sx.Ctx := ⟨tys, [], eqs, 47, 0, [], false⟩
theorem tourref2_Big_Mul.cok (k : Nat) : CtxOk PR (tourref2_Big_Mul.cx k) := ctx_ok tysOk eqsOk FnsOk.nil HsOk.nil
noncomputable def tourref2_Big_Mul.c2p (a0 : (List Int)) (a1 : (List Int)) (v1 : Int) (v4 : Int) (v5 : Int) (v6 : (List Int)) : SL := ⟨[(2, (.val .ptr ⟨0, 0, (0 : Int), 0, 0⟩)), (3, (.val .ptr ⟨1, 0, (0 : Int), 0, 0⟩)), (4, (.val .ptr ⟨2, 0, (0 : Int), 0, 0⟩)), (5, (.val .ptr ⟨3, 0, (0 : Int), 0, 0⟩)), (6, (.val T2 v1)), (7, (.val T12 v4)), (8, (.val T2 v5)), (9, (.val T2 v1))], [(0, .cells T134 a0), (1, .cells T134 a1), (2, .cells T134 (List.replicate 8 (0 : Int))), (3, .cells T134 v6)]⟩
noncomputable def tourref2_Big_Mul.c2q (a0 : (List Int)) (a1 : (List Int)) (v1 : Int) (o : (List Int)) : SL := (fun v => ⟨[(2, (.val .ptr ⟨0, 0, (0 : Int), 0, 0⟩)), (3, (.val .ptr ⟨1, 0, (0 : Int), 0, 0⟩)), (4, (.val .ptr ⟨2, 0, (0 : Int), 0, 0⟩)), (5, (.val .ptr ⟨3, 0, (0 : Int), 0, 0⟩)), (9, (.val T2 v1))], [(0, .cells T134 a0), (1, .cells T134 a1), (2, .cells T134 (List.replicate 8 (0 : Int))), (3, .cells T134 v)]⟩) o
noncomputable def tourref2_Big_Mul.c2x (o : (List Int)) : Ex := (fun _ => (.exit 2)) o
noncomputable def tourref2_Big_Mul.c2n (o : (List Int)) : Nat := (fun _ => 4) o
theorem tourref2_Big_Mul.c2_ok (k : Nat) (a0 : (List Int)) (a1 : (List Int)) (v1 : Int) : ∀ (n : Nat) (v4 : Int) (v5 : Int) (v6 : (List Int)), Owp (tourref2_Big_Mul.c2 k a0 a1 v1 n v4 v5 v6) fun o => LTriple PR (tourref2_Big_Mul.cx k) (sub tourref2_Big_Mul.code [1, 1, 0, 1, 0, 0, 1, 1, 0, 0, 1, 1, 1, 0, 0]) 4 (tourref2_Big_Mul.c2p a0 a1 v1 v4 v5 v6) (tourref2_Big_Mul.c2x o) (tourref2_Big_Mul.c2n o) (tourref2_Big_Mul.c2q a0 a1 v1 o)
  | 0, _, _, _ => fun _ h => nomatch h
  | n + 1, v4, v5, v6 => Owp.of (tourref2_Big_Mul.c2.eq_2 ..) (
   Owp.bif (fun e7 =>
   Owp.req fun h8 =>
    Owp.req fun h9 =>
    Owp.req fun h10 =>
    fun y hy => loop_back (tourref2_Big_Mul.cok k) hmix 4 (tourref2_Big_Mul.c2p a0 a1 v1 (ishr .u64 (iadd .u64 v4 (iadd .u64 (imul .u64 (icv .u64 (el (0 : Int) a0 v1)) (icv .u64 (el (0 : Int) a1 v5))) (icv .u64 (el (0 : Int) v6 (iadd .i64 v1 v5))))) (16 : Int)) (iadd .i64 v5 (1 : Int)) (st v6 (iadd .i64 v1 v5) (icv .u32 (ibits .and .u64 (iadd .u64 v4 (iadd .u64 (imul .u64 (icv .u64 (el (0 : Int) a0 v1)) (icv .u64 (el (0 : Int) a1 v5))) (icv .u64 (el (0 : Int) v6 (iadd .i64 v1 v5))))) (65535 : Int))))) [.dec true] [] [(0, 0), (1, 1), (2, 2), (3, 3)] (via (finP (And.intro (And.intro (And.intro (And.intro (And.intro (And.intro (And.intro (And.intro (And.intro (And.intro trivial e7) h8) h8) h9) h9) h10) h10) (by decide : ng (16 : Int))) h10) h10) .normal [(0, 0), (1, 1), (2, 2), (3, 3)] (tourref2_Big_Mul.c2p a0 a1 v1 (ishr .u64 (iadd .u64 v4 (iadd .u64 (imul .u64 (icv .u64 (el (0 : Int) a0 v1)) (icv .u64 (el (0 : Int) a1 v5))) (icv .u64 (el (0 : Int) v6 (iadd .i64 v1 v5))))) (16 : Int)) (iadd .i64 v5 (1 : Int)) (st v6 (iadd .i64 v1 v5) (icv .u32 (ibits .and .u64 (iadd .u64 v4 (iadd .u64 (imul .u64 (icv .u64 (el (0 : Int) a0 v1)) (icv .u64 (el (0 : Int) a1 v5))) (icv .u64 (el (0 : Int) v6 (iadd .i64 v1 v5))))) (65535 : Int)))))) (by kernel_rfl)) ((tourref2_Big_Mul.c2_ok k a0 a1 v1 n (ishr .u64 (iadd .u64 v4 (iadd .u64 (imul .u64 (icv .u64 (el (0 : Int) a0 v1)) (icv .u64 (el (0 : Int) a1 v5))) (icv .u64 (el (0 : Int) v6 (iadd .i64 v1 v5))))) (16 : Int)) (iadd .i64 v5 (1 : Int)) (st v6 (iadd .i64 v1 v5) (icv .u32 (ibits .and .u64 (iadd .u64 v4 (iadd .u64 (imul .u64 (icv .u64 (el (0 : Int) a0 v1)) (icv .u64 (el (0 : Int) a1 v5))) (icv .u64 (el (0 : Int) v6 (iadd .i64 v1 v5))))) (65535 : Int))))).ap hy)) (fun e7 =>
   Owp.some (loop_exit (tourref2_Big_Mul.cok k) hmix [.dec false] [] [(0, 0), (1, 1), (2, 2), (3, 3)] (exne 2) (via (finP (And.intro trivial e7) (.exit 2) [(0, 0), (1, 1), (2, 2), (3, 3)] (tourref2_Big_Mul.c2q a0 a1 v1 v6)) (by kernel_rfl)))))
noncomputable def tourref2_Big_Mul.c1p (a0 : (List Int)) (a1 : (List Int)) (v1 : Int) (v2 : (List Int)) : SL := ⟨[(2, (.val .ptr ⟨0, 0, (0 : Int), 0, 0⟩)), (3, (.val .ptr ⟨1, 0, (0 : Int), 0, 0⟩)), (4, (.val .ptr ⟨2, 0, (0 : Int), 0, 0⟩)), (5, (.val .ptr ⟨3, 0, (0 : Int), 0, 0⟩)), (9, (.val T2 v1))], [(0, .cells T134 a0), (1, .cells T134 a1), (2, .cells T134 (List.replicate 8 (0 : Int))), (3, .cells T134 v2)]⟩
noncomputable def tourref2_Big_Mul.c1q (o : (List Int)) : SL := (fun v => ⟨[(4, (.val .ptr ⟨0, 0, (0 : Int), 0, 0⟩)), (5, (.val .ptr ⟨1, 0, (0 : Int), 0, 0⟩))], [(0, .cells T134 (List.replicate 8 (0 : Int))), (1, .cells T134 v)]⟩) o
noncomputable def tourref2_Big_Mul.c1x (o : (List Int)) : Ex := (fun _ => (.exit 0)) o
noncomputable def tourref2_Big_Mul.c1n (o : (List Int)) : Nat := (fun _ => 2) o
theorem tourref2_Big_Mul.c1_ok (k : Nat) (a0 : (List Int)) (a1 : (List Int)) : ∀ (n : Nat) (v1 : Int) (v2 : (List Int)), Owp (tourref2_Big_Mul.c1 k a0 a1 n v1 v2) fun o => LTriple PR (tourref2_Big_Mul.cx k) (sub tourref2_Big_Mul.code [1, 1, 0, 1, 0, 0]) 4 (tourref2_Big_Mul.c1p a0 a1 v1 v2) (tourref2_Big_Mul.c1x o) (tourref2_Big_Mul.c1n o) (tourref2_Big_Mul.c1q o)
  | 0, _, _ => fun _ h => nomatch h
  | n + 1, v1, v2 => Owp.of (tourref2_Big_Mul.c1.eq_2 ..) (
   Owp.bif (fun e3 =>
   Owp.bnd fun o11 e12 =>
    fun y hy => loop_back (tourref2_Big_Mul.cok k) hmix 4 (tourref2_Big_Mul.c1p a0 a1 (iadd .i64 v1 (1 : Int)) o11) [.dec true, .cut ⟨[], [(0, 0), (1, 1), (2, 2), (3, 3)], (tourref2_Big_Mul.c2p a0 a1 v1 (0 : Int) (0 : Int) v2), 4, (.exit 2), (tourref2_Big_Mul.c2q a0 a1 v1 o11), 4⟩] [] [(0, 0), (1, 1), (2, 2), (3, 3)] (via (cutP (And.intro trivial e3) [(0, 0), (1, 1), (2, 2), (3, 3)] (tourref2_Big_Mul.c2p a0 a1 v1 (0 : Int) (0 : Int) v2) (((tourref2_Big_Mul.c2_ok k a0 a1 v1 k (0 : Int) (0 : Int) v2).ap e12).triple) (finP trivial .normal [(0, 0), (1, 1), (2, 2), (3, 3)] (tourref2_Big_Mul.c1p a0 a1 (iadd .i64 v1 (1 : Int)) o11))) (by kernel_rfl)) ((tourref2_Big_Mul.c1_ok k a0 a1 n (iadd .i64 v1 (1 : Int)) o11).ap hy)) (fun e3 =>
   Owp.some (loop_exit (tourref2_Big_Mul.cok k) hmix [.dec false] [] [(0, 2), (1, 3)] (exne 0) (via (finP (And.intro trivial e3) (.exit 0) [(0, 2), (1, 3)] (tourref2_Big_Mul.c1q v2)) (by kernel_rfl)))))
theorem tourref2_Big_Mul.way (k : Nat) (a0 : (List Int)) (a1 : (List Int)) : Owp (tourref2_Big_Mul k a0 a1) fun y => ∃ answers cmds, exec PR (tourref2_Big_Mul.cx k) tourref2_Big_Mul.code 0 (entry (.pair T134 (.pair T134 .unit)) (a0, a1, ())).st answers (Ret (tourref2_Big_Mul.cx k) Try.f177 cmds (.one (.dp T134)) y) := by
  unfold tourref2_Big_Mul; exact
   Owp.bnd fun o13 e14 =>
   Owp.some (⟨[.cut ⟨[], [(0, 0), (1, 1), (2, 2), (3, 3)], (tourref2_Big_Mul.c1p a0 a1 (0 : Int) (List.replicate 8 (0 : Int))), 4, (.exit 0), (tourref2_Big_Mul.c1q o13), 2⟩], [], via (cutP trivial [(0, 0), (1, 1), (2, 2), (3, 3)] (tourref2_Big_Mul.c1p a0 a1 (0 : Int) (List.replicate 8 (0 : Int))) (((tourref2_Big_Mul.c1_ok k a0 a1 k (0 : Int) (List.replicate 8 (0 : Int))).ap e14).triple) (retP trivial (.one (.dp T134)) (o13 : (List Int)))) (by kernel_rfl)⟩)
theorem tourref2_Big_Mul.ok (k : Nat) : FnOk PR 177 (tourref2_Big_Mul.sp k) :=
  fn_ok (tourref2_Big_Mul.cok k) hmix Try.func177 (code := tourref2_Big_Mul.code) (by kernel_rfl) (by kernel_rfl) (by kernel_rfl) rfl rfl (by kernel_rfl) (by kernel_rfl) (by kernel_rfl) (fun x => Nat.le_of_ble_eq_true (by kernel_rfl)) fun x y hy => (tourref2_Big_Mul.way k x.1 x.2.1).ap hy

/-! tourney/fix.Clamp -/
noncomputable def fix_Clamp.code : Code := Func.cd Try.f135
def fix_Clamp (k : Nat) (a0 : Int) : Option Int :=
  some (imin (imax a0 (-1099511627776)) 1099511627776)
noncomputable def fix_Clamp.sp (k : Nat) : Go.Sx.Spec := ⟨(.pair T2 .unit), (.one (.dp T2)), fun x => fix_Clamp k x.1, false⟩
noncomputable def fix_Clamp.cx (k : Nat) : Go.Sx.Ctx := ⟨tys, [], eqs, 6, 0, [], false⟩
theorem fix_Clamp.cok (k : Nat) : CtxOk PR (fix_Clamp.cx k) := ctx_ok tysOk eqsOk FnsOk.nil HsOk.nil
theorem fix_Clamp.way (k : Nat) (a0 : Int) : Owp (fix_Clamp k a0) fun y => ∃ answers cmds, exec PR (fix_Clamp.cx k) fix_Clamp.code 0 (entry (.pair T2 .unit) (a0, ())).st answers (Ret (fix_Clamp.cx k) Try.f135 cmds (.one (.dp T2)) y) := by
  unfold fix_Clamp; exact
   Owp.some (⟨[], [], via (retP trivial (.one (.dp T2)) ((imin (imax a0 (-1099511627776 : Int)) (1099511627776 : Int)) : Int)) (by kernel_rfl)⟩)
theorem fix_Clamp.ok (k : Nat) : FnOk PR 135 (fix_Clamp.sp k) :=
  fn_ok (fix_Clamp.cok k) hmix Try.func135 (code := fix_Clamp.code) (by kernel_rfl) (by kernel_rfl) (by kernel_rfl) rfl rfl (by kernel_rfl) (by kernel_rfl) (by kernel_rfl) (fun x => Nat.le_of_ble_eq_true (by kernel_rfl)) fun x y hy => (fix_Clamp.way k x.1).ap hy

/-! tourney/fix.Add -/
noncomputable def fix_Add.code : Code := Func.cd Try.f85
def fix_Add (k : Nat) (a0 : Int) (a1 : Int) : Option Int :=
  bnd (fix_Clamp k a0) fun y1 =>
  bnd (fix_Clamp k a1) fun y3 =>
  bnd (fix_Clamp k (iadd .i64 y1 y3)) fun y5 =>
  some y5
noncomputable def fix_Add.sp (k : Nat) : Go.Sx.Spec := ⟨T22, (.one (.dp T2)), fun x => fix_Add k x.1 x.2.1, false⟩
noncomputable def fix_Add.cx (k : Nat) : Go.Sx.Ctx := ⟨tys, [(135, fix_Clamp.sp k)], eqs, 11, 0, [], false⟩
theorem fix_Add.cok (k : Nat) : CtxOk PR (fix_Add.cx k) := ctx_ok tysOk eqsOk (FnsOk.cons (fix_Clamp.ok k) FnsOk.nil) HsOk.nil
theorem fix_Add.way (k : Nat) (a0 : Int) (a1 : Int) : Owp (fix_Add k a0 a1) fun y => ∃ answers cmds, exec PR (fix_Add.cx k) fix_Add.code 0 (entry T22 (a0, a1, ())).st answers (Ret (fix_Add.cx k) Try.f85 cmds (.one (.dp T2)) y) := by
  unfold fix_Add; exact
   Owp.bnd fun y1 e2 =>
   Owp.bnd fun y3 e4 =>
   Owp.bnd fun y5 e6 =>
   Owp.some (⟨[.res (.one (.dp T2)) y1, .res (.one (.dp T2)) y3, .res (.one (.dp T2)) y5], [], via (retP (And.intro (And.intro (And.intro trivial e2) e4) e6) (.one (.dp T2)) (y5 : Int)) (by kernel_rfl)⟩)
theorem fix_Add.ok (k : Nat) : FnOk PR 85 (fix_Add.sp k) :=
  fn_ok (fix_Add.cok k) hmix Try.func85 (code := fix_Add.code) (by kernel_rfl) (by kernel_rfl) (by kernel_rfl) rfl rfl (by kernel_rfl) (by kernel_rfl) (by kernel_rfl) (fun x => Nat.le_of_ble_eq_true (by kernel_rfl)) fun x y hy => (fix_Add.way k x.1 x.2.1).ap hy

/-! tourney/fix.mag -/
noncomputable def fix_mag.code : Code := Func.cd Try.f195
def fix_mag (k : Nat) (a0 : Int) : Option Int :=
  bif' (ilt a0 0)
  (some (icv .u64 (ineg .i64 a0)))
  (some (icv .u64 a0))
noncomputable def fix_mag.sp (k : Nat) : Go.Sx.Spec := ⟨(.pair T2 .unit), (.one (.dp T12)), fun x => fix_mag k x.1, false⟩
noncomputable def fix_mag.cx (k : Nat) : Go.Sx.Ctx := ⟨tys, [], eqs, 10, 0, [], false⟩
theorem fix_mag.cok (k : Nat) : CtxOk PR (fix_mag.cx k) := ctx_ok tysOk eqsOk FnsOk.nil HsOk.nil
theorem fix_mag.way (k : Nat) (a0 : Int) : Owp (fix_mag k a0) fun y => ∃ answers cmds, exec PR (fix_mag.cx k) fix_mag.code 0 (entry (.pair T2 .unit) (a0, ())).st answers (Ret (fix_mag.cx k) Try.f195 cmds (.one (.dp T12)) y) := by
  unfold fix_mag; exact
   Owp.bif (fun e1 =>
   Owp.some (⟨[.dec true], [], via (retP (And.intro trivial e1) (.one (.dp T12)) ((icv .u64 (ineg .i64 a0)) : Int)) (by kernel_rfl)⟩)) (fun e1 =>
   Owp.some (⟨[.dec false], [], via (retP (And.intro trivial e1) (.one (.dp T12)) ((icv .u64 a0) : Int)) (by kernel_rfl)⟩))
theorem fix_mag.ok (k : Nat) : FnOk PR 195 (fix_mag.sp k) :=
  fn_ok (fix_mag.cok k) hmix Try.func195 (code := fix_mag.code) (by kernel_rfl) (by kernel_rfl) (by kernel_rfl) rfl rfl (by kernel_rfl) (by kernel_rfl) (by kernel_rfl) (fun x => Nat.le_of_ble_eq_true (by kernel_rfl)) fun x y hy => (fix_mag.way k x.1).ap hy

/-! tourney/fix.MulDiv -/
noncomputable def fix_MulDiv.code : Code := Func.cd Try.f160
def fix_MulDiv.c1 (k : Nat) (y1 : Int) (y3 : Int) : Option (Bool) :=
  bif' (ilt y3 0)
  (some (!(ilt y1 0)))
  (some (ilt y1 0))
def fix_MulDiv.c2 (k : Nat) (o9 : Bool) (y5 : Int) : Option (Bool) :=
  bif' (ilt y5 0)
  (some (!o9))
  (some o9)
def fix_MulDiv.c3 (k : Nat) (y24 : (Int × Int)) : Option ((Int × Int)) :=
  bif' (igt y24.1 1099511627776)
  (some (1099511627777, 0))
  (some (y24.1, y24.2))
def fix_MulDiv.c4 (k : Nat) (o27 : (Int × Int)) (y14 : Int) : Option (Int) :=
  bif' (igt o27.2 (isub .u64 y14 o27.2))
  (some (iadd .i64 (icv .i64 o27.1) 1))
  (some (icv .i64 o27.1))
def fix_MulDiv.c5 (k : Nat) (o27 : (Int × Int)) (y14 : Int) : Option (Int) :=
  bif' (ige o27.2 (isub .u64 y14 o27.2))
  (some (iadd .i64 (icv .i64 o27.1) 1))
  (some (icv .i64 o27.1))
def fix_MulDiv (k : Nat) (a0 : Int) (a1 : Int) (a2 : Int) : Option Int :=
  bnd (fix_Clamp k a0) fun y1 =>
  bnd (fix_Clamp k a1) fun y3 =>
  bnd (fix_Clamp k a2) fun y5 =>
  bif' (ieq y5 0)
  (some 0)
  (bnd (fix_MulDiv.c1 k y1 y3) fun o9 =>
   bnd (fix_MulDiv.c2 k o9 y5) fun o12 =>
   bnd (fix_mag k y5) fun y14 =>
   bnd (fix_mag k y1) fun y16 =>
   bnd (fix_mag k y3) fun y18 =>
   bnd (bits_Mul64 k y16 y18) fun y20 =>
   bif' (ige y20.1 y14)
   (bif' o12
    (some (-1099511627776))
    (some 1099511627776))
   (bnd (bits_Div64 k y20.1 y20.2 y14) fun y24 =>
    bnd (fix_MulDiv.c3 k y24) fun o27 =>
    bif' o12
    (bnd (fix_MulDiv.c4 k o27 y14) fun o31 =>
     bnd (fix_Clamp k (ineg .i64 o31)) fun y33 =>
     some y33)
    (bnd (fix_MulDiv.c5 k o27 y14) fun o36 =>
     bnd (fix_Clamp k o36) fun y38 =>
     some y38)))
noncomputable def fix_MulDiv.sp (k : Nat) : Go.Sx.Spec := ⟨(.pair T2 T22), (.one (.dp T2)), fun x => fix_MulDiv k x.1 x.2.1 x.2.2.1, false⟩
noncomputable def fix_MulDiv.cx (k : Nat) : Go.Sx.Ctx := ⟨tys, [(135, fix_Clamp.sp k), (195, fix_mag.sp k), (161, bits_Mul64.sp k), (162, bits_Div64.sp k)], eqs, 78, 0, [], false⟩
theorem fix_MulDiv.cok (k : Nat) : CtxOk PR (fix_MulDiv.cx k) := ctx_ok tysOk eqsOk (FnsOk.cons (fix_Clamp.ok k) (FnsOk.cons (fix_mag.ok k) (FnsOk.cons (bits_Mul64.ok k) (FnsOk.cons (bits_Div64.ok k) FnsOk.nil)))) HsOk.nil
noncomputable def fix_MulDiv.c1p (y1 : Int) (y3 : Int) (y5 : Int) : SL := ⟨[(0, (.val T2 y1)), (1, (.val T2 y3)), (2, (.val T2 y5)), (7, (.val T4 (ilt y1 (0 : Int)))), (25, (.val T4 (ilt y3 (0 : Int))))], []⟩
noncomputable def fix_MulDiv.c1q (y1 : Int) (y3 : Int) (y5 : Int) (o : Bool) : SL := (fun v => ⟨[(0, (.val T2 y1)), (1, (.val T2 y3)), (2, (.val T2 y5)), (7, (.val T4 v))], []⟩) o
noncomputable def fix_MulDiv.c1x (o : Bool) : Ex := (fun _ => .normal) o
noncomputable def fix_MulDiv.c1n (o : Bool) : Nat := (fun _ => 0) o
theorem fix_MulDiv.c1_ok (k : Nat) (y1 : Int) (y3 : Int) (y5 : Int) : Owp (fix_MulDiv.c1 k y1 y3) fun o => Triple PR (fix_MulDiv.cx k) (sub fix_MulDiv.code [1, 1, 1, 1, 0, 1]) 0 (fix_MulDiv.c1p y1 y3 y5) (fix_MulDiv.c1x o) (fix_MulDiv.c1n o) (fix_MulDiv.c1q y1 y3 y5 o) := by
  unfold fix_MulDiv.c1; exact
   Owp.bif (fun e8 =>
   Owp.some (triple_way (fix_MulDiv.cok k) hmix [.dec true] [] [] (via (finP (And.intro trivial e8) .normal [] (fix_MulDiv.c1q y1 y3 y5 (!(ilt y1 (0 : Int))))) (by kernel_rfl)))) (fun e8 =>
   Owp.some (triple_way (fix_MulDiv.cok k) hmix [.dec false] [] [] (via (finP (And.intro trivial e8) .normal [] (fix_MulDiv.c1q y1 y3 y5 (ilt y1 (0 : Int)))) (by kernel_rfl))))
noncomputable def fix_MulDiv.c2p (o9 : Bool) (y1 : Int) (y3 : Int) (y5 : Int) : SL := ⟨[(0, (.val T2 y1)), (1, (.val T2 y3)), (2, (.val T2 y5)), (7, (.val T4 o9)), (29, (.val T4 (ilt y5 (0 : Int))))], []⟩
noncomputable def fix_MulDiv.c2q (y1 : Int) (y3 : Int) (y5 : Int) (o : Bool) : SL := (fun v => ⟨[(0, (.val T2 y1)), (1, (.val T2 y3)), (2, (.val T2 y5)), (7, (.val T4 v))], []⟩) o
noncomputable def fix_MulDiv.c2x (o : Bool) : Ex := (fun _ => .normal) o
noncomputable def fix_MulDiv.c2n (o : Bool) : Nat := (fun _ => 0) o
theorem fix_MulDiv.c2_ok (k : Nat) (o9 : Bool) (y1 : Int) (y3 : Int) (y5 : Int) : Owp (fix_MulDiv.c2 k o9 y5) fun o => Triple PR (fix_MulDiv.cx k) (sub fix_MulDiv.code [1, 1, 1, 1, 1, 0, 1]) 0 (fix_MulDiv.c2p o9 y1 y3 y5) (fix_MulDiv.c2x o) (fix_MulDiv.c2n o) (fix_MulDiv.c2q y1 y3 y5 o) := by
  unfold fix_MulDiv.c2; exact
   Owp.bif (fun e11 =>
   Owp.some (triple_way (fix_MulDiv.cok k) hmix [.dec true] [] [] (via (finP (And.intro trivial e11) .normal [] (fix_MulDiv.c2q y1 y3 y5 (!o9))) (by kernel_rfl)))) (fun e11 =>
   Owp.some (triple_way (fix_MulDiv.cok k) hmix [.dec false] [] [] (via (finP (And.intro trivial e11) .normal [] (fix_MulDiv.c2q y1 y3 y5 o9)) (by kernel_rfl))))
noncomputable def fix_MulDiv.c3p (o12 : Bool) (y14 : Int) (y24 : (Int × Int)) : SL := ⟨[(7, (.val T4 o12)), (8, (.val T12 y14)), (11, (.val T12 y24.1)), (12, (.val T12 y24.2)), (54, (.val T4 (igt y24.1 (1099511627776 : Int))))], []⟩
noncomputable def fix_MulDiv.c3q (o12 : Bool) (y14 : Int) (o : (Int × Int)) : SL := (fun v => ⟨[(7, (.val T4 o12)), (8, (.val T12 y14)), (11, (.val T12 v.1)), (12, (.val T12 v.2))], []⟩) o
noncomputable def fix_MulDiv.c3x (o : (Int × Int)) : Ex := (fun _ => .normal) o
noncomputable def fix_MulDiv.c3n (o : (Int × Int)) : Nat := (fun _ => 0) o
theorem fix_MulDiv.c3_ok (k : Nat) (o12 : Bool) (y14 : Int) (y24 : (Int × Int)) : Owp (fix_MulDiv.c3 k y24) fun o => Triple PR (fix_MulDiv.cx k) (sub fix_MulDiv.code [1, 1, 1, 1, 1, 1, 1, 1, 1, 1, 0, 1]) 0 (fix_MulDiv.c3p o12 y14 y24) (fix_MulDiv.c3x o) (fix_MulDiv.c3n o) (fix_MulDiv.c3q o12 y14 o) := by
  unfold fix_MulDiv.c3; exact
   Owp.bif (fun e26 =>
   Owp.some (triple_way (fix_MulDiv.cok k) hmix [.dec true] [] [] (via (finP (And.intro trivial e26) .normal [] (fix_MulDiv.c3q o12 y14 ((1099511627777 : Int), (0 : Int)))) (by kernel_rfl)))) (fun e26 =>
   Owp.some (triple_way (fix_MulDiv.cok k) hmix [.dec false] [] [] (via (finP (And.intro trivial e26) .normal [] (fix_MulDiv.c3q o12 y14 (y24.1, y24.2))) (by kernel_rfl))))
noncomputable def fix_MulDiv.c4p (o27 : (Int × Int)) (y14 : Int) : SL := ⟨[(13, (.val T2 (icv .i64 o27.1))), (72, (.val T4 (igt o27.2 (isub .u64 y14 o27.2))))], []⟩
noncomputable def fix_MulDiv.c4q (o : Int) : SL := (fun v => ⟨[(13, (.val T2 v))], []⟩) o
noncomputable def fix_MulDiv.c4x (o : Int) : Ex := (fun _ => .normal) o
noncomputable def fix_MulDiv.c4n (o : Int) : Nat := (fun _ => 0) o
theorem fix_MulDiv.c4_ok (k : Nat) (o27 : (Int × Int)) (y14 : Int) : Owp (fix_MulDiv.c4 k o27 y14) fun o => Triple PR (fix_MulDiv.cx k) (sub fix_MulDiv.code [1, 1, 1, 1, 1, 1, 1, 1, 1, 1, 1, 1, 1, 0, 1]) 0 (fix_MulDiv.c4p o27 y14) (fix_MulDiv.c4x o) (fix_MulDiv.c4n o) (fix_MulDiv.c4q o) := by
  unfold fix_MulDiv.c4; exact
   Owp.bif (fun e30 =>
   Owp.some (triple_way (fix_MulDiv.cok k) hmix [.dec true] [] [] (via (finP (And.intro trivial e30) .normal [] (fix_MulDiv.c4q (iadd .i64 (icv .i64 o27.1) (1 : Int)))) (by kernel_rfl)))) (fun e30 =>
   Owp.some (triple_way (fix_MulDiv.cok k) hmix [.dec false] [] [] (via (finP (And.intro trivial e30) .normal [] (fix_MulDiv.c4q (icv .i64 o27.1))) (by kernel_rfl))))
noncomputable def fix_MulDiv.c5p (o27 : (Int × Int)) (y14 : Int) : SL := ⟨[(13, (.val T2 (icv .i64 o27.1))), (63, (.val T4 (ige o27.2 (isub .u64 y14 o27.2))))], []⟩
noncomputable def fix_MulDiv.c5q (o : Int) : SL := (fun v => ⟨[(13, (.val T2 v))], []⟩) o
noncomputable def fix_MulDiv.c5x (o : Int) : Ex := (fun _ => .normal) o
noncomputable def fix_MulDiv.c5n (o : Int) : Nat := (fun _ => 0) o
theorem fix_MulDiv.c5_ok (k : Nat) (o27 : (Int × Int)) (y14 : Int) : Owp (fix_MulDiv.c5 k o27 y14) fun o => Triple PR (fix_MulDiv.cx k) (sub fix_MulDiv.code [1, 1, 1, 1, 1, 1, 1, 1, 1, 1, 1, 1, 0, 1, 0, 0, 1]) 0 (fix_MulDiv.c5p o27 y14) (fix_MulDiv.c5x o) (fix_MulDiv.c5n o) (fix_MulDiv.c5q o) := by
  unfold fix_MulDiv.c5; exact
   Owp.bif (fun e35 =>
   Owp.some (triple_way (fix_MulDiv.cok k) hmix [.dec true] [] [] (via (finP (And.intro trivial e35) .normal [] (fix_MulDiv.c5q (iadd .i64 (icv .i64 o27.1) (1 : Int)))) (by kernel_rfl)))) (fun e35 =>
   Owp.some (triple_way (fix_MulDiv.cok k) hmix [.dec false] [] [] (via (finP (And.intro trivial e35) .normal [] (fix_MulDiv.c5q (icv .i64 o27.1))) (by kernel_rfl))))
theorem fix_MulDiv.way (k : Nat) (a0 : Int) (a1 : Int) (a2 : Int) : Owp (fix_MulDiv k a0 a1 a2) fun y => ∃ answers cmds, exec PR (fix_MulDiv.cx k) fix_MulDiv.code 0 (entry (.pair T2 T22) (a0, a1, a2, ())).st answers (Ret (fix_MulDiv.cx k) Try.f160 cmds (.one (.dp T2)) y) := by
  unfold fix_MulDiv; exact
   Owp.bnd fun y1 e2 =>
   Owp.bnd fun y3 e4 =>
   Owp.bnd fun y5 e6 =>
   Owp.bif (fun e7 =>
   Owp.some (⟨[.res (.one (.dp T2)) y1, .res (.one (.dp T2)) y3, .res (.one (.dp T2)) y5, .dec true], [], via (retP (And.intro (And.intro (And.intro (And.intro trivial e2) e4) e6) e7) (.one (.dp T2)) ((0 : Int) : Int)) (by kernel_rfl)⟩)) (fun e7 =>
   Owp.bnd fun o9 e10 =>
    Owp.bnd fun o12 e13 =>
    Owp.bnd fun y14 e15 =>
    Owp.bnd fun y16 e17 =>
    Owp.bnd fun y18 e19 =>
    Owp.bnd fun y20 e21 =>
    Owp.bif (fun e22 =>
    Owp.bif (fun e23 =>
     Owp.some (⟨[.res (.one (.dp T2)) y1, .res (.one (.dp T2)) y3, .res (.one (.dp T2)) y5, .dec false, .cut ⟨[], [], (fix_MulDiv.c1p y1 y3 y5), 0, .normal, (fix_MulDiv.c1q y1 y3 y5 o9), 0⟩, .cut ⟨[], [], (fix_MulDiv.c2p o9 y1 y3 y5), 0, .normal, (fix_MulDiv.c2q y1 y3 y5 o12), 0⟩, .res (.one (.dp T12)) y14, .res (.one (.dp T12)) y16, .res (.one (.dp T12)) y18, .res (.more (.dp T12) (.one (.dp T12))) y20, .dec true, .dec true], [], via (cutP (And.intro (And.intro (And.intro (And.intro trivial e2) e4) e6) e7) [] (fix_MulDiv.c1p y1 y3 y5) (((fix_MulDiv.c1_ok k y1 y3 y5).ap e10)) (cutP trivial [] (fix_MulDiv.c2p o9 y1 y3 y5) (((fix_MulDiv.c2_ok k o9 y1 y3 y5).ap e13)) (retP (And.intro (And.intro (And.intro (And.intro (And.intro (And.intro trivial e15) e17) e19) e21) e22) e23) (.one (.dp T2)) ((-1099511627776 : Int) : Int)))) (by kernel_rfl)⟩)) (fun e23 =>
     Owp.some (⟨[.res (.one (.dp T2)) y1, .res (.one (.dp T2)) y3, .res (.one (.dp T2)) y5, .dec false, .cut ⟨[], [], (fix_MulDiv.c1p y1 y3 y5), 0, .normal, (fix_MulDiv.c1q y1 y3 y5 o9), 0⟩, .cut ⟨[], [], (fix_MulDiv.c2p o9 y1 y3 y5), 0, .normal, (fix_MulDiv.c2q y1 y3 y5 o12), 0⟩, .res (.one (.dp T12)) y14, .res (.one (.dp T12)) y16, .res (.one (.dp T12)) y18, .res (.more (.dp T12) (.one (.dp T12))) y20, .dec true, .dec false], [], via (cutP (And.intro (And.intro (And.intro (And.intro trivial e2) e4) e6) e7) [] (fix_MulDiv.c1p y1 y3 y5) (((fix_MulDiv.c1_ok k y1 y3 y5).ap e10)) (cutP trivial [] (fix_MulDiv.c2p o9 y1 y3 y5) (((fix_MulDiv.c2_ok k o9 y1 y3 y5).ap e13)) (retP (And.intro (And.intro (And.intro (And.intro (And.intro (And.intro trivial e15) e17) e19) e21) e22) e23) (.one (.dp T2)) ((1099511627776 : Int) : Int)))) (by kernel_rfl)⟩))) (fun e22 =>
    Owp.bnd fun y24 e25 =>
     Owp.bnd fun o27 e28 =>
     Owp.bif (fun e29 =>
     Owp.bnd fun o31 e32 =>
      Owp.bnd fun y33 e34 =>
      Owp.some (⟨[.res (.one (.dp T2)) y1, .res (.one (.dp T2)) y3, .res (.one (.dp T2)) y5, .dec false, .cut ⟨[], [], (fix_MulDiv.c1p y1 y3 y5), 0, .normal, (fix_MulDiv.c1q y1 y3 y5 o9), 0⟩, .cut ⟨[], [], (fix_MulDiv.c2p o9 y1 y3 y5), 0, .normal, (fix_MulDiv.c2q y1 y3 y5 o12), 0⟩, .res (.one (.dp T12)) y14, .res (.one (.dp T12)) y16, .res (.one (.dp T12)) y18, .res (.more (.dp T12) (.one (.dp T12))) y20, .dec false, .res (.more (.dp T12) (.one (.dp T12))) y24, .cut ⟨[], [], (fix_MulDiv.c3p o12 y14 y24), 0, .normal, (fix_MulDiv.c3q o12 y14 o27), 0⟩, .dec false, .cut ⟨[], [], (fix_MulDiv.c4p o27 y14), 0, .normal, (fix_MulDiv.c4q o31), 0⟩, .res (.one (.dp T2)) y33], [], via (cutP (And.intro (And.intro (And.intro (And.intro trivial e2) e4) e6) e7) [] (fix_MulDiv.c1p y1 y3 y5) (((fix_MulDiv.c1_ok k y1 y3 y5).ap e10)) (cutP trivial [] (fix_MulDiv.c2p o9 y1 y3 y5) (((fix_MulDiv.c2_ok k o9 y1 y3 y5).ap e13)) (cutP (And.intro (And.intro (And.intro (And.intro (And.intro (And.intro trivial e15) e17) e19) e21) e22) e25) [] (fix_MulDiv.c3p o12 y14 y24) (((fix_MulDiv.c3_ok k o12 y14 y24).ap e28)) (cutP (And.intro trivial (congrArg not e29)) [] (fix_MulDiv.c4p o27 y14) (((fix_MulDiv.c4_ok k o27 y14).ap e32)) (retP (And.intro trivial e34) (.one (.dp T2)) (y33 : Int)))))) (by kernel_rfl)⟩)) (fun e29 =>
     Owp.bnd fun o36 e37 =>
      Owp.bnd fun y38 e39 =>
      Owp.some (⟨[.res (.one (.dp T2)) y1, .res (.one (.dp T2)) y3, .res (.one (.dp T2)) y5, .dec false, .cut ⟨[], [], (fix_MulDiv.c1p y1 y3 y5), 0, .normal, (fix_MulDiv.c1q y1 y3 y5 o9), 0⟩, .cut ⟨[], [], (fix_MulDiv.c2p o9 y1 y3 y5), 0, .normal, (fix_MulDiv.c2q y1 y3 y5 o12), 0⟩, .res (.one (.dp T12)) y14, .res (.one (.dp T12)) y16, .res (.one (.dp T12)) y18, .res (.more (.dp T12) (.one (.dp T12))) y20, .dec false, .res (.more (.dp T12) (.one (.dp T12))) y24, .cut ⟨[], [], (fix_MulDiv.c3p o12 y14 y24), 0, .normal, (fix_MulDiv.c3q o12 y14 o27), 0⟩, .dec true, .cut ⟨[], [], (fix_MulDiv.c5p o27 y14), 0, .normal, (fix_MulDiv.c5q o36), 0⟩, .res (.one (.dp T2)) y38], [], via (cutP (And.intro (And.intro (And.intro (And.intro trivial e2) e4) e6) e7) [] (fix_MulDiv.c1p y1 y3 y5) (((fix_MulDiv.c1_ok k y1 y3 y5).ap e10)) (cutP trivial [] (fix_MulDiv.c2p o9 y1 y3 y5) (((fix_MulDiv.c2_ok k o9 y1 y3 y5).ap e13)) (cutP (And.intro (And.intro (And.intro (And.intro (And.intro (And.intro trivial e15) e17) e19) e21) e22) e25) [] (fix_MulDiv.c3p o12 y14 y24) (((fix_MulDiv.c3_ok k o12 y14 y24).ap e28)) (cutP (And.intro trivial (congrArg not e29)) [] (fix_MulDiv.c5p o27 y14) (((fix_MulDiv.c5_ok k o27 y14).ap e37)) (retP (And.intro trivial e39) (.one (.dp T2)) (y38 : Int)))))) (by kernel_rfl)⟩))))
theorem fix_MulDiv.ok (k : Nat) : FnOk PR 160 (fix_MulDiv.sp k) :=
  fn_ok (fix_MulDiv.cok k) hmix Try.func160 (code := fix_MulDiv.code) (by kernel_rfl) (by kernel_rfl) (by kernel_rfl) rfl rfl (by kernel_rfl) (by kernel_rfl) (by kernel_rfl) (fun x => Nat.le_of_ble_eq_true (by kernel_rfl)) fun x y hy => (fix_MulDiv.way k x.1 x.2.1 x.2.2.1).ap hy

/-! tourney/fix.Mul -/
noncomputable def fix_Mul.code : Code := Func.cd Try.f89
def fix_Mul (k : Nat) (a0 : Int) (a1 : Int) : Option Int :=
  bnd (fix_MulDiv k a0 a1 65536) fun y1 =>
  some y1
noncomputable def fix_Mul.sp (k : Nat) : Go.Sx.Spec := ⟨T22, (.one (.dp T2)), fun x => fix_Mul k x.1 x.2.1, false⟩
noncomputable def fix_Mul.cx (k : Nat) : Go.Sx.Ctx := ⟨tys, [(160, fix_MulDiv.sp k)], eqs, 8, 0, [], false⟩
theorem fix_Mul.cok (k : Nat) : CtxOk PR (fix_Mul.cx k) := ctx_ok tysOk eqsOk (FnsOk.cons (fix_MulDiv.ok k) FnsOk.nil) HsOk.nil
theorem fix_Mul.way (k : Nat) (a0 : Int) (a1 : Int) : Owp (fix_Mul k a0 a1) fun y => ∃ answers cmds, exec PR (fix_Mul.cx k) fix_Mul.code 0 (entry T22 (a0, a1, ())).st answers (Ret (fix_Mul.cx k) Try.f89 cmds (.one (.dp T2)) y) := by
  unfold fix_Mul; exact
   Owp.bnd fun y1 e2 =>
   Owp.some (⟨[.res (.one (.dp T2)) y1], [], via (retP (And.intro trivial e2) (.one (.dp T2)) (y1 : Int)) (by kernel_rfl)⟩)
theorem fix_Mul.ok (k : Nat) : FnOk PR 89 (fix_Mul.sp k) :=
  fn_ok (fix_Mul.cok k) hmix Try.func89 (code := fix_Mul.code) (by kernel_rfl) (by kernel_rfl) (by kernel_rfl) rfl rfl (by kernel_rfl) (by kernel_rfl) (by kernel_rfl) (fun x => Nat.le_of_ble_eq_true (by kernel_rfl)) fun x y hy => (fix_Mul.way k x.1 x.2.1).ap hy

/-! tourney/fix.Sub -/
noncomputable def fix_Sub.code : Code := Func.cd Try.f90
def fix_Sub (k : Nat) (a0 : Int) (a1 : Int) : Option Int :=
  bnd (fix_Clamp k a0) fun y1 =>
  bnd (fix_Clamp k a1) fun y3 =>
  bnd (fix_Clamp k (isub .i64 y1 y3)) fun y5 =>
  some y5
noncomputable def fix_Sub.sp (k : Nat) : Go.Sx.Spec := ⟨T22, (.one (.dp T2)), fun x => fix_Sub k x.1 x.2.1, false⟩
noncomputable def fix_Sub.cx (k : Nat) : Go.Sx.Ctx := ⟨tys, [(135, fix_Clamp.sp k)], eqs, 11, 0, [], false⟩
theorem fix_Sub.cok (k : Nat) : CtxOk PR (fix_Sub.cx k) := ctx_ok tysOk eqsOk (FnsOk.cons (fix_Clamp.ok k) FnsOk.nil) HsOk.nil
theorem fix_Sub.way (k : Nat) (a0 : Int) (a1 : Int) : Owp (fix_Sub k a0 a1) fun y => ∃ answers cmds, exec PR (fix_Sub.cx k) fix_Sub.code 0 (entry T22 (a0, a1, ())).st answers (Ret (fix_Sub.cx k) Try.f90 cmds (.one (.dp T2)) y) := by
  unfold fix_Sub; exact
   Owp.bnd fun y1 e2 =>
   Owp.bnd fun y3 e4 =>
   Owp.bnd fun y5 e6 =>
   Owp.some (⟨[.res (.one (.dp T2)) y1, .res (.one (.dp T2)) y3, .res (.one (.dp T2)) y5], [], via (retP (And.intro (And.intro (And.intro trivial e2) e4) e6) (.one (.dp T2)) (y5 : Int)) (by kernel_rfl)⟩)
theorem fix_Sub.ok (k : Nat) : FnOk PR 90 (fix_Sub.sp k) :=
  fn_ok (fix_Sub.cok k) hmix Try.func90 (code := fix_Sub.code) (by kernel_rfl) (by kernel_rfl) (by kernel_rfl) rfl rfl (by kernel_rfl) (by kernel_rfl) (by kernel_rfl) (fun x => Nat.le_of_ble_eq_true (by kernel_rfl)) fun x y hy => (fix_Sub.way k x.1 x.2.1).ap hy

/-! tourney/vec.Add -/
noncomputable def vec_Add.code : Code := Func.cd Try.f105
def vec_Add (k : Nat) (a0 : V22) (a1 : V22) : Option V22 :=
  bnd (fix_Add k a0.1 a1.1) fun y1 =>
  bnd (fix_Add k a0.2.1 a1.2.1) fun y3 =>
  some (y1, y3, ())
noncomputable def vec_Add.sp (k : Nat) : Go.Sx.Spec := ⟨T52, (.one (.dp T22)), fun x => vec_Add k x.1 x.2.1, false⟩
noncomputable def vec_Add.cx (k : Nat) : Go.Sx.Ctx := ⟨tys, [(85, fix_Add.sp k)], eqs, 16, 0, [], false⟩
theorem vec_Add.cok (k : Nat) : CtxOk PR (vec_Add.cx k) := ctx_ok tysOk eqsOk (FnsOk.cons (fix_Add.ok k) FnsOk.nil) HsOk.nil
theorem vec_Add.way (k : Nat) (a0 : V22) (a1 : V22) : Owp (vec_Add k a0 a1) fun y => ∃ answers cmds, exec PR (vec_Add.cx k) vec_Add.code 0 (entry T52 (a0, a1, ())).st answers (Ret (vec_Add.cx k) Try.f105 cmds (.one (.dp T22)) y) := by
  unfold vec_Add; exact
   Owp.bnd fun y1 e2 =>
   Owp.bnd fun y3 e4 =>
   Owp.some (⟨[.res (.one (.dp T2)) y1, .res (.one (.dp T2)) y3], [], via (retP (And.intro (And.intro trivial e2) e4) (.one (.dp T22)) ((y1, y3, ()) : V22)) (by kernel_rfl)⟩)
theorem vec_Add.ok (k : Nat) : FnOk PR 105 (vec_Add.sp k) :=
  fn_ok (vec_Add.cok k) hmix Try.func105 (code := vec_Add.code) (by kernel_rfl) (by kernel_rfl) (by kernel_rfl) rfl rfl (by kernel_rfl) (by kernel_rfl) (by kernel_rfl) (fun x => Nat.le_of_ble_eq_true (by kernel_rfl)) fun x y hy => (vec_Add.way k x.1 x.2.1).ap hy

/-! tourney/trig.table -/
noncomputable def trig_table.code : Code := Func.cd Try.f203
def trig_table (k : Nat) : Option (List Int) :=
  some [0, 1608, 3216, 4821, 6424, 8022, 9616, 11204, 12785, 14359, 15924, 17479, 19024, 20557, 22078, 23586, 25080, 26558, 28020, 29466, 30893, 32303, 33692, 35062, 36410, 37736, 39040, 40320, 41576, 42806, 44011, 45190, 46341, 47464, 48559, 49624, 50660, 51665, 52639, 53581, 54491, 55368, 56212, 57022, 57798, 58538, 59244, 59914, 60547, 61145, 61705, 62228, 62714, 63162, 63572, 63944, 64277, 64571, 64827, 65043, 65220, 65358, 65457, 65516, 65536]
noncomputable def trig_table.sp (k : Nat) : Go.Sx.Spec := ⟨.unit, (.one (.dp (.arr 65 T2))), fun x => trig_table k, false⟩
noncomputable def trig_table.cx (k : Nat) : Go.Sx.Ctx := ⟨tys, [], eqs, 2, 0, [], false⟩
theorem trig_table.cok (k : Nat) : CtxOk PR (trig_table.cx k) := ctx_ok tysOk eqsOk FnsOk.nil HsOk.nil
theorem trig_table.way (k : Nat) : Owp (trig_table k) fun y => ∃ answers cmds, exec PR (trig_table.cx k) trig_table.code 0 (entry .unit ()).st answers (Ret (trig_table.cx k) Try.f203 cmds (.one (.dp (.arr 65 T2))) y) := by
  unfold trig_table; exact
   Owp.some (⟨[], [], via (retP trivial (.one (.dp (.arr 65 T2))) ([(0 : Int), (1608 : Int), (3216 : Int), (4821 : Int), (6424 : Int), (8022 : Int), (9616 : Int), (11204 : Int), (12785 : Int), (14359 : Int), (15924 : Int), (17479 : Int), (19024 : Int), (20557 : Int), (22078 : Int), (23586 : Int), (25080 : Int), (26558 : Int), (28020 : Int), (29466 : Int), (30893 : Int), (32303 : Int), (33692 : Int), (35062 : Int), (36410 : Int), (37736 : Int), (39040 : Int), (40320 : Int), (41576 : Int), (42806 : Int), (44011 : Int), (45190 : Int), (46341 : Int), (47464 : Int), (48559 : Int), (49624 : Int), (50660 : Int), (51665 : Int), (52639 : Int), (53581 : Int), (54491 : Int), (55368 : Int), (56212 : Int), (57022 : Int), (57798 : Int), (58538 : Int), (59244 : Int), (59914 : Int), (60547 : Int), (61145 : Int), (61705 : Int), (62228 : Int), (62714 : Int), (63162 : Int), (63572 : Int), (63944 : Int), (64277 : Int), (64571 : Int), (64827 : Int), (65043 : Int), (65220 : Int), (65358 : Int), (65457 : Int), (65516 : Int), (65536 : Int)] : (List Int))) (by kernel_rfl)⟩)
theorem trig_table.ok (k : Nat) : FnOk PR 203 (trig_table.sp k) :=
  fn_ok (trig_table.cok k) hmix Try.func203 (code := trig_table.code) (by kernel_rfl) (by kernel_rfl) (by kernel_rfl) rfl rfl (by kernel_rfl) (by kernel_rfl) (by kernel_rfl) (fun x => Nat.le_of_ble_eq_true (by kernel_rfl)) fun x y hy => (trig_table.way k).ap hy

/-! tourney/trig.first -/
noncomputable def trig_first.code : Code := Func.cd Try.f199
def trig_first (k : Nat) (a0 : Int) : Option Int :=
  bnd (trig_table k) fun y1 =>
  bif' (ieq (irem a0 256) 0)
  (req (inR (iquo .i64 a0 256) 65) <|
   some (el 0 y1 (iquo .i64 a0 256)))
  (req (inR (iquo .i64 a0 256) 65) <|
   req (inR (iadd .i64 (iquo .i64 a0 256) 1) 65) <|
   some (iadd .i64 (el 0 y1 (iquo .i64 a0 256)) (iquo .i64 (iadd .i64 (imul .i64 (isub .i64 (el 0 y1 (iadd .i64 (iquo .i64 a0 256) 1)) (el 0 y1 (iquo .i64 a0 256))) (irem a0 256)) 128) 256)))
noncomputable def trig_first.sp (k : Nat) : Go.Sx.Spec := ⟨(.pair T2 .unit), (.one (.dp T2)), fun x => trig_first k x.1, false⟩
noncomputable def trig_first.cx (k : Nat) : Go.Sx.Ctx := ⟨tys, [(203, trig_table.sp k)], eqs, 32, 0, [], false⟩
theorem trig_first.cok (k : Nat) : CtxOk PR (trig_first.cx k) := ctx_ok tysOk eqsOk (FnsOk.cons (trig_table.ok k) FnsOk.nil) HsOk.nil
theorem trig_first.way (k : Nat) (a0 : Int) : Owp (trig_first k a0) fun y => ∃ answers cmds, exec PR (trig_first.cx k) trig_first.code 0 (entry (.pair T2 .unit) (a0, ())).st answers (Ret (trig_first.cx k) Try.f199 cmds (.one (.dp T2)) y) := by
  unfold trig_first; exact
   Owp.bnd fun y1 e2 =>
   Owp.bif (fun e3 =>
   Owp.req fun h4 =>
    Owp.some (⟨[.res (.one (.dp (.arr 65 T2))) y1, .dec true], [], via (retP (And.intro (And.intro (And.intro (And.intro (And.intro (And.intro trivial e2) (by decide : nz (256 : Int))) (by decide : nz (256 : Int))) e3) h4) h4) (.one (.dp T2)) ((el (0 : Int) y1 (iquo .i64 a0 (256 : Int))) : Int)) (by kernel_rfl)⟩)) (fun e3 =>
   Owp.req fun h5 =>
    Owp.req fun h6 =>
    Owp.some (⟨[.res (.one (.dp (.arr 65 T2))) y1, .dec false], [], via (retP (And.intro (And.intro (And.intro (And.intro (And.intro (And.intro (And.intro (And.intro (And.intro (And.intro (And.intro trivial e2) (by decide : nz (256 : Int))) (by decide : nz (256 : Int))) e3) h5) h5) h6) h6) h5) h5) (by decide : nz (256 : Int))) (.one (.dp T2)) ((iadd .i64 (el (0 : Int) y1 (iquo .i64 a0 (256 : Int))) (iquo .i64 (iadd .i64 (imul .i64 (isub .i64 (el (0 : Int) y1 (iadd .i64 (iquo .i64 a0 (256 : Int)) (1 : Int))) (el (0 : Int) y1 (iquo .i64 a0 (256 : Int)))) (irem a0 (256 : Int))) (128 : Int)) (256 : Int))) : Int)) (by kernel_rfl)⟩))
theorem trig_first.ok (k : Nat) : FnOk PR 199 (trig_first.sp k) :=
  fn_ok (trig_first.cok k) hmix Try.func199 (code := trig_first.code) (by kernel_rfl) (by kernel_rfl) (by kernel_rfl) rfl rfl (by kernel_rfl) (by kernel_rfl) (by kernel_rfl) (fun x => Nat.le_of_ble_eq_true (by kernel_rfl)) fun x y hy => (trig_first.way k x.1).ap hy

/-! tourney/trig.Sin -/
noncomputable def trig_Sin.code : Code := Func.cd Try.f170
def trig_Sin (k : Nat) (a0 : Int) : Option Int :=
  bif' (ieq (iquo .i64 (ibits .and .i64 a0 65535) 16384) 0)
  (bnd (trig_first k (irem (ibits .and .i64 a0 65535) 16384)) fun y2 =>
   some y2)
  (bif' (ieq (iquo .i64 (ibits .and .i64 a0 65535) 16384) 1)
   (bnd (trig_first k (isub .i64 16384 (irem (ibits .and .i64 a0 65535) 16384))) fun y5 =>
    some y5)
   (bif' (ieq (iquo .i64 (ibits .and .i64 a0 65535) 16384) 2)
    (bnd (trig_first k (irem (ibits .and .i64 a0 65535) 16384)) fun y8 =>
     some (ineg .i64 y8))
    (bnd (trig_first k (isub .i64 16384 (irem (ibits .and .i64 a0 65535) 16384))) fun y10 =>
     some (ineg .i64 y10))))
noncomputable def trig_Sin.sp (k : Nat) : Go.Sx.Spec := ⟨(.pair T2 .unit), (.one (.dp T2)), fun x => trig_Sin k x.1, false⟩
noncomputable def trig_Sin.cx (k : Nat) : Go.Sx.Ctx := ⟨tys, [(199, trig_first.sp k)], eqs, 28, 0, [], false⟩
theorem trig_Sin.cok (k : Nat) : CtxOk PR (trig_Sin.cx k) := ctx_ok tysOk eqsOk (FnsOk.cons (trig_first.ok k) FnsOk.nil) HsOk.nil
theorem trig_Sin.way (k : Nat) (a0 : Int) : Owp (trig_Sin k a0) fun y => ∃ answers cmds, exec PR (trig_Sin.cx k) trig_Sin.code 0 (entry (.pair T2 .unit) (a0, ())).st answers (Ret (trig_Sin.cx k) Try.f170 cmds (.one (.dp T2)) y) := by
  unfold trig_Sin; exact
   Owp.bif (fun e1 =>
   Owp.bnd fun y2 e3 =>
    Owp.some (⟨[.dec true, .res (.one (.dp T2)) y2], [], via (retP (And.intro (And.intro (And.intro (And.intro trivial (by decide : nz (16384 : Int))) (by decide : nz (16384 : Int))) e1) e3) (.one (.dp T2)) (y2 : Int)) (by kernel_rfl)⟩)) (fun e1 =>
   Owp.bif (fun e4 =>
    Owp.bnd fun y5 e6 =>
     Owp.some (⟨[.dec false, .dec true, .res (.one (.dp T2)) y5], [], via (retP (And.intro (And.intro (And.intro (And.intro (And.intro trivial (by decide : nz (16384 : Int))) (by decide : nz (16384 : Int))) e1) e4) e6) (.one (.dp T2)) (y5 : Int)) (by kernel_rfl)⟩)) (fun e4 =>
    Owp.bif (fun e7 =>
     Owp.bnd fun y8 e9 =>
      Owp.some (⟨[.dec false, .dec false, .dec true, .res (.one (.dp T2)) y8], [], via (retP (And.intro (And.intro (And.intro (And.intro (And.intro (And.intro trivial (by decide : nz (16384 : Int))) (by decide : nz (16384 : Int))) e1) e4) e7) e9) (.one (.dp T2)) ((ineg .i64 y8) : Int)) (by kernel_rfl)⟩)) (fun e7 =>
     Owp.bnd fun y10 e11 =>
      Owp.some (⟨[.dec false, .dec false, .dec false, .res (.one (.dp T2)) y10], [], via (retP (And.intro (And.intro (And.intro (And.intro (And.intro (And.intro trivial (by decide : nz (16384 : Int))) (by decide : nz (16384 : Int))) e1) e4) e7) e11) (.one (.dp T2)) ((ineg .i64 y10) : Int)) (by kernel_rfl)⟩))))
theorem trig_Sin.ok (k : Nat) : FnOk PR 170 (trig_Sin.sp k) :=
  fn_ok (trig_Sin.cok k) hmix Try.func170 (code := trig_Sin.code) (by kernel_rfl) (by kernel_rfl) (by kernel_rfl) rfl rfl (by kernel_rfl) (by kernel_rfl) (by kernel_rfl) (fun x => Nat.le_of_ble_eq_true (by kernel_rfl)) fun x y hy => (trig_Sin.way k x.1).ap hy

/-! tourney/trig.Cos -/
noncomputable def trig_Cos.code : Code := Func.cd Try.f169
def trig_Cos (k : Nat) (a0 : Int) : Option Int :=
  bnd (trig_Sin k (iadd .i64 (ibits .and .i64 a0 65535) 16384)) fun y1 =>
  some y1
noncomputable def trig_Cos.sp (k : Nat) : Go.Sx.Spec := ⟨(.pair T2 .unit), (.one (.dp T2)), fun x => trig_Cos k x.1, false⟩
noncomputable def trig_Cos.cx (k : Nat) : Go.Sx.Ctx := ⟨tys, [(170, trig_Sin.sp k)], eqs, 7, 0, [], false⟩
theorem trig_Cos.cok (k : Nat) : CtxOk PR (trig_Cos.cx k) := ctx_ok tysOk eqsOk (FnsOk.cons (trig_Sin.ok k) FnsOk.nil) HsOk.nil
theorem trig_Cos.way (k : Nat) (a0 : Int) : Owp (trig_Cos k a0) fun y => ∃ answers cmds, exec PR (trig_Cos.cx k) trig_Cos.code 0 (entry (.pair T2 .unit) (a0, ())).st answers (Ret (trig_Cos.cx k) Try.f169 cmds (.one (.dp T2)) y) := by
  unfold trig_Cos; exact
   Owp.bnd fun y1 e2 =>
   Owp.some (⟨[.res (.one (.dp T2)) y1], [], via (retP (And.intro trivial e2) (.one (.dp T2)) (y1 : Int)) (by kernel_rfl)⟩)
theorem trig_Cos.ok (k : Nat) : FnOk PR 169 (trig_Cos.sp k) :=
  fn_ok (trig_Cos.cok k) hmix Try.func169 (code := trig_Cos.code) (by kernel_rfl) (by kernel_rfl) (by kernel_rfl) rfl rfl (by kernel_rfl) (by kernel_rfl) (by kernel_rfl) (fun x => Nat.le_of_ble_eq_true (by kernel_rfl)) fun x y hy => (trig_Cos.way k x.1).ap hy

/-! tourney/vec.Turn -/
noncomputable def vec_Turn.code : Code := Func.cd Try.f106
def vec_Turn (k : Nat) (a0 : V22) (a1 : Int) : Option V22 :=
  bnd (trig_Cos k a1) fun y1 =>
  bnd (trig_Sin k a1) fun y3 =>
  bnd (fix_Mul k a0.1 y1) fun y5 =>
  bnd (fix_Mul k a0.2.1 y3) fun y7 =>
  bnd (fix_Sub k y5 y7) fun y9 =>
  bnd (fix_Mul k a0.1 y3) fun y11 =>
  bnd (fix_Mul k a0.2.1 y1) fun y13 =>
  bnd (fix_Add k y11 y13) fun y15 =>
  some (y9, y15, ())
noncomputable def vec_Turn.sp (k : Nat) : Go.Sx.Spec := ⟨(.pair T22 (.pair T2 .unit)), (.one (.dp T22)), fun x => vec_Turn k x.1 x.2.1, false⟩
noncomputable def vec_Turn.cx (k : Nat) : Go.Sx.Ctx := ⟨tys, [(169, trig_Cos.sp k), (170, trig_Sin.sp k), (89, fix_Mul.sp k), (90, fix_Sub.sp k), (85, fix_Add.sp k)], eqs, 30, 0, [], false⟩
theorem vec_Turn.cok (k : Nat) : CtxOk PR (vec_Turn.cx k) := ctx_ok tysOk eqsOk (FnsOk.cons (trig_Cos.ok k) (FnsOk.cons (trig_Sin.ok k) (FnsOk.cons (fix_Mul.ok k) (FnsOk.cons (fix_Sub.ok k) (FnsOk.cons (fix_Add.ok k) FnsOk.nil))))) HsOk.nil
theorem vec_Turn.way (k : Nat) (a0 : V22) (a1 : Int) : Owp (vec_Turn k a0 a1) fun y => ∃ answers cmds, exec PR (vec_Turn.cx k) vec_Turn.code 0 (entry (.pair T22 (.pair T2 .unit)) (a0, a1, ())).st answers (Ret (vec_Turn.cx k) Try.f106 cmds (.one (.dp T22)) y) := by
  unfold vec_Turn; exact
   Owp.bnd fun y1 e2 =>
   Owp.bnd fun y3 e4 =>
   Owp.bnd fun y5 e6 =>
   Owp.bnd fun y7 e8 =>
   Owp.bnd fun y9 e10 =>
   Owp.bnd fun y11 e12 =>
   Owp.bnd fun y13 e14 =>
   Owp.bnd fun y15 e16 =>
   Owp.some (⟨[.res (.one (.dp T2)) y1, .res (.one (.dp T2)) y3, .res (.one (.dp T2)) y5, .res (.one (.dp T2)) y7, .res (.one (.dp T2)) y9, .res (.one (.dp T2)) y11, .res (.one (.dp T2)) y13, .res (.one (.dp T2)) y15], [], via (retP (And.intro (And.intro (And.intro (And.intro (And.intro (And.intro (And.intro (And.intro trivial e2) e4) e6) e8) e10) e12) e14) e16) (.one (.dp T22)) ((y9, y15, ()) : V22)) (by kernel_rfl)⟩)
theorem vec_Turn.ok (k : Nat) : FnOk PR 106 (vec_Turn.sp k) :=
  fn_ok (vec_Turn.cok k) hmix Try.func106 (code := vec_Turn.code) (by kernel_rfl) (by kernel_rfl) (by kernel_rfl) rfl rfl (by kernel_rfl) (by kernel_rfl) (by kernel_rfl) (fun x => Nat.le_of_ble_eq_true (by kernel_rfl)) fun x y hy => (vec_Turn.way k x.1 x.2.1).ap hy

/-! tourney/tourref2.coord -/
noncomputable def tourref2_coord.code : Code := Func.cd Try.f87
def tourref2_coord (k : Nat) (a0 : V22) (a1 : Int) : Option Bool :=
  bif' (ige a0.1 (ineg .i64 a1))
  (bif' (ile a0.1 a1)
   (bif' (ige a0.2.1 (ineg .i64 a1))
    (some (ile a0.2.1 a1))
    (some false))
   (some false))
  (some false)
noncomputable def tourref2_coord.sp (k : Nat) : Go.Sx.Spec := ⟨(.pair T22 (.pair T2 .unit)), (.one (.dp T4)), fun x => tourref2_coord k x.1 x.2.1, false⟩
noncomputable def tourref2_coord.cx (k : Nat) : Go.Sx.Ctx := ⟨tys, [], eqs, 29, 0, [], false⟩
theorem tourref2_coord.cok (k : Nat) : CtxOk PR (tourref2_coord.cx k) := ctx_ok tysOk eqsOk FnsOk.nil HsOk.nil
theorem tourref2_coord.way (k : Nat) (a0 : V22) (a1 : Int) : Owp (tourref2_coord k a0 a1) fun y => ∃ answers cmds, exec PR (tourref2_coord.cx k) tourref2_coord.code 0 (entry (.pair T22 (.pair T2 .unit)) (a0, a1, ())).st answers (Ret (tourref2_coord.cx k) Try.f87 cmds (.one (.dp T4)) y) := by
  unfold tourref2_coord; exact
   Owp.bif (fun e1 =>
   Owp.bif (fun e2 =>
    Owp.bif (fun e3 =>
     Owp.some (⟨[.dec true, .dec true, .dec true, .dec true, .dec true, .dec true, .dec true, .dec true, .dec true, .dec true, .dec true, .dec true, .dec true, .dec true, .dec true, .dec true], [], via (retP (And.intro (And.intro (And.intro (And.intro (And.intro (And.intro (And.intro (And.intro (And.intro (And.intro (And.intro (And.intro (And.intro (And.intro (And.intro (And.intro trivial e1) e1) e1) e1) e1) e2) e2) e2) e2) e2) e2) e3) e3) e3) e3) e3) (.one (.dp T4)) ((ile a0.2.1 a1) : Bool)) (by kernel_rfl)⟩)) (fun e3 =>
     Owp.some (⟨[.dec true, .dec true, .dec true, .dec true, .dec true, .dec true, .dec true, .dec true, .dec true, .dec true, .dec true, .dec false, .dec false, .dec false, .dec false, .dec false], [], via (retP (And.intro (And.intro (And.intro (And.intro (And.intro (And.intro (And.intro (And.intro (And.intro (And.intro (And.intro (And.intro (And.intro (And.intro (And.intro (And.intro trivial e1) e1) e1) e1) e1) e2) e2) e2) e2) e2) e2) e3) e3) e3) e3) e3) (.one (.dp T4)) (false : Bool)) (by kernel_rfl)⟩))) (fun e2 =>
    Owp.some (⟨[.dec true, .dec true, .dec true, .dec true, .dec true, .dec false, .dec false, .dec false, .dec false, .dec false, .dec false, .dec false, .dec false, .dec false, .dec false, .dec false], [], via (retP (And.intro (And.intro (And.intro (And.intro (And.intro (And.intro (And.intro (And.intro (And.intro (And.intro (And.intro (And.intro (And.intro (And.intro (And.intro (And.intro trivial e1) e1) e1) e1) e1) e2) e2) e2) e2) e2) e2) ff) ff) ff) ff) ff) (.one (.dp T4)) (false : Bool)) (by kernel_rfl)⟩))) (fun e1 =>
   Owp.some (⟨[.dec false, .dec false, .dec false, .dec false, .dec false, .dec false, .dec false, .dec false, .dec false, .dec false, .dec false, .dec false, .dec false, .dec false, .dec false, .dec false], [], via (retP (And.intro (And.intro (And.intro (And.intro (And.intro (And.intro (And.intro (And.intro (And.intro (And.intro (And.intro (And.intro (And.intro (And.intro (And.intro (And.intro trivial e1) e1) e1) e1) e1) ff) ff) ff) ff) ff) ff) ff) ff) ff) ff) ff) (.one (.dp T4)) (false : Bool)) (by kernel_rfl)⟩))
theorem tourref2_coord.ok (k : Nat) : FnOk PR 87 (tourref2_coord.sp k) :=
  fn_ok (tourref2_coord.cok k) hmix Try.func87 (code := tourref2_coord.code) (by kernel_rfl) (by kernel_rfl) (by kernel_rfl) rfl rfl (by kernel_rfl) (by kernel_rfl) (by kernel_rfl) (fun x => Nat.le_of_ble_eq_true (by kernel_rfl)) fun x y hy => (tourref2_coord.way k x.1 x.2.1).ap hy

/-! tourney/tourref2.sub -/
noncomputable def tourref2_sub.code : Code := Func.cd Try.f102
def tourref2_sub (k : Nat) (a0 : V22) (a1 : V22) : Option V22 :=
  some ((isub .i64 a0.1 a1.1), (isub .i64 a0.2.1 a1.2.1), ())
noncomputable def tourref2_sub.sp (k : Nat) : Go.Sx.Spec := ⟨T52, (.one (.dp T22)), fun x => tourref2_sub k x.1 x.2.1, false⟩
noncomputable def tourref2_sub.cx (k : Nat) : Go.Sx.Ctx := ⟨tys, [], eqs, 16, 0, [], false⟩
theorem tourref2_sub.cok (k : Nat) : CtxOk PR (tourref2_sub.cx k) := ctx_ok tysOk eqsOk FnsOk.nil HsOk.nil
theorem tourref2_sub.way (k : Nat) (a0 : V22) (a1 : V22) : Owp (tourref2_sub k a0 a1) fun y => ∃ answers cmds, exec PR (tourref2_sub.cx k) tourref2_sub.code 0 (entry T52 (a0, a1, ())).st answers (Ret (tourref2_sub.cx k) Try.f102 cmds (.one (.dp T22)) y) := by
  unfold tourref2_sub; exact
   Owp.some (⟨[], [], via (retP trivial (.one (.dp T22)) (((isub .i64 a0.1 a1.1), (isub .i64 a0.2.1 a1.2.1), ()) : V22)) (by kernel_rfl)⟩)
theorem tourref2_sub.ok (k : Nat) : FnOk PR 102 (tourref2_sub.sp k) :=
  fn_ok (tourref2_sub.cok k) hmix Try.func102 (code := tourref2_sub.code) (by kernel_rfl) (by kernel_rfl) (by kernel_rfl) rfl rfl (by kernel_rfl) (by kernel_rfl) (by kernel_rfl) (fun x => Nat.le_of_ble_eq_true (by kernel_rfl)) fun x y hy => (tourref2_sub.way k x.1 x.2.1).ap hy

/-! tourney/tourref2.Cross -/
noncomputable def tourref2_Cross.code : Code := Func.cd Try.f158
def tourref2_Cross (k : Nat) (a0 : V22) (a1 : V22) : Option (List Int) :=
  bnd (tourref2_Of k a0.1) fun y1 =>
  bnd (tourref2_Of k a1.2.1) fun y3 =>
  bnd (tourref2_Big_Mul k y1 y3) fun y5 =>
  bnd (tourref2_Of k a0.2.1) fun y7 =>
  bnd (tourref2_Of k a1.1) fun y9 =>
  bnd (tourref2_Big_Mul k y7 y9) fun y11 =>
  bnd (tourref2_Big_Sub k y5 y11) fun y13 =>
  some y13
noncomputable def tourref2_Cross.sp (k : Nat) : Go.Sx.Spec := ⟨T52, (.one (.dp T134)), fun x => tourref2_Cross k x.1 x.2.1, false⟩
noncomputable def tourref2_Cross.cx (k : Nat) : Go.Sx.Ctx := ⟨tys, [(159, tourref2_Of.sp k), (177, tourref2_Big_Mul.sp k), (189, tourref2_Big_Sub.sp k)], eqs, 20, 0, [], false⟩
theorem tourref2_Cross.cok (k : Nat) : CtxOk PR (tourref2_Cross.cx k) := ctx_ok tysOk eqsOk (FnsOk.cons (tourref2_Of.ok k) (FnsOk.cons (tourref2_Big_Mul.ok k) (FnsOk.cons (tourref2_Big_Sub.ok k) FnsOk.nil))) HsOk.nil
theorem tourref2_Cross.way (k : Nat) (a0 : V22) (a1 : V22) : Owp (tourref2_Cross k a0 a1) fun y => ∃ answers cmds, exec PR (tourref2_Cross.cx k) tourref2_Cross.code 0 (entry T52 (a0, a1, ())).st answers (Ret (tourref2_Cross.cx k) Try.f158 cmds (.one (.dp T134)) y) := by
  unfold tourref2_Cross; exact
   Owp.bnd fun y1 e2 =>
   Owp.bnd fun y3 e4 =>
   Owp.bnd fun y5 e6 =>
   Owp.bnd fun y7 e8 =>
   Owp.bnd fun y9 e10 =>
   Owp.bnd fun y11 e12 =>
   Owp.bnd fun y13 e14 =>
   Owp.some (⟨[.res (.one (.dp T134)) y1, .res (.one (.dp T134)) y3, .res (.one (.dp T134)) y5, .res (.one (.dp T134)) y7, .res (.one (.dp T134)) y9, .res (.one (.dp T134)) y11, .res (.one (.dp T134)) y13], [], via (retP (And.intro (And.intro (And.intro (And.intro (And.intro (And.intro (And.intro trivial e2) e4) e6) e8) e10) e12) e14) (.one (.dp T134)) (y13 : (List Int))) (by kernel_rfl)⟩)
theorem tourref2_Cross.ok (k : Nat) : FnOk PR 158 (tourref2_Cross.sp k) :=
  fn_ok (tourref2_Cross.cok k) hmix Try.func158 (code := tourref2_Cross.code) (by kernel_rfl) (by kernel_rfl) (by kernel_rfl) rfl rfl (by kernel_rfl) (by kernel_rfl) (by kernel_rfl) (fun x => Nat.le_of_ble_eq_true (by kernel_rfl)) fun x y hy => (tourref2_Cross.way k x.1 x.2.1).ap hy

/-! tourney/tourref2.left -/
noncomputable def tourref2_left.code : Code := Func.cd Try.f124
def tourref2_left (k : Nat) (a0 : V22) (a1 : V22) (a2 : V22) : Option Int :=
  bnd (tourref2_sub k a1 a0) fun y1 =>
  bnd (tourref2_sub k a2 a0) fun y3 =>
  bnd (tourref2_Cross k y1 y3) fun y5 =>
  bnd (tourref2_Big_Cmp k y5 (List.replicate 8 0)) fun y7 =>
  some y7
noncomputable def tourref2_left.sp (k : Nat) : Go.Sx.Spec := ⟨(.pair T22 T52), (.one (.dp T2)), fun x => tourref2_left k x.1 x.2.1 x.2.2.1, false⟩
noncomputable def tourref2_left.cx (k : Nat) : Go.Sx.Ctx := ⟨tys, [(102, tourref2_sub.sp k), (158, tourref2_Cross.sp k), (126, tourref2_Big_Cmp.sp k)], eqs, 16, 0, [], false⟩
theorem tourref2_left.cok (k : Nat) : CtxOk PR (tourref2_left.cx k) := ctx_ok tysOk eqsOk (FnsOk.cons (tourref2_sub.ok k) (FnsOk.cons (tourref2_Cross.ok k) (FnsOk.cons (tourref2_Big_Cmp.ok k) FnsOk.nil))) HsOk.nil
theorem tourref2_left.way (k : Nat) (a0 : V22) (a1 : V22) (a2 : V22) : Owp (tourref2_left k a0 a1 a2) fun y => ∃ answers cmds, exec PR (tourref2_left.cx k) tourref2_left.code 0 (entry (.pair T22 T52) (a0, a1, a2, ())).st answers (Ret (tourref2_left.cx k) Try.f124 cmds (.one (.dp T2)) y) := by
  unfold tourref2_left; exact
   Owp.bnd fun y1 e2 =>
   Owp.bnd fun y3 e4 =>
   Owp.bnd fun y5 e6 =>
   Owp.bnd fun y7 e8 =>
   Owp.some (⟨[.res (.one (.dp T22)) y1, .res (.one (.dp T22)) y3, .res (.one (.dp T134)) y5, .res (.one (.dp T2)) y7], [], via (retP (And.intro (And.intro (And.intro (And.intro trivial e2) e4) e6) e8) (.one (.dp T2)) (y7 : Int)) (by kernel_rfl)⟩)
theorem tourref2_left.ok (k : Nat) : FnOk PR 124 (tourref2_left.sp k) :=
  fn_ok (tourref2_left.cok k) hmix Try.func124 (code := tourref2_left.code) (by kernel_rfl) (by kernel_rfl) (by kernel_rfl) rfl rfl (by kernel_rfl) (by kernel_rfl) (by kernel_rfl) (fun x => Nat.le_of_ble_eq_true (by kernel_rfl)) fun x y hy => (tourref2_left.way k x.1 x.2.1 x.2.2.1).ap hy

/-! tourney/tourref2.Poly -/
noncomputable def tourref2_Poly.code : Code := Func.cd Try.f50
def tourref2_Poly.c1 (k : Nat) (a0 : (List V22)) : Nat → Int → Option (Unit ⊕ Unit)
  | 0, _ => none
  | n + 1, v3 =>
   bif' (ilt v3 (len a0))
   (req (inL v3 a0) <|
    bnd (tourref2_coord k (el Z22 a0 v3) 65536000) fun y6 =>
    bif' y6
    (tourref2_Poly.c1 k a0 n (iadd .i64 v3 1))
    (some (.inl ())))
   (some (.inr ()))
def tourref2_Poly.c4 (k : Nat) (a0 : (List V22)) (v15 : Int) (v17 : Int) : Nat → Int → Option (Unit ⊕ Unit)
  | 0, _ => none
  | n + 1, v19 =>
   bif' (ilt v19 (len a0))
   (req (inL v15 a0) <|
    req (inL v17 a0) <|
    req (inL v19 a0) <|
    bnd (tourref2_left k (el Z22 a0 v15) (el Z22 a0 v17) (el Z22 a0 v19)) fun y24 =>
    bif' (ile y24 0)
    (some (.inl ()))
    (tourref2_Poly.c4 k a0 v15 v17 n (iadd .i64 v19 1)))
   (some (.inr ()))
def tourref2_Poly.c3 (k : Nat) (a0 : (List V22)) (v15 : Int) : Nat → Int → Option (Unit ⊕ Unit)
  | 0, _ => none
  | n + 1, v17 =>
   bif' (ilt v17 (len a0))
   (bnd (tourref2_Poly.c4 k a0 v15 v17 k (iadd .i64 v17 1)) fun o27 =>
    two o27 (fun y29 =>
    some (.inl ())) (fun y31 =>
    tourref2_Poly.c3 k a0 v15 n (iadd .i64 v17 1)))
   (some (.inr ()))
def tourref2_Poly.c2 (k : Nat) (a0 : (List V22)) : Nat → Int → Option (Unit ⊕ Unit)
  | 0, _ => none
  | n + 1, v15 =>
   bif' (ilt v15 (len a0))
   (bnd (tourref2_Poly.c3 k a0 v15 k (iadd .i64 v15 1)) fun o33 =>
    two o33 (fun y35 =>
    some (.inl ())) (fun y37 =>
    tourref2_Poly.c2 k a0 n (iadd .i64 v15 1)))
   (some (.inr ()))
def tourref2_Poly (k : Nat) (a0 : (List V22)) : Option Int :=
  bif' (igt (len a0) 8)
  (some 2)
  (bif' (ilt (len a0) 3)
   (some 3)
   (bnd (tourref2_Poly.c1 k a0 k 0) fun o9 =>
    two o9 (fun y11 =>
    some 1) (fun y13 =>
    bnd (tourref2_Poly.c2 k a0 k 0) fun o39 =>
     two o39 (fun y41 =>
     some 3) (fun y43 =>
     some 0))))
noncomputable def tourref2_Poly.sp (k : Nat) : Go.Sx.Spec := ⟨(.pair T24 .unit), (.one (.dp T2)), fun x => tourref2_Poly k x.1, false⟩
noncomputable def tourref2_Poly.cx (k : Nat) : Go.Sx.Ctx := ⟨tys, [(87, tourref2_coord.sp k), (124, tourref2_left.sp k)], eqs, 60, 0, [], false⟩
theorem tourref2_Poly.cok (k : Nat) : CtxOk PR (tourref2_Poly.cx k) := ctx_ok tysOk eqsOk (FnsOk.cons (tourref2_coord.ok k) (FnsOk.cons (tourref2_left.ok k) FnsOk.nil)) HsOk.nil
noncomputable def tourref2_Poly.c1p (a0 : (List V22)) (v3 : Int) : SL := ⟨[(0, (.val T24 a0)), (3, (.val T2 (len a0))), (17, (.val T24 a0)), (18, (.val T2 (len a0))), (19, (.val T2 v3))], []⟩
noncomputable def tourref2_Poly.c1q (a0 : (List V22)) (o : Unit ⊕ Unit) : SL := (fun o => two o (fun v => ⟨[(2, (.val T2 (1 : Int)))], []⟩) (fun v => ⟨[(0, (.val T24 a0)), (3, (.val T2 (len a0)))], []⟩)) o
noncomputable def tourref2_Poly.c1x (o : Unit ⊕ Unit) : Ex := (fun o => two o (fun _ => .ret) (fun _ => (.exit 1))) o
noncomputable def tourref2_Poly.c1n (o : Unit ⊕ Unit) : Nat := (fun o => two o (fun _ => 0) (fun _ => 0)) o
theorem tourref2_Poly.c1_ok (k : Nat) (a0 : (List V22)) : ∀ (n : Nat) (v3 : Int), Owp (tourref2_Poly.c1 k a0 n v3) fun o => LTriple PR (tourref2_Poly.cx k) (sub tourref2_Poly.code [1, 1, 1, 0, 1, 0, 0]) 0 (tourref2_Poly.c1p a0 v3) (tourref2_Poly.c1x o) (tourref2_Poly.c1n o) (tourref2_Poly.c1q a0 o)
  | 0, _ => fun _ h => nomatch h
  | n + 1, v3 => Owp.of (tourref2_Poly.c1.eq_2 ..) (
   Owp.bif (fun e4 =>
   Owp.req fun h5 =>
    Owp.bnd fun y6 e7 =>
    Owp.bif (fun e8 =>
    fun y hy => loop_back (tourref2_Poly.cok k) hmix 0 (tourref2_Poly.c1p a0 (iadd .i64 v3 (1 : Int))) [.dec true, .res (.one (.dp T4)) y6, .dec false] [] [] (via (finP (And.intro (And.intro (And.intro (And.intro trivial e4) h5) e7) (congrArg not e8)) .normal [] (tourref2_Poly.c1p a0 (iadd .i64 v3 (1 : Int)))) (by kernel_rfl)) ((tourref2_Poly.c1_ok k a0 n (iadd .i64 v3 (1 : Int))).ap hy)) (fun e8 =>
    Owp.some (loop_exit (tourref2_Poly.cok k) hmix [.dec true, .res (.one (.dp T4)) y6, .dec true] [] [] exne_ret (via (finP (And.intro (And.intro (And.intro (And.intro trivial e4) h5) e7) (congrArg not e8)) .ret [] (tourref2_Poly.c1q a0 (.inl ()))) (by kernel_rfl))))) (fun e4 =>
   Owp.some (loop_exit (tourref2_Poly.cok k) hmix [.dec false] [] [] (exne 1) (via (finP (And.intro trivial e4) (.exit 1) [] (tourref2_Poly.c1q a0 (.inr ()))) (by kernel_rfl)))))
noncomputable def tourref2_Poly.c4p (a0 : (List V22)) (v15 : Int) (v17 : Int) (v19 : Int) : SL := ⟨[(0, (.val T24 a0)), (3, (.val T2 (len a0))), (6, (.val T2 v15)), (7, (.val T2 v17)), (8, (.val T2 v19)), (27, (.val T2 (len a0))), (28, (.val T2 v15))], []⟩
noncomputable def tourref2_Poly.c4q (a0 : (List V22)) (v15 : Int) (v17 : Int) (o : Unit ⊕ Unit) : SL := (fun o => two o (fun v => ⟨[(2, (.val T2 (3 : Int)))], []⟩) (fun v => ⟨[(0, (.val T24 a0)), (3, (.val T2 (len a0))), (6, (.val T2 v15)), (7, (.val T2 v17)), (27, (.val T2 (len a0))), (28, (.val T2 v15))], []⟩)) o
noncomputable def tourref2_Poly.c4x (o : Unit ⊕ Unit) : Ex := (fun o => two o (fun _ => .ret) (fun _ => (.exit 7))) o
noncomputable def tourref2_Poly.c4n (o : Unit ⊕ Unit) : Nat := (fun o => two o (fun _ => 0) (fun _ => 0)) o
theorem tourref2_Poly.c4_ok (k : Nat) (a0 : (List V22)) (v15 : Int) (v17 : Int) : ∀ (n : Nat) (v19 : Int), Owp (tourref2_Poly.c4 k a0 v15 v17 n v19) fun o => LTriple PR (tourref2_Poly.cx k) (sub tourref2_Poly.code [1, 1, 1, 1, 0, 1, 0, 0, 1, 1, 0, 0, 1, 1, 0, 0, 1, 0, 0, 1, 0, 0]) 0 (tourref2_Poly.c4p a0 v15 v17 v19) (tourref2_Poly.c4x o) (tourref2_Poly.c4n o) (tourref2_Poly.c4q a0 v15 v17 o)
  | 0, _ => fun _ h => nomatch h
  | n + 1, v19 => Owp.of (tourref2_Poly.c4.eq_2 ..) (
   Owp.bif (fun e20 =>
   Owp.req fun h21 =>
    Owp.req fun h22 =>
    Owp.req fun h23 =>
    Owp.bnd fun y24 e25 =>
    Owp.bif (fun e26 =>
    Owp.some (loop_exit (tourref2_Poly.cok k) hmix [.dec true, .res (.one (.dp T2)) y24, .dec true] [] [] exne_ret (via (finP (And.intro (And.intro (And.intro (And.intro (And.intro (And.intro trivial e20) h21) h22) h23) e25) e26) .ret [] (tourref2_Poly.c4q a0 v15 v17 (.inl ()))) (by kernel_rfl)))) (fun e26 =>
    fun y hy => loop_back (tourref2_Poly.cok k) hmix 0 (tourref2_Poly.c4p a0 v15 v17 (iadd .i64 v19 (1 : Int))) [.dec true, .res (.one (.dp T2)) y24, .dec false] [] [] (via (finP (And.intro (And.intro (And.intro (And.intro (And.intro (And.intro trivial e20) h21) h22) h23) e25) e26) .normal [] (tourref2_Poly.c4p a0 v15 v17 (iadd .i64 v19 (1 : Int)))) (by kernel_rfl)) ((tourref2_Poly.c4_ok k a0 v15 v17 n (iadd .i64 v19 (1 : Int))).ap hy))) (fun e20 =>
   Owp.some (loop_exit (tourref2_Poly.cok k) hmix [.dec false] [] [] (exne 7) (via (finP (And.intro trivial e20) (.exit 7) [] (tourref2_Poly.c4q a0 v15 v17 (.inr ()))) (by kernel_rfl)))))
noncomputable def tourref2_Poly.c3p (a0 : (List V22)) (v15 : Int) (v17 : Int) : SL := ⟨[(0, (.val T24 a0)), (3, (.val T2 (len a0))), (6, (.val T2 v15)), (7, (.val T2 v17)), (27, (.val T2 (len a0))), (28, (.val T2 v15))], []⟩
noncomputable def tourref2_Poly.c3q (a0 : (List V22)) (v15 : Int) (o : Unit ⊕ Unit) : SL := (fun o => two o (fun v => ⟨[(2, (.val T2 (3 : Int)))], []⟩) (fun v => ⟨[(0, (.val T24 a0)), (3, (.val T2 (len a0))), (27, (.val T2 (len a0))), (28, (.val T2 v15))], []⟩)) o
noncomputable def tourref2_Poly.c3x (o : Unit ⊕ Unit) : Ex := (fun o => two o (fun _ => .ret) (fun _ => (.exit 5))) o
noncomputable def tourref2_Poly.c3n (o : Unit ⊕ Unit) : Nat := (fun o => two o (fun _ => 0) (fun _ => 0)) o
theorem tourref2_Poly.c3_ok (k : Nat) (a0 : (List V22)) (v15 : Int) : ∀ (n : Nat) (v17 : Int), Owp (tourref2_Poly.c3 k a0 v15 n v17) fun o => LTriple PR (tourref2_Poly.cx k) (sub tourref2_Poly.code [1, 1, 1, 1, 0, 1, 0, 0, 1, 1, 0, 0, 1, 1, 0, 0]) 0 (tourref2_Poly.c3p a0 v15 v17) (tourref2_Poly.c3x o) (tourref2_Poly.c3n o) (tourref2_Poly.c3q a0 v15 o)
  | 0, _ => fun _ h => nomatch h
  | n + 1, v17 => Owp.of (tourref2_Poly.c3.eq_2 ..) (
   Owp.bif (fun e18 =>
   Owp.bnd fun o27 e28 =>
    Owp.two (fun y29 e30 =>
    Owp.some (loop_exit (tourref2_Poly.cok k) hmix [.dec true, .cut ⟨[], [], (tourref2_Poly.c4p a0 v15 v17 (iadd .i64 v17 (1 : Int))), 0, .ret, (tourref2_Poly.c4q a0 v15 v17 (.inl ())), 0⟩] [] [] exne_ret (via (cutP (And.intro trivial e18) [] (tourref2_Poly.c4p a0 v15 v17 (iadd .i64 v17 (1 : Int))) (((tourref2_Poly.c4_ok k a0 v15 v17 k (iadd .i64 v17 (1 : Int))).ap (e28.trans (congrArg some e30))).triple) (finP trivial .ret [] (tourref2_Poly.c3q a0 v15 (.inl ())))) (by kernel_rfl)))) (fun y31 e32 =>
    fun y hy => loop_back (tourref2_Poly.cok k) hmix 0 (tourref2_Poly.c3p a0 v15 (iadd .i64 v17 (1 : Int))) [.dec true, .cut ⟨[], [], (tourref2_Poly.c4p a0 v15 v17 (iadd .i64 v17 (1 : Int))), 0, (.exit 7), (tourref2_Poly.c4q a0 v15 v17 (.inr ())), 0⟩] [] [] (via (cutP (And.intro trivial e18) [] (tourref2_Poly.c4p a0 v15 v17 (iadd .i64 v17 (1 : Int))) (((tourref2_Poly.c4_ok k a0 v15 v17 k (iadd .i64 v17 (1 : Int))).ap (e28.trans (congrArg some e32))).triple) (finP trivial .normal [] (tourref2_Poly.c3p a0 v15 (iadd .i64 v17 (1 : Int))))) (by kernel_rfl)) ((tourref2_Poly.c3_ok k a0 v15 n (iadd .i64 v17 (1 : Int))).ap hy))) (fun e18 =>
   Owp.some (loop_exit (tourref2_Poly.cok k) hmix [.dec false] [] [] (exne 5) (via (finP (And.intro trivial e18) (.exit 5) [] (tourref2_Poly.c3q a0 v15 (.inr ()))) (by kernel_rfl)))))
noncomputable def tourref2_Poly.c2p (a0 : (List V22)) (v15 : Int) : SL := ⟨[(0, (.val T24 a0)), (3, (.val T2 (len a0))), (27, (.val T2 (len a0))), (28, (.val T2 v15))], []⟩
noncomputable def tourref2_Poly.c2q (o : Unit ⊕ Unit) : SL := (fun o => two o (fun v => ⟨[(2, (.val T2 (3 : Int)))], []⟩) (fun v => ⟨[], []⟩)) o
noncomputable def tourref2_Poly.c2x (o : Unit ⊕ Unit) : Ex := (fun o => two o (fun _ => .ret) (fun _ => (.exit 3))) o
noncomputable def tourref2_Poly.c2n (o : Unit ⊕ Unit) : Nat := (fun o => two o (fun _ => 0) (fun _ => 0)) o
theorem tourref2_Poly.c2_ok (k : Nat) (a0 : (List V22)) : ∀ (n : Nat) (v15 : Int), Owp (tourref2_Poly.c2 k a0 n v15) fun o => LTriple PR (tourref2_Poly.cx k) (sub tourref2_Poly.code [1, 1, 1, 1, 0, 1, 0, 0]) 0 (tourref2_Poly.c2p a0 v15) (tourref2_Poly.c2x o) (tourref2_Poly.c2n o) (tourref2_Poly.c2q o)
  | 0, _ => fun _ h => nomatch h
  | n + 1, v15 => Owp.of (tourref2_Poly.c2.eq_2 ..) (
   Owp.bif (fun e16 =>
   Owp.bnd fun o33 e34 =>
    Owp.two (fun y35 e36 =>
    Owp.some (loop_exit (tourref2_Poly.cok k) hmix [.dec true, .cut ⟨[], [], (tourref2_Poly.c3p a0 v15 (iadd .i64 v15 (1 : Int))), 0, .ret, (tourref2_Poly.c3q a0 v15 (.inl ())), 0⟩] [] [] exne_ret (via (cutP (And.intro trivial e16) [] (tourref2_Poly.c3p a0 v15 (iadd .i64 v15 (1 : Int))) (((tourref2_Poly.c3_ok k a0 v15 k (iadd .i64 v15 (1 : Int))).ap (e34.trans (congrArg some e36))).triple) (finP trivial .ret [] (tourref2_Poly.c2q (.inl ())))) (by kernel_rfl)))) (fun y37 e38 =>
    fun y hy => loop_back (tourref2_Poly.cok k) hmix 0 (tourref2_Poly.c2p a0 (iadd .i64 v15 (1 : Int))) [.dec true, .cut ⟨[], [], (tourref2_Poly.c3p a0 v15 (iadd .i64 v15 (1 : Int))), 0, (.exit 5), (tourref2_Poly.c3q a0 v15 (.inr ())), 0⟩] [] [] (via (cutP (And.intro trivial e16) [] (tourref2_Poly.c3p a0 v15 (iadd .i64 v15 (1 : Int))) (((tourref2_Poly.c3_ok k a0 v15 k (iadd .i64 v15 (1 : Int))).ap (e34.trans (congrArg some e38))).triple) (finP trivial .normal [] (tourref2_Poly.c2p a0 (iadd .i64 v15 (1 : Int))))) (by kernel_rfl)) ((tourref2_Poly.c2_ok k a0 n (iadd .i64 v15 (1 : Int))).ap hy))) (fun e16 =>
   Owp.some (loop_exit (tourref2_Poly.cok k) hmix [.dec false] [] [] (exne 3) (via (finP (And.intro trivial e16) (.exit 3) [] (tourref2_Poly.c2q (.inr ()))) (by kernel_rfl)))))
theorem tourref2_Poly.way (k : Nat) (a0 : (List V22)) : Owp (tourref2_Poly k a0) fun y => ∃ answers cmds, exec PR (tourref2_Poly.cx k) tourref2_Poly.code 0 (entry (.pair T24 .unit) (a0, ())).st answers (Ret (tourref2_Poly.cx k) Try.f50 cmds (.one (.dp T2)) y) := by
  unfold tourref2_Poly; exact
   Owp.bif (fun e1 =>
   Owp.some (⟨[.dec true], [], via (retP (And.intro trivial e1) (.one (.dp T2)) ((2 : Int) : Int)) (by kernel_rfl)⟩)) (fun e1 =>
   Owp.bif (fun e2 =>
    Owp.some (⟨[.dec false, .dec true], [], via (retP (And.intro (And.intro trivial e1) e2) (.one (.dp T2)) ((3 : Int) : Int)) (by kernel_rfl)⟩)) (fun e2 =>
    Owp.bnd fun o9 e10 =>
     Owp.two (fun y11 e12 =>
     Owp.some (⟨[.dec false, .dec false, .cut ⟨[], [], (tourref2_Poly.c1p a0 (0 : Int)), 0, .ret, (tourref2_Poly.c1q a0 (.inl ())), 0⟩], [], via (cutP (And.intro (And.intro trivial e1) e2) [] (tourref2_Poly.c1p a0 (0 : Int)) (((tourref2_Poly.c1_ok k a0 k (0 : Int)).ap (e10.trans (congrArg some e12))).triple) (retP trivial (.one (.dp T2)) ((1 : Int) : Int))) (by kernel_rfl)⟩)) (fun y13 e14 =>
     Owp.bnd fun o39 e40 =>
      Owp.two (fun y41 e42 =>
      Owp.some (⟨[.dec false, .dec false, .cut ⟨[], [], (tourref2_Poly.c1p a0 (0 : Int)), 0, (.exit 1), (tourref2_Poly.c1q a0 (.inr ())), 0⟩, .cut ⟨[], [], (tourref2_Poly.c2p a0 (0 : Int)), 0, .ret, (tourref2_Poly.c2q (.inl ())), 0⟩], [], via (cutP (And.intro (And.intro trivial e1) e2) [] (tourref2_Poly.c1p a0 (0 : Int)) (((tourref2_Poly.c1_ok k a0 k (0 : Int)).ap (e10.trans (congrArg some e14))).triple) (cutP trivial [] (tourref2_Poly.c2p a0 (0 : Int)) (((tourref2_Poly.c2_ok k a0 k (0 : Int)).ap (e40.trans (congrArg some e42))).triple) (retP trivial (.one (.dp T2)) ((3 : Int) : Int)))) (by kernel_rfl)⟩)) (fun y43 e44 =>
      Owp.some (⟨[.dec false, .dec false, .cut ⟨[], [], (tourref2_Poly.c1p a0 (0 : Int)), 0, (.exit 1), (tourref2_Poly.c1q a0 (.inr ())), 0⟩, .cut ⟨[], [], (tourref2_Poly.c2p a0 (0 : Int)), 0, (.exit 3), (tourref2_Poly.c2q (.inr ())), 0⟩], [], via (cutP (And.intro (And.intro trivial e1) e2) [] (tourref2_Poly.c1p a0 (0 : Int)) (((tourref2_Poly.c1_ok k a0 k (0 : Int)).ap (e10.trans (congrArg some e14))).triple) (cutP trivial [] (tourref2_Poly.c2p a0 (0 : Int)) (((tourref2_Poly.c2_ok k a0 k (0 : Int)).ap (e40.trans (congrArg some e44))).triple) (retP trivial (.one (.dp T2)) ((0 : Int) : Int)))) (by kernel_rfl)⟩)))))
theorem tourref2_Poly.ok (k : Nat) : FnOk PR 50 (tourref2_Poly.sp k) :=
  fn_ok (tourref2_Poly.cok k) hmix Try.func50 (code := tourref2_Poly.code) (by kernel_rfl) (by kernel_rfl) (by kernel_rfl) rfl rfl (by kernel_rfl) (by kernel_rfl) (by kernel_rfl) (fun x => Nat.le_of_ble_eq_true (by kernel_rfl)) fun x y hy => (tourref2_Poly.way k x.1).ap hy

/-! tourney/tourlaw2.square -/
noncomputable def tourlaw2_square.code : Code := Func.cd Try.f69
def tourlaw2_square (k : Nat) (a0 : Int) (a1 : Int) (a2 : Int) : Option (List V22) :=
  some [((imul .i64 a0 65536), (imul .i64 a1 65536), ()), ((iadd .i64 (imul .i64 a0 65536) (imul .i64 a2 65536)), (imul .i64 a1 65536), ()), ((iadd .i64 (imul .i64 a0 65536) (imul .i64 a2 65536)), (iadd .i64 (imul .i64 a1 65536) (imul .i64 a2 65536)), ()), ((imul .i64 a0 65536), (iadd .i64 (imul .i64 a1 65536) (imul .i64 a2 65536)), ())]
noncomputable def tourlaw2_square.sp (k : Nat) : Go.Sx.Spec := ⟨(.pair T2 T22), (.one (.ow T22 23)), fun x => tourlaw2_square k x.1 x.2.1 x.2.2.1, false⟩
noncomputable def tourlaw2_square.cx (k : Nat) : Go.Sx.Ctx := ⟨tys, [], eqs, 34, 0, [], false⟩
theorem tourlaw2_square.cok (k : Nat) : CtxOk PR (tourlaw2_square.cx k) := ctx_ok tysOk eqsOk FnsOk.nil HsOk.nil
theorem tourlaw2_square.way (k : Nat) (a0 : Int) (a1 : Int) (a2 : Int) : Owp (tourlaw2_square k a0 a1 a2) fun y => ∃ answers cmds, exec PR (tourlaw2_square.cx k) tourlaw2_square.code 0 (entry (.pair T2 T22) (a0, a1, a2, ())).st answers (Ret (tourlaw2_square.cx k) Try.f69 cmds (.one (.ow T22 23)) y) := by
  unfold tourlaw2_square; exact
   Owp.some (⟨[.dec true], [], via (retP trivial (.one (.ow T22 23)) ([((imul .i64 a0 (65536 : Int)), (imul .i64 a1 (65536 : Int)), ()), ((iadd .i64 (imul .i64 a0 (65536 : Int)) (imul .i64 a2 (65536 : Int))), (imul .i64 a1 (65536 : Int)), ()), ((iadd .i64 (imul .i64 a0 (65536 : Int)) (imul .i64 a2 (65536 : Int))), (iadd .i64 (imul .i64 a1 (65536 : Int)) (imul .i64 a2 (65536 : Int))), ()), ((imul .i64 a0 (65536 : Int)), (iadd .i64 (imul .i64 a1 (65536 : Int)) (imul .i64 a2 (65536 : Int))), ())] : (List V22))) (by kernel_rfl)⟩)
theorem tourlaw2_square.ok (k : Nat) : FnOk PR 69 (tourlaw2_square.sp k) :=
  fn_ok (tourlaw2_square.cok k) hmix Try.func69 (code := tourlaw2_square.code) (by kernel_rfl) (by kernel_rfl) (by kernel_rfl) rfl rfl (by kernel_rfl) (by kernel_rfl) (by kernel_rfl) (fun x => Nat.le_of_ble_eq_true (by kernel_rfl)) fun x y hy => (tourlaw2_square.way k x.1 x.2.1 x.2.2.1).ap hy

end Go.Proofs.T1
