import Derived.Test.YtolkdkhdkfndfaaG0
import Derived.Test.YtolkdkhdkfndfaaG1
namespace Go.Proofs.T1
open Go Go.Sx Go.Proofs
set_option maxRecDepth 100000
set_option linter.unusedVariables false
/-! (tourney/tourref2.Big).Below -/
noncomputable def tourref2_Big_Below.code : Code := Func.cd Try.f182
noncomputable def tourref2_Big_Below (k : Nat) (a0 : (List Int)) : Option Bool :=
  some (ieq (ishr .u32 (el 0 a0 7) 15) 1)
noncomputable def tourref2_Big_Below.sp (k : Nat) : Go.Sx.Spec := ⟨(.pair T141 .unit), (.one (.dp T4)), fun x => tourref2_Big_Below k x.1, false⟩
noncomputable def tourref2_Big_Below.cx (k : Nat) : Go.Sx.Ctx := ⟨tys, [], eqs, 7, 0, [], false⟩
theorem tourref2_Big_Below.cok (k : Nat) : CtxOk PR (tourref2_Big_Below.cx k) := ctx_ok tysOk eqsOk FnsOk.nil HsOk.nil
theorem tourref2_Big_Below.way (k : Nat) (a0 : (List Int)) : Owp (tourref2_Big_Below k a0) fun y => ∃ answers cmds, exec PR (tourref2_Big_Below.cx k) tourref2_Big_Below.code 0 (entry (.pair T141 .unit) (a0, ())).st answers (Ret (tourref2_Big_Below.cx k) Try.f182 cmds (.one (.dp T4)) y) := by
  unfold tourref2_Big_Below; exact
   Owp.some (⟨[], [], via (retP (And.intro (And.intro (And.intro trivial (by decide : inR (7 : Int) 8)) (by decide : inR (7 : Int) 8)) (by decide : ng (15 : Int))) (.one (.dp T4)) ((ieq (ishr .u32 (el (0 : Int) a0 (7 : Int)) (15 : Int)) (1 : Int)) : Bool)) (by kernel_rfl)⟩)
theorem tourref2_Big_Below.ok (k : Nat) : FnOk PR 182 (tourref2_Big_Below.sp k) :=
  fn_ok (tourref2_Big_Below.cok k) hmix Try.func182 (code := tourref2_Big_Below.code) (by kernel_rfl) (by kernel_rfl) (by kernel_rfl) rfl rfl (by kernel_rfl) (by kernel_rfl) (by kernel_rfl) (fun x => Nat.le_of_ble_eq_true (by kernel_rfl)) fun x y hy => (tourref2_Big_Below.way k x.1).ap hy

/-! (tourney/tourref2.Big).Cmp -/
noncomputable def tourref2_Big_Cmp.code : Code := Func.cd Try.f136
noncomputable def tourref2_Big_Cmp.c1 (k : Nat) (a0 : (List Int)) (a1 : (List Int)) : Nat → Int → Option (Int ⊕ Unit)
  | 0, _ => none
  | n + 1, v6 =>
   bif' (ige v6 0)
   (req (inR v6 8) <|
    bif' (ine (el 0 a0 v6) (el 0 a1 v6))
    (bif' (ilt (el 0 a0 v6) (el 0 a1 v6))
     (some (.inl (-1)))
     (some (.inl 1)))
    (tourref2_Big_Cmp.c1 k a0 a1 n (isub .i64 v6 1)))
   (some (.inr ()))
noncomputable def tourref2_Big_Cmp (k : Nat) (a0 : (List Int)) (a1 : (List Int)) : Option Int :=
  bnd (tourref2_Big_Below k a0) fun y1 =>
  bnd (tourref2_Big_Below k a1) fun y3 =>
  bif' (Ty.eqb T4 y1 y3)
  (bnd (tourref2_Big_Cmp.c1 k a0 a1 k 7) fun o11 =>
   two o11 (fun y13 =>
   some y13) (fun y15 =>
   some 0))
  (bnd (tourref2_Big_Below k a0) fun y17 =>
   bif' y17
   (some (-1))
   (some 1))
noncomputable def tourref2_Big_Cmp.sp (k : Nat) : Go.Sx.Spec := ⟨(.pair T141 (.pair T141 .unit)), (.one (.dp T2)), fun x => tourref2_Big_Cmp k x.1 x.2.1, false⟩
noncomputable def tourref2_Big_Cmp.cx (k : Nat) : Go.Sx.Ctx := ⟨tys, [(182, tourref2_Big_Below.sp k)], eqs, 31, 0, [], false⟩
theorem tourref2_Big_Cmp.cok (k : Nat) : CtxOk PR (tourref2_Big_Cmp.cx k) := ctx_ok tysOk eqsOk (FnsOk.cons (tourref2_Big_Below.ok k) FnsOk.nil) HsOk.nil
noncomputable def tourref2_Big_Cmp.c1p (a0 : (List Int)) (a1 : (List Int)) (v6 : Int) : SL := ⟨[(2, (.val .ptr ⟨0, 0, (0 : Int), 0, 0⟩)), (3, (.val .ptr ⟨1, 0, (0 : Int), 0, 0⟩)), (5, (.val T2 v6))], [(0, .cells T141 a0), (1, .cells T141 a1)]⟩
noncomputable def tourref2_Big_Cmp.c1q (o : Int ⊕ Unit) : SL := (fun o => two o (fun v => ⟨[(4, (.val T2 v))], []⟩) (fun v => ⟨[], []⟩)) o
noncomputable def tourref2_Big_Cmp.c1x (o : Int ⊕ Unit) : Ex := (fun o => two o (fun _ => .ret) (fun _ => (.exit 0))) o
noncomputable def tourref2_Big_Cmp.c1n (o : Int ⊕ Unit) : Nat := (fun o => two o (fun _ => 0) (fun _ => 0)) o
theorem tourref2_Big_Cmp.c1_ok (k : Nat) (a0 : (List Int)) (a1 : (List Int)) : ∀ (n : Nat) (v6 : Int), Owp (tourref2_Big_Cmp.c1 k a0 a1 n v6) fun o => LTriple PR (tourref2_Big_Cmp.cx k) (sub tourref2_Big_Cmp.code [1, 1, 0, 1, 0, 0]) 2 (tourref2_Big_Cmp.c1p a0 a1 v6) (tourref2_Big_Cmp.c1x o) (tourref2_Big_Cmp.c1n o) (tourref2_Big_Cmp.c1q o)
  | 0, _ => fun _ h => nomatch h
  | n + 1, v6 => Owp.of (tourref2_Big_Cmp.c1.eq_2 ..) (
   Owp.bif (fun e7 =>
   Owp.req fun h8 =>
    Owp.bif (fun e9 =>
    Owp.bif (fun e10 =>
     Owp.some (loop_exit (tourref2_Big_Cmp.cok k) hmix [.dec true, .dec true, .dec true] [] [] exne_ret (via (finP (And.intro (And.intro (And.intro (And.intro (And.intro (And.intro (And.intro (And.intro (And.intro (And.intro (And.intro trivial e7) h8) h8) h8) h8) e9) h8) h8) h8) h8) e10) .ret [] (tourref2_Big_Cmp.c1q (.inl (-1 : Int)))) (by kernel_rfl)))) (fun e10 =>
     Owp.some (loop_exit (tourref2_Big_Cmp.cok k) hmix [.dec true, .dec true, .dec false] [] [] exne_ret (via (finP (And.intro (And.intro (And.intro (And.intro (And.intro (And.intro (And.intro (And.intro (And.intro (And.intro (And.intro trivial e7) h8) h8) h8) h8) e9) h8) h8) h8) h8) e10) .ret [] (tourref2_Big_Cmp.c1q (.inl (1 : Int)))) (by kernel_rfl))))) (fun e9 =>
    fun y hy => loop_back (tourref2_Big_Cmp.cok k) hmix 2 (tourref2_Big_Cmp.c1p a0 a1 (isub .i64 v6 (1 : Int))) [.dec true, .dec false] [] [(0, 0), (1, 1)] (via (finP (And.intro (And.intro (And.intro (And.intro (And.intro (And.intro trivial e7) h8) h8) h8) h8) e9) .normal [(0, 0), (1, 1)] (tourref2_Big_Cmp.c1p a0 a1 (isub .i64 v6 (1 : Int)))) (by kernel_rfl)) ((tourref2_Big_Cmp.c1_ok k a0 a1 n (isub .i64 v6 (1 : Int))).ap hy))) (fun e7 =>
   Owp.some (loop_exit (tourref2_Big_Cmp.cok k) hmix [.dec false] [] [] (exne 0) (via (finP (And.intro trivial e7) (.exit 0) [] (tourref2_Big_Cmp.c1q (.inr ()))) (by kernel_rfl)))))
theorem tourref2_Big_Cmp.way (k : Nat) (a0 : (List Int)) (a1 : (List Int)) : Owp (tourref2_Big_Cmp k a0 a1) fun y => ∃ answers cmds, exec PR (tourref2_Big_Cmp.cx k) tourref2_Big_Cmp.code 0 (entry (.pair T141 (.pair T141 .unit)) (a0, a1, ())).st answers (Ret (tourref2_Big_Cmp.cx k) Try.f136 cmds (.one (.dp T2)) y) := by
  unfold tourref2_Big_Cmp; exact
   Owp.bnd fun y1 e2 =>
   Owp.bnd fun y3 e4 =>
   Owp.bif (fun e5 =>
   Owp.bnd fun o11 e12 =>
    Owp.two (fun y13 e14 =>
    Owp.some (⟨[.res (.one (.dp T4)) y1, .res (.one (.dp T4)) y3, .dec false, .cut ⟨[], [(0, 0), (1, 1)], (tourref2_Big_Cmp.c1p a0 a1 (7 : Int)), 2, .ret, (tourref2_Big_Cmp.c1q (.inl y13)), 0⟩], [], via (cutP (And.intro (And.intro (And.intro trivial e2) e4) (congrArg not e5)) [(0, 0), (1, 1)] (tourref2_Big_Cmp.c1p a0 a1 (7 : Int)) (((tourref2_Big_Cmp.c1_ok k a0 a1 k (7 : Int)).ap (e12.trans (congrArg some e14))).triple) (retP trivial (.one (.dp T2)) (y13 : Int))) (by kernel_rfl)⟩)) (fun y15 e16 =>
    Owp.some (⟨[.res (.one (.dp T4)) y1, .res (.one (.dp T4)) y3, .dec false, .cut ⟨[], [(0, 0), (1, 1)], (tourref2_Big_Cmp.c1p a0 a1 (7 : Int)), 2, (.exit 0), (tourref2_Big_Cmp.c1q (.inr ())), 0⟩], [], via (cutP (And.intro (And.intro (And.intro trivial e2) e4) (congrArg not e5)) [(0, 0), (1, 1)] (tourref2_Big_Cmp.c1p a0 a1 (7 : Int)) (((tourref2_Big_Cmp.c1_ok k a0 a1 k (7 : Int)).ap (e12.trans (congrArg some e16))).triple) (retP trivial (.one (.dp T2)) ((0 : Int) : Int))) (by kernel_rfl)⟩))) (fun e5 =>
   Owp.bnd fun y17 e18 =>
    Owp.bif (fun e19 =>
    Owp.some (⟨[.res (.one (.dp T4)) y1, .res (.one (.dp T4)) y3, .dec true, .res (.one (.dp T4)) y17, .dec true], [], via (retP (And.intro (And.intro (And.intro (And.intro (And.intro trivial e2) e4) (congrArg not e5)) e18) e19) (.one (.dp T2)) ((-1 : Int) : Int)) (by kernel_rfl)⟩)) (fun e19 =>
    Owp.some (⟨[.res (.one (.dp T4)) y1, .res (.one (.dp T4)) y3, .dec true, .res (.one (.dp T4)) y17, .dec false], [], via (retP (And.intro (And.intro (And.intro (And.intro (And.intro trivial e2) e4) (congrArg not e5)) e18) e19) (.one (.dp T2)) ((1 : Int) : Int)) (by kernel_rfl)⟩)))
theorem tourref2_Big_Cmp.ok (k : Nat) : FnOk PR 136 (tourref2_Big_Cmp.sp k) :=
  fn_ok (tourref2_Big_Cmp.cok k) hmix Try.func136 (code := tourref2_Big_Cmp.code) (by kernel_rfl) (by kernel_rfl) (by kernel_rfl) rfl rfl (by kernel_rfl) (by kernel_rfl) (by kernel_rfl) (fun x => Nat.le_of_ble_eq_true (by kernel_rfl)) fun x y hy => (tourref2_Big_Cmp.way k x.1 x.2.1).ap hy

/-! (tourney/tourref2.Big).Mul -/
noncomputable def tourref2_Big_Mul.code : Code := Func.cd Try.f180
noncomputable def tourref2_Big_Mul.c2 (k : Nat) (a0 : (List Int)) (a1 : (List Int)) (v1 : Int) : Nat → Int → Int → (List Int) → Option ((List Int))
  | 0, _, _, _ => none
  | n + 1, v4, v5, v6 =>
   bif' (ilt (iadd .i64 v1 v5) 8)
   (req (inR v1 8) <|
    req (inR v5 8) <|
    req (inR (iadd .i64 v1 v5) 8) <|
    tourref2_Big_Mul.c2 k a0 a1 v1 n (ishr .u64 (iadd .u64 v4 (iadd .u64 (imul .u64 (icv .u64 (el 0 a0 v1)) (icv .u64 (el 0 a1 v5))) (icv .u64 (el 0 v6 (iadd .i64 v1 v5))))) 16) (iadd .i64 v5 1) (st v6 (iadd .i64 v1 v5) (icv .u32 (ibits .and .u64 (iadd .u64 v4 (iadd .u64 (imul .u64 (icv .u64 (el 0 a0 v1)) (icv .u64 (el 0 a1 v5))) (icv .u64 (el 0 v6 (iadd .i64 v1 v5))))) 65535))))
   (some v6)
noncomputable def tourref2_Big_Mul.c1 (k : Nat) (a0 : (List Int)) (a1 : (List Int)) : Nat → Int → (List Int) → Option ((List Int))
  | 0, _, _ => none
  | n + 1, v1, v2 =>
   bif' (ilt v1 8)
   (bnd (tourref2_Big_Mul.c2 k a0 a1 v1 k 0 0 v2) fun o11 =>
    tourref2_Big_Mul.c1 k a0 a1 n (iadd .i64 v1 1) o11)
   (some v2)
noncomputable def tourref2_Big_Mul (k : Nat) (a0 : (List Int)) (a1 : (List Int)) : Option (List Int) :=
  bnd (tourref2_Big_Mul.c1 k a0 a1 k 0 (List.replicate 8 0)) fun o13 =>
  some o13
noncomputable def tourref2_Big_Mul.sp (k : Nat) : Go.Sx.Spec := ⟨(.pair T141 (.pair T141 .unit)), (.one (.dp T141)), fun x => tourref2_Big_Mul k x.1 x.2.1, false⟩
noncomputable def tourref2_Big_Mul.cx (k : Nat) : Go.Sx.Ctx := ⟨tys, [], eqs, 47, 0, [], false⟩
theorem tourref2_Big_Mul.cok (k : Nat) : CtxOk PR (tourref2_Big_Mul.cx k) := ctx_ok tysOk eqsOk FnsOk.nil HsOk.nil
noncomputable def tourref2_Big_Mul.c2p (a0 : (List Int)) (a1 : (List Int)) (v1 : Int) (v4 : Int) (v5 : Int) (v6 : (List Int)) : SL := ⟨[(2, (.val .ptr ⟨0, 0, (0 : Int), 0, 0⟩)), (3, (.val .ptr ⟨1, 0, (0 : Int), 0, 0⟩)), (4, (.val .ptr ⟨2, 0, (0 : Int), 0, 0⟩)), (5, (.val .ptr ⟨3, 0, (0 : Int), 0, 0⟩)), (6, (.val T2 v1)), (7, (.val T12 v4)), (8, (.val T2 v5)), (9, (.val T2 v1))], [(0, .cells T141 a0), (1, .cells T141 a1), (2, .cells T141 (List.replicate 8 (0 : Int))), (3, .cells T141 v6)]⟩
noncomputable def tourref2_Big_Mul.c2q (a0 : (List Int)) (a1 : (List Int)) (v1 : Int) (o : (List Int)) : SL := (fun v => ⟨[(2, (.val .ptr ⟨0, 0, (0 : Int), 0, 0⟩)), (3, (.val .ptr ⟨1, 0, (0 : Int), 0, 0⟩)), (4, (.val .ptr ⟨2, 0, (0 : Int), 0, 0⟩)), (5, (.val .ptr ⟨3, 0, (0 : Int), 0, 0⟩)), (9, (.val T2 v1))], [(0, .cells T141 a0), (1, .cells T141 a1), (2, .cells T141 (List.replicate 8 (0 : Int))), (3, .cells T141 v)]⟩) o
noncomputable def tourref2_Big_Mul.c2x (o : (List Int)) : Ex := (fun _ => (.exit 2)) o
noncomputable def tourref2_Big_Mul.c2n (o : (List Int)) : Nat := (fun _ => 4) o
theorem tourref2_Big_Mul.c2_ok (k : Nat) (a0 : (List Int)) (a1 : (List Int)) (v1 : Int) : ∀ (n : Nat) (v4 : Int) (v5 : Int) (v6 : (List Int)), Owp (tourref2_Big_Mul.c2 k a0 a1 v1 n v4 v5 v6) fun o => LTriple PR (tourref2_Big_Mul.cx k) (sub tourref2_Big_Mul.code [1, 1, 0, 1, 0, 0, 1, 1, 0, 0, 1, 1, 1, 0, 0]) 4 (tourref2_Big_Mul.c2p a0 a1 v1 v4 v5 v6) (tourref2_Big_Mul.c2x o) (tourref2_Big_Mul.c2n o) (tourref2_Big_Mul.c2q a0 a1 v1 o)
  | 0, _, _, _ => fun _ h => nomatch h
  | n + 1, v4, v5, v6 => Owp.of (tourref2_Big_Mul.c2.eq_2 ..) (
   Owp.bif (fun e7 =>
   Owp.req fun h8 =>
    Owp.req fun h9 =>
    Owp.req fun h10 =>
    fun y hy => loop_back (tourref2_Big_Mul.cok k) hmix 4 (tourref2_Big_Mul.c2p a0 a1 v1 (ishr .u64 (iadd .u64 v4 (iadd .u64 (imul .u64 (icv .u64 (el (0 : Int) a0 v1)) (icv .u64 (el (0 : Int) a1 v5))) (icv .u64 (el (0 : Int) v6 (iadd .i64 v1 v5))))) (16 : Int)) (iadd .i64 v5 (1 : Int)) (st v6 (iadd .i64 v1 v5) (icv .u32 (ibits .and .u64 (iadd .u64 v4 (iadd .u64 (imul .u64 (icv .u64 (el (0 : Int) a0 v1)) (icv .u64 (el (0 : Int) a1 v5))) (icv .u64 (el (0 : Int) v6 (iadd .i64 v1 v5))))) (65535 : Int))))) [.dec true] [] [(0, 0), (1, 1), (2, 2), (3, 3)] (via (finP (And.intro (And.intro (And.intro (And.intro (And.intro (And.intro (And.intro (And.intro (And.intro (And.intro trivial e7) h8) h8) h9) h9) h10) h10) (by decide : ng (16 : Int))) h10) h10) .normal [(0, 0), (1, 1), (2, 2), (3, 3)] (tourref2_Big_Mul.c2p a0 a1 v1 (ishr .u64 (iadd .u64 v4 (iadd .u64 (imul .u64 (icv .u64 (el (0 : Int) a0 v1)) (icv .u64 (el (0 : Int) a1 v5))) (icv .u64 (el (0 : Int) v6 (iadd .i64 v1 v5))))) (16 : Int)) (iadd .i64 v5 (1 : Int)) (st v6 (iadd .i64 v1 v5) (icv .u32 (ibits .and .u64 (iadd .u64 v4 (iadd .u64 (imul .u64 (icv .u64 (el (0 : Int) a0 v1)) (icv .u64 (el (0 : Int) a1 v5))) (icv .u64 (el (0 : Int) v6 (iadd .i64 v1 v5))))) (65535 : Int)))))) (by kernel_rfl)) ((tourref2_Big_Mul.c2_ok k a0 a1 v1 n (ishr .u64 (iadd .u64 v4 (iadd .u64 (imul .u64 (icv .u64 (el (0 : Int) a0 v1)) (icv .u64 (el (0 : Int) a1 v5))) (icv .u64 (el (0 : Int) v6 (iadd .i64 v1 v5))))) (16 : Int)) (iadd .i64 v5 (1 : Int)) (st v6 (iadd .i64 v1 v5) (icv .u32 (ibits .and .u64 (iadd .u64 v4 (iadd .u64 (imul .u64 (icv .u64 (el (0 : Int) a0 v1)) (icv .u64 (el (0 : Int) a1 v5))) (icv .u64 (el (0 : Int) v6 (iadd .i64 v1 v5))))) (65535 : Int))))).ap hy)) (fun e7 =>
   Owp.some (loop_exit (tourref2_Big_Mul.cok k) hmix [.dec false] [] [(0, 0), (1, 1), (2, 2), (3, 3)] (exne 2) (via (finP (And.intro trivial e7) (.exit 2) [(0, 0), (1, 1), (2, 2), (3, 3)] (tourref2_Big_Mul.c2q a0 a1 v1 v6)) (by kernel_rfl)))))
noncomputable def tourref2_Big_Mul.c1p (a0 : (List Int)) (a1 : (List Int)) (v1 : Int) (v2 : (List Int)) : SL := ⟨[(2, (.val .ptr ⟨0, 0, (0 : Int), 0, 0⟩)), (3, (.val .ptr ⟨1, 0, (0 : Int), 0, 0⟩)), (4, (.val .ptr ⟨2, 0, (0 : Int), 0, 0⟩)), (5, (.val .ptr ⟨3, 0, (0 : Int), 0, 0⟩)), (9, (.val T2 v1))], [(0, .cells T141 a0), (1, .cells T141 a1), (2, .cells T141 (List.replicate 8 (0 : Int))), (3, .cells T141 v2)]⟩
noncomputable def tourref2_Big_Mul.c1q (o : (List Int)) : SL := (fun v => ⟨[(4, (.val .ptr ⟨0, 0, (0 : Int), 0, 0⟩)), (5, (.val .ptr ⟨1, 0, (0 : Int), 0, 0⟩))], [(0, .cells T141 (List.replicate 8 (0 : Int))), (1, .cells T141 v)]⟩) o
noncomputable def tourref2_Big_Mul.c1x (o : (List Int)) : Ex := (fun _ => (.exit 0)) o
noncomputable def tourref2_Big_Mul.c1n (o : (List Int)) : Nat := (fun _ => 2) o
theorem tourref2_Big_Mul.c1_ok (k : Nat) (a0 : (List Int)) (a1 : (List Int)) : ∀ (n : Nat) (v1 : Int) (v2 : (List Int)), Owp (tourref2_Big_Mul.c1 k a0 a1 n v1 v2) fun o => LTriple PR (tourref2_Big_Mul.cx k) (sub tourref2_Big_Mul.code [1, 1, 0, 1, 0, 0]) 4 (tourref2_Big_Mul.c1p a0 a1 v1 v2) (tourref2_Big_Mul.c1x o) (tourref2_Big_Mul.c1n o) (tourref2_Big_Mul.c1q o)
  | 0, _, _ => fun _ h => nomatch h
  | n + 1, v1, v2 => Owp.of (tourref2_Big_Mul.c1.eq_2 ..) (
   Owp.bif (fun e3 =>
   Owp.bnd fun o11 e12 =>
    fun y hy => loop_back (tourref2_Big_Mul.cok k) hmix 4 (tourref2_Big_Mul.c1p a0 a1 (iadd .i64 v1 (1 : Int)) o11) [.dec true, .cut ⟨[], [(0, 0), (1, 1), (2, 2), (3, 3)], (tourref2_Big_Mul.c2p a0 a1 v1 (0 : Int) (0 : Int) v2), 4, (.exit 2), (tourref2_Big_Mul.c2q a0 a1 v1 o11), 4⟩] [] [(0, 0), (1, 1), (2, 2), (3, 3)] (via (cutP (And.intro trivial e3) [(0, 0), (1, 1), (2, 2), (3, 3)] (tourref2_Big_Mul.c2p a0 a1 v1 (0 : Int) (0 : Int) v2) (((tourref2_Big_Mul.c2_ok k a0 a1 v1 k (0 : Int) (0 : Int) v2).ap e12).triple) (finP trivial .normal [(0, 0), (1, 1), (2, 2), (3, 3)] (tourref2_Big_Mul.c1p a0 a1 (iadd .i64 v1 (1 : Int)) o11))) (by kernel_rfl)) ((tourref2_Big_Mul.c1_ok k a0 a1 n (iadd .i64 v1 (1 : Int)) o11).ap hy)) (fun e3 =>
   Owp.some (loop_exit (tourref2_Big_Mul.cok k) hmix [.dec false] [] [(0, 2), (1, 3)] (exne 0) (via (finP (And.intro trivial e3) (.exit 0) [(0, 2), (1, 3)] (tourref2_Big_Mul.c1q v2)) (by kernel_rfl)))))
theorem tourref2_Big_Mul.way (k : Nat) (a0 : (List Int)) (a1 : (List Int)) : Owp (tourref2_Big_Mul k a0 a1) fun y => ∃ answers cmds, exec PR (tourref2_Big_Mul.cx k) tourref2_Big_Mul.code 0 (entry (.pair T141 (.pair T141 .unit)) (a0, a1, ())).st answers (Ret (tourref2_Big_Mul.cx k) Try.f180 cmds (.one (.dp T141)) y) := by
  unfold tourref2_Big_Mul; exact
   Owp.bnd fun o13 e14 =>
   Owp.some (⟨[.cut ⟨[], [(0, 0), (1, 1), (2, 2), (3, 3)], (tourref2_Big_Mul.c1p a0 a1 (0 : Int) (List.replicate 8 (0 : Int))), 4, (.exit 0), (tourref2_Big_Mul.c1q o13), 2⟩], [], via (cutP trivial [(0, 0), (1, 1), (2, 2), (3, 3)] (tourref2_Big_Mul.c1p a0 a1 (0 : Int) (List.replicate 8 (0 : Int))) (((tourref2_Big_Mul.c1_ok k a0 a1 k (0 : Int) (List.replicate 8 (0 : Int))).ap e14).triple) (retP trivial (.one (.dp T141)) (o13 : (List Int)))) (by kernel_rfl)⟩)
theorem tourref2_Big_Mul.ok (k : Nat) : FnOk PR 180 (tourref2_Big_Mul.sp k) :=
  fn_ok (tourref2_Big_Mul.cok k) hmix Try.func180 (code := tourref2_Big_Mul.code) (by kernel_rfl) (by kernel_rfl) (by kernel_rfl) rfl rfl (by kernel_rfl) (by kernel_rfl) (by kernel_rfl) (fun x => Nat.le_of_ble_eq_true (by kernel_rfl)) fun x y hy => (tourref2_Big_Mul.way k x.1 x.2.1).ap hy

/-! (tourney/tourref2.Big).Add -/
noncomputable def tourref2_Big_Add.code : Code := Func.cd Try.f181
noncomputable def tourref2_Big_Add.c1 (k : Nat) (a0 : (List Int)) (a1 : (List Int)) : Nat → Int → Int → (List Int) → Option ((List Int))
  | 0, _, _, _ => none
  | n + 1, v1, v2, v3 =>
   bif' (ilt v2 8)
   (req (inR v2 8) <|
    tourref2_Big_Add.c1 k a0 a1 n (ishr .u32 (iadd .u32 v1 (iadd .u32 (el 0 a0 v2) (el 0 a1 v2))) 16) (iadd .i64 v2 1) (st v3 v2 (ibits .and .u32 (iadd .u32 v1 (iadd .u32 (el 0 a0 v2) (el 0 a1 v2))) 65535)))
   (some v3)
noncomputable def tourref2_Big_Add (k : Nat) (a0 : (List Int)) (a1 : (List Int)) : Option (List Int) :=
  bnd (tourref2_Big_Add.c1 k a0 a1 k 0 0 (List.replicate 8 0)) fun o6 =>
  some o6
noncomputable def tourref2_Big_Add.sp (k : Nat) : Go.Sx.Spec := ⟨(.pair T141 (.pair T141 .unit)), (.one (.dp T141)), fun x => tourref2_Big_Add k x.1 x.2.1, false⟩
noncomputable def tourref2_Big_Add.cx (k : Nat) : Go.Sx.Ctx := ⟨tys, [], eqs, 28, 0, [], false⟩
theorem tourref2_Big_Add.cok (k : Nat) : CtxOk PR (tourref2_Big_Add.cx k) := ctx_ok tysOk eqsOk FnsOk.nil HsOk.nil
noncomputable def tourref2_Big_Add.c1p (a0 : (List Int)) (a1 : (List Int)) (v1 : Int) (v2 : Int) (v3 : (List Int)) : SL := ⟨[(2, (.val .ptr ⟨0, 0, (0 : Int), 0, 0⟩)), (3, (.val .ptr ⟨1, 0, (0 : Int), 0, 0⟩)), (4, (.val .ptr ⟨2, 0, (0 : Int), 0, 0⟩)), (5, (.val .ptr ⟨3, 0, (0 : Int), 0, 0⟩)), (6, (.val T140 v1)), (8, (.val T2 v2))], [(0, .cells T141 a0), (1, .cells T141 a1), (2, .cells T141 (List.replicate 8 (0 : Int))), (3, .cells T141 v3)]⟩
noncomputable def tourref2_Big_Add.c1q (o : (List Int)) : SL := (fun v => ⟨[(4, (.val .ptr ⟨0, 0, (0 : Int), 0, 0⟩)), (5, (.val .ptr ⟨1, 0, (0 : Int), 0, 0⟩))], [(0, .cells T141 (List.replicate 8 (0 : Int))), (1, .cells T141 v)]⟩) o
noncomputable def tourref2_Big_Add.c1x (o : (List Int)) : Ex := (fun _ => (.exit 0)) o
noncomputable def tourref2_Big_Add.c1n (o : (List Int)) : Nat := (fun _ => 2) o
theorem tourref2_Big_Add.c1_ok (k : Nat) (a0 : (List Int)) (a1 : (List Int)) : ∀ (n : Nat) (v1 : Int) (v2 : Int) (v3 : (List Int)), Owp (tourref2_Big_Add.c1 k a0 a1 n v1 v2 v3) fun o => LTriple PR (tourref2_Big_Add.cx k) (sub tourref2_Big_Add.code [1, 1, 1, 0, 1, 0, 0]) 4 (tourref2_Big_Add.c1p a0 a1 v1 v2 v3) (tourref2_Big_Add.c1x o) (tourref2_Big_Add.c1n o) (tourref2_Big_Add.c1q o)
  | 0, _, _, _ => fun _ h => nomatch h
  | n + 1, v1, v2, v3 => Owp.of (tourref2_Big_Add.c1.eq_2 ..) (
   Owp.bif (fun e4 =>
   Owp.req fun h5 =>
    fun y hy => loop_back (tourref2_Big_Add.cok k) hmix 4 (tourref2_Big_Add.c1p a0 a1 (ishr .u32 (iadd .u32 v1 (iadd .u32 (el (0 : Int) a0 v2) (el (0 : Int) a1 v2))) (16 : Int)) (iadd .i64 v2 (1 : Int)) (st v3 v2 (ibits .and .u32 (iadd .u32 v1 (iadd .u32 (el (0 : Int) a0 v2) (el (0 : Int) a1 v2))) (65535 : Int)))) [.dec true] [] [(0, 0), (1, 1), (2, 2), (3, 3)] (via (finP (And.intro (And.intro (And.intro (And.intro (And.intro (And.intro (And.intro (And.intro trivial e4) h5) h5) h5) h5) (by decide : ng (16 : Int))) h5) h5) .normal [(0, 0), (1, 1), (2, 2), (3, 3)] (tourref2_Big_Add.c1p a0 a1 (ishr .u32 (iadd .u32 v1 (iadd .u32 (el (0 : Int) a0 v2) (el (0 : Int) a1 v2))) (16 : Int)) (iadd .i64 v2 (1 : Int)) (st v3 v2 (ibits .and .u32 (iadd .u32 v1 (iadd .u32 (el (0 : Int) a0 v2) (el (0 : Int) a1 v2))) (65535 : Int))))) (by kernel_rfl)) ((tourref2_Big_Add.c1_ok k a0 a1 n (ishr .u32 (iadd .u32 v1 (iadd .u32 (el (0 : Int) a0 v2) (el (0 : Int) a1 v2))) (16 : Int)) (iadd .i64 v2 (1 : Int)) (st v3 v2 (ibits .and .u32 (iadd .u32 v1 (iadd .u32 (el (0 : Int) a0 v2) (el (0 : Int) a1 v2))) (65535 : Int)))).ap hy)) (fun e4 =>
   Owp.some (loop_exit (tourref2_Big_Add.cok k) hmix [.dec false] [] [(0, 2), (1, 3)] (exne 0) (via (finP (And.intro trivial e4) (.exit 0) [(0, 2), (1, 3)] (tourref2_Big_Add.c1q v3)) (by kernel_rfl)))))
theorem tourref2_Big_Add.way (k : Nat) (a0 : (List Int)) (a1 : (List Int)) : Owp (tourref2_Big_Add k a0 a1) fun y => ∃ answers cmds, exec PR (tourref2_Big_Add.cx k) tourref2_Big_Add.code 0 (entry (.pair T141 (.pair T141 .unit)) (a0, a1, ())).st answers (Ret (tourref2_Big_Add.cx k) Try.f181 cmds (.one (.dp T141)) y) := by
  unfold tourref2_Big_Add; exact
   Owp.bnd fun o6 e7 =>
   Owp.some (⟨[.cut ⟨[], [(0, 0), (1, 1), (2, 2), (3, 3)], (tourref2_Big_Add.c1p a0 a1 (0 : Int) (0 : Int) (List.replicate 8 (0 : Int))), 4, (.exit 0), (tourref2_Big_Add.c1q o6), 2⟩], [], via (cutP trivial [(0, 0), (1, 1), (2, 2), (3, 3)] (tourref2_Big_Add.c1p a0 a1 (0 : Int) (0 : Int) (List.replicate 8 (0 : Int))) (((tourref2_Big_Add.c1_ok k a0 a1 k (0 : Int) (0 : Int) (List.replicate 8 (0 : Int))).ap e7).triple) (retP trivial (.one (.dp T141)) (o6 : (List Int)))) (by kernel_rfl)⟩)
theorem tourref2_Big_Add.ok (k : Nat) : FnOk PR 181 (tourref2_Big_Add.sp k) :=
  fn_ok (tourref2_Big_Add.cok k) hmix Try.func181 (code := tourref2_Big_Add.code) (by kernel_rfl) (by kernel_rfl) (by kernel_rfl) rfl rfl (by kernel_rfl) (by kernel_rfl) (by kernel_rfl) (fun x => Nat.le_of_ble_eq_true (by kernel_rfl)) fun x y hy => (tourref2_Big_Add.way k x.1 x.2.1).ap hy

/-! tourney/tourref2.Of -/
noncomputable def tourref2_Of.code : Code := Func.cd Try.f179
noncomputable def tourref2_Of.c1 (k : Nat) (a0 : Int) : Nat → Int → (List Int) → Option ((List Int))
  | 0, _, _ => none
  | n + 1, v1, v2 =>
   bif' (ilt v1 8)
   (bif' (ilt v1 4)
    (req (ng (imul .i64 16 v1)) <|
     req (inR v1 8) <|
     tourref2_Of.c1 k a0 n (iadd .i64 v1 1) (st v2 v1 (icv .u32 (ibits .and .u64 (ishr .u64 (icv .u64 a0) (imul .i64 16 v1)) 65535))))
    (bif' (ilt a0 0)
     (req (inR v1 8) <|
      tourref2_Of.c1 k a0 n (iadd .i64 v1 1) (st v2 v1 65535))
     (tourref2_Of.c1 k a0 n (iadd .i64 v1 1) v2)))
   (some v2)
noncomputable def tourref2_Of (k : Nat) (a0 : Int) : Option (List Int) :=
  bnd (tourref2_Of.c1 k a0 k 0 (List.replicate 8 0)) fun o9 =>
  some o9
noncomputable def tourref2_Of.sp (k : Nat) : Go.Sx.Spec := ⟨(.pair T2 .unit), (.one (.dp T141)), fun x => tourref2_Of k x.1, false⟩
noncomputable def tourref2_Of.cx (k : Nat) : Go.Sx.Ctx := ⟨tys, [], eqs, 27, 0, [], false⟩
theorem tourref2_Of.cok (k : Nat) : CtxOk PR (tourref2_Of.cx k) := ctx_ok tysOk eqsOk FnsOk.nil HsOk.nil
noncomputable def tourref2_Of.c1p (a0 : Int) (v1 : Int) (v2 : (List Int)) : SL := ⟨[(0, (.val T2 a0)), (2, (.val .ptr ⟨0, 0, (0 : Int), 0, 0⟩)), (3, (.val .ptr ⟨1, 0, (0 : Int), 0, 0⟩)), (4, (.val T12 (icv .u64 a0))), (8, (.val T2 v1))], [(0, .cells T141 (List.replicate 8 (0 : Int))), (1, .cells T141 v2)]⟩
noncomputable def tourref2_Of.c1q (o : (List Int)) : SL := (fun v => ⟨[(2, (.val .ptr ⟨0, 0, (0 : Int), 0, 0⟩)), (3, (.val .ptr ⟨1, 0, (0 : Int), 0, 0⟩))], [(0, .cells T141 (List.replicate 8 (0 : Int))), (1, .cells T141 v)]⟩) o
noncomputable def tourref2_Of.c1x (o : (List Int)) : Ex := (fun _ => (.exit 0)) o
noncomputable def tourref2_Of.c1n (o : (List Int)) : Nat := (fun _ => 2) o
theorem tourref2_Of.c1_ok (k : Nat) (a0 : Int) : ∀ (n : Nat) (v1 : Int) (v2 : (List Int)), Owp (tourref2_Of.c1 k a0 n v1 v2) fun o => LTriple PR (tourref2_Of.cx k) (sub tourref2_Of.code [1, 1, 1, 0, 1, 0, 0]) 2 (tourref2_Of.c1p a0 v1 v2) (tourref2_Of.c1x o) (tourref2_Of.c1n o) (tourref2_Of.c1q o)
  | 0, _, _ => fun _ h => nomatch h
  | n + 1, v1, v2 => Owp.of (tourref2_Of.c1.eq_2 ..) (
   Owp.bif (fun e3 =>
   Owp.bif (fun e4 =>
    Owp.req fun h5 =>
     Owp.req fun h6 =>
     fun y hy => loop_back (tourref2_Of.cok k) hmix 2 (tourref2_Of.c1p a0 (iadd .i64 v1 (1 : Int)) (st v2 v1 (icv .u32 (ibits .and .u64 (ishr .u64 (icv .u64 a0) (imul .i64 (16 : Int) v1)) (65535 : Int))))) [.dec true, .dec true] [] [(0, 0), (1, 1)] (via (finP (And.intro (And.intro (And.intro (And.intro (And.intro trivial e3) e4) h5) h6) h6) .normal [(0, 0), (1, 1)] (tourref2_Of.c1p a0 (iadd .i64 v1 (1 : Int)) (st v2 v1 (icv .u32 (ibits .and .u64 (ishr .u64 (icv .u64 a0) (imul .i64 (16 : Int) v1)) (65535 : Int)))))) (by kernel_rfl)) ((tourref2_Of.c1_ok k a0 n (iadd .i64 v1 (1 : Int)) (st v2 v1 (icv .u32 (ibits .and .u64 (ishr .u64 (icv .u64 a0) (imul .i64 (16 : Int) v1)) (65535 : Int))))).ap hy)) (fun e4 =>
    Owp.bif (fun e7 =>
     Owp.req fun h8 =>
      fun y hy => loop_back (tourref2_Of.cok k) hmix 2 (tourref2_Of.c1p a0 (iadd .i64 v1 (1 : Int)) (st v2 v1 (65535 : Int))) [.dec true, .dec false, .dec true] [] [(0, 0), (1, 1)] (via (finP (And.intro (And.intro (And.intro (And.intro (And.intro trivial e3) e4) e7) h8) h8) .normal [(0, 0), (1, 1)] (tourref2_Of.c1p a0 (iadd .i64 v1 (1 : Int)) (st v2 v1 (65535 : Int)))) (by kernel_rfl)) ((tourref2_Of.c1_ok k a0 n (iadd .i64 v1 (1 : Int)) (st v2 v1 (65535 : Int))).ap hy)) (fun e7 =>
     fun y hy => loop_back (tourref2_Of.cok k) hmix 2 (tourref2_Of.c1p a0 (iadd .i64 v1 (1 : Int)) v2) [.dec true, .dec false, .dec false] [] [(0, 0), (1, 1)] (via (finP (And.intro (And.intro (And.intro trivial e3) e4) e7) .normal [(0, 0), (1, 1)] (tourref2_Of.c1p a0 (iadd .i64 v1 (1 : Int)) v2)) (by kernel_rfl)) ((tourref2_Of.c1_ok k a0 n (iadd .i64 v1 (1 : Int)) v2).ap hy)))) (fun e3 =>
   Owp.some (loop_exit (tourref2_Of.cok k) hmix [.dec false] [] [(0, 0), (1, 1)] (exne 0) (via (finP (And.intro trivial e3) (.exit 0) [(0, 0), (1, 1)] (tourref2_Of.c1q v2)) (by kernel_rfl)))))
theorem tourref2_Of.way (k : Nat) (a0 : Int) : Owp (tourref2_Of k a0) fun y => ∃ answers cmds, exec PR (tourref2_Of.cx k) tourref2_Of.code 0 (entry (.pair T2 .unit) (a0, ())).st answers (Ret (tourref2_Of.cx k) Try.f179 cmds (.one (.dp T141)) y) := by
  unfold tourref2_Of; exact
   Owp.bnd fun o9 e10 =>
   Owp.some (⟨[.cut ⟨[], [(0, 0), (1, 1)], (tourref2_Of.c1p a0 (0 : Int) (List.replicate 8 (0 : Int))), 2, (.exit 0), (tourref2_Of.c1q o9), 2⟩], [], via (cutP trivial [(0, 0), (1, 1)] (tourref2_Of.c1p a0 (0 : Int) (List.replicate 8 (0 : Int))) (((tourref2_Of.c1_ok k a0 k (0 : Int) (List.replicate 8 (0 : Int))).ap e10).triple) (retP trivial (.one (.dp T141)) (o9 : (List Int)))) (by kernel_rfl)⟩)
theorem tourref2_Of.ok (k : Nat) : FnOk PR 179 (tourref2_Of.sp k) :=
  fn_ok (tourref2_Of.cok k) hmix Try.func179 (code := tourref2_Of.code) (by kernel_rfl) (by kernel_rfl) (by kernel_rfl) rfl rfl (by kernel_rfl) (by kernel_rfl) (by kernel_rfl) (fun x => Nat.le_of_ble_eq_true (by kernel_rfl)) fun x y hy => (tourref2_Of.way k x.1).ap hy

/-! (tourney/tourref2.Big).Neg -/
noncomputable def tourref2_Big_Neg.code : Code := Func.cd Try.f183
noncomputable def tourref2_Big_Neg.c1 (k : Nat) : Nat → Int → (List Int) → Option ((List Int))
  | 0, _, _ => none
  | n + 1, v1, v2 =>
   bif' (ilt v1 8)
   (req (inR v1 8) <|
    tourref2_Big_Neg.c1 k n (iadd .i64 v1 1) (st v2 v1 (ibits .xor .u32 (el 0 v2 v1) 65535)))
   (some v2)
noncomputable def tourref2_Big_Neg (k : Nat) (a0 : (List Int)) : Option (List Int) :=
  bnd (tourref2_Big_Neg.c1 k k 0 a0) fun o5 =>
  bnd (tourref2_Of k 1) fun y7 =>
  bnd (tourref2_Big_Add k o5 y7) fun y9 =>
  some y9
noncomputable def tourref2_Big_Neg.sp (k : Nat) : Go.Sx.Spec := ⟨(.pair T141 .unit), (.one (.dp T141)), fun x => tourref2_Big_Neg k x.1, false⟩
noncomputable def tourref2_Big_Neg.cx (k : Nat) : Go.Sx.Ctx := ⟨tys, [(179, tourref2_Of.sp k), (181, tourref2_Big_Add.sp k)], eqs, 16, 0, [], false⟩
theorem tourref2_Big_Neg.cok (k : Nat) : CtxOk PR (tourref2_Big_Neg.cx k) := ctx_ok tysOk eqsOk (FnsOk.cons (tourref2_Of.ok k) (FnsOk.cons (tourref2_Big_Add.ok k) FnsOk.nil)) HsOk.nil
noncomputable def tourref2_Big_Neg.c1p (v1 : Int) (v2 : (List Int)) : SL := ⟨[(1, (.val .ptr ⟨0, 0, (0 : Int), 0, 0⟩)), (2, (.val .ptr ⟨1, 0, (0 : Int), 0, 0⟩)), (4, (.val T2 v1))], [(0, .cells T141 v2), (1, .cells T141 (List.replicate 8 (0 : Int)))]⟩
noncomputable def tourref2_Big_Neg.c1q (o : (List Int)) : SL := (fun v => ⟨[(1, (.val .ptr ⟨0, 0, (0 : Int), 0, 0⟩)), (2, (.val .ptr ⟨1, 0, (0 : Int), 0, 0⟩))], [(0, .cells T141 v), (1, .cells T141 (List.replicate 8 (0 : Int)))]⟩) o
noncomputable def tourref2_Big_Neg.c1x (o : (List Int)) : Ex := (fun _ => (.exit 0)) o
noncomputable def tourref2_Big_Neg.c1n (o : (List Int)) : Nat := (fun _ => 2) o
theorem tourref2_Big_Neg.c1_ok (k : Nat) : ∀ (n : Nat) (v1 : Int) (v2 : (List Int)), Owp (tourref2_Big_Neg.c1 k n v1 v2) fun o => LTriple PR (tourref2_Big_Neg.cx k) (sub tourref2_Big_Neg.code [1, 0, 1, 0, 0]) 2 (tourref2_Big_Neg.c1p v1 v2) (tourref2_Big_Neg.c1x o) (tourref2_Big_Neg.c1n o) (tourref2_Big_Neg.c1q o)
  | 0, _, _ => fun _ h => nomatch h
  | n + 1, v1, v2 => Owp.of (tourref2_Big_Neg.c1.eq_2 ..) (
   Owp.bif (fun e3 =>
   Owp.req fun h4 =>
    fun y hy => loop_back (tourref2_Big_Neg.cok k) hmix 2 (tourref2_Big_Neg.c1p (iadd .i64 v1 (1 : Int)) (st v2 v1 (ibits .xor .u32 (el (0 : Int) v2 v1) (65535 : Int)))) [.dec true] [] [(0, 0), (1, 1)] (via (finP (And.intro (And.intro (And.intro (And.intro (And.intro trivial e3) h4) h4) h4) h4) .normal [(0, 0), (1, 1)] (tourref2_Big_Neg.c1p (iadd .i64 v1 (1 : Int)) (st v2 v1 (ibits .xor .u32 (el (0 : Int) v2 v1) (65535 : Int))))) (by kernel_rfl)) ((tourref2_Big_Neg.c1_ok k n (iadd .i64 v1 (1 : Int)) (st v2 v1 (ibits .xor .u32 (el (0 : Int) v2 v1) (65535 : Int)))).ap hy)) (fun e3 =>
   Owp.some (loop_exit (tourref2_Big_Neg.cok k) hmix [.dec false] [] [(0, 0), (1, 1)] (exne 0) (via (finP (And.intro trivial e3) (.exit 0) [(0, 0), (1, 1)] (tourref2_Big_Neg.c1q v2)) (by kernel_rfl)))))
theorem tourref2_Big_Neg.way (k : Nat) (a0 : (List Int)) : Owp (tourref2_Big_Neg k a0) fun y => ∃ answers cmds, exec PR (tourref2_Big_Neg.cx k) tourref2_Big_Neg.code 0 (entry (.pair T141 .unit) (a0, ())).st answers (Ret (tourref2_Big_Neg.cx k) Try.f183 cmds (.one (.dp T141)) y) := by
  unfold tourref2_Big_Neg; exact
   Owp.bnd fun o5 e6 =>
   Owp.bnd fun y7 e8 =>
   Owp.bnd fun y9 e10 =>
   Owp.some (⟨[.cut ⟨[], [(0, 0), (1, 1)], (tourref2_Big_Neg.c1p (0 : Int) a0), 2, (.exit 0), (tourref2_Big_Neg.c1q o5), 2⟩, .res (.one (.dp T141)) y7, .res (.one (.dp T141)) y9], [], via (cutP trivial [(0, 0), (1, 1)] (tourref2_Big_Neg.c1p (0 : Int) a0) (((tourref2_Big_Neg.c1_ok k k (0 : Int) a0).ap e6).triple) (retP (And.intro (And.intro trivial e8) e10) (.one (.dp T141)) (y9 : (List Int)))) (by kernel_rfl)⟩)
theorem tourref2_Big_Neg.ok (k : Nat) : FnOk PR 183 (tourref2_Big_Neg.sp k) :=
  fn_ok (tourref2_Big_Neg.cok k) hmix Try.func183 (code := tourref2_Big_Neg.code) (by kernel_rfl) (by kernel_rfl) (by kernel_rfl) rfl rfl (by kernel_rfl) (by kernel_rfl) (by kernel_rfl) (fun x => Nat.le_of_ble_eq_true (by kernel_rfl)) fun x y hy => (tourref2_Big_Neg.way k x.1).ap hy

/-! (tourney/tourref2.Big).Sub -/
noncomputable def tourref2_Big_Sub.code : Code := Func.cd Try.f228
noncomputable def tourref2_Big_Sub (k : Nat) (a0 : (List Int)) (a1 : (List Int)) : Option (List Int) :=
  bnd (tourref2_Big_Neg k a1) fun y1 =>
  bnd (tourref2_Big_Add k a0 y1) fun y3 =>
  some y3
noncomputable def tourref2_Big_Sub.sp (k : Nat) : Go.Sx.Spec := ⟨(.pair T141 (.pair T141 .unit)), (.one (.dp T141)), fun x => tourref2_Big_Sub k x.1 x.2.1, false⟩
noncomputable def tourref2_Big_Sub.cx (k : Nat) : Go.Sx.Ctx := ⟨tys, [(183, tourref2_Big_Neg.sp k), (181, tourref2_Big_Add.sp k)], eqs, 9, 0, [], false⟩
theorem tourref2_Big_Sub.cok (k : Nat) : CtxOk PR (tourref2_Big_Sub.cx k) := ctx_ok tysOk eqsOk (FnsOk.cons (tourref2_Big_Neg.ok k) (FnsOk.cons (tourref2_Big_Add.ok k) FnsOk.nil)) HsOk.nil
theorem tourref2_Big_Sub.way (k : Nat) (a0 : (List Int)) (a1 : (List Int)) : Owp (tourref2_Big_Sub k a0 a1) fun y => ∃ answers cmds, exec PR (tourref2_Big_Sub.cx k) tourref2_Big_Sub.code 0 (entry (.pair T141 (.pair T141 .unit)) (a0, a1, ())).st answers (Ret (tourref2_Big_Sub.cx k) Try.f228 cmds (.one (.dp T141)) y) := by
  unfold tourref2_Big_Sub; exact
   Owp.bnd fun y1 e2 =>
   Owp.bnd fun y3 e4 =>
   Owp.some (⟨[.res (.one (.dp T141)) y1, .res (.one (.dp T141)) y3], [], via (retP (And.intro (And.intro trivial e2) e4) (.one (.dp T141)) (y3 : (List Int))) (by kernel_rfl)⟩)
theorem tourref2_Big_Sub.ok (k : Nat) : FnOk PR 228 (tourref2_Big_Sub.sp k) :=
  fn_ok (tourref2_Big_Sub.cok k) hmix Try.func228 (code := tourref2_Big_Sub.code) (by kernel_rfl) (by kernel_rfl) (by kernel_rfl) rfl rfl (by kernel_rfl) (by kernel_rfl) (by kernel_rfl) (fun x => Nat.le_of_ble_eq_true (by kernel_rfl)) fun x y hy => (tourref2_Big_Sub.way k x.1 x.2.1).ap hy

/-! tourney/tourref2.coord -/
noncomputable def tourref2_coord.code : Code := Func.cd Try.f94
noncomputable def tourref2_coord (k : Nat) (a0 : V27) (a1 : Int) : Option Bool :=
  bif' (ige a0.1 (ineg .i64 a1))
  (bif' (ile a0.1 a1)
   (bif' (ige a0.2.1 (ineg .i64 a1))
    (some (ile a0.2.1 a1))
    (some false))
   (some false))
  (some false)
noncomputable def tourref2_coord.sp (k : Nat) : Go.Sx.Spec := ⟨(.pair T27 (.pair T2 .unit)), (.one (.dp T4)), fun x => tourref2_coord k x.1 x.2.1, false⟩
noncomputable def tourref2_coord.cx (k : Nat) : Go.Sx.Ctx := ⟨tys, [], eqs, 29, 0, [], false⟩
theorem tourref2_coord.cok (k : Nat) : CtxOk PR (tourref2_coord.cx k) := ctx_ok tysOk eqsOk FnsOk.nil HsOk.nil
theorem tourref2_coord.way (k : Nat) (a0 : V27) (a1 : Int) : Owp (tourref2_coord k a0 a1) fun y => ∃ answers cmds, exec PR (tourref2_coord.cx k) tourref2_coord.code 0 (entry (.pair T27 (.pair T2 .unit)) (a0, a1, ())).st answers (Ret (tourref2_coord.cx k) Try.f94 cmds (.one (.dp T4)) y) := by
  unfold tourref2_coord; exact
   Owp.bif (fun e1 =>
   Owp.bif (fun e2 =>
    Owp.bif (fun e3 =>
     Owp.some (⟨[.dec true, .dec true, .dec true, .dec true, .dec true, .dec true, .dec true, .dec true, .dec true, .dec true, .dec true, .dec true, .dec true, .dec true, .dec true, .dec true], [], via (retP (And.intro (And.intro (And.intro (And.intro (And.intro (And.intro (And.intro (And.intro (And.intro (And.intro (And.intro (And.intro (And.intro (And.intro (And.intro (And.intro trivial e1) e1) e1) e1) e1) e2) e2) e2) e2) e2) e2) e3) e3) e3) e3) e3) (.one (.dp T4)) ((ile a0.2.1 a1) : Bool)) (by kernel_rfl)⟩)) (fun e3 =>
     Owp.some (⟨[.dec true, .dec true, .dec true, .dec true, .dec true, .dec true, .dec true, .dec true, .dec true, .dec true, .dec true, .dec false, .dec false, .dec false, .dec false, .dec false], [], via (retP (And.intro (And.intro (And.intro (And.intro (And.intro (And.intro (And.intro (And.intro (And.intro (And.intro (And.intro (And.intro (And.intro (And.intro (And.intro (And.intro trivial e1) e1) e1) e1) e1) e2) e2) e2) e2) e2) e2) e3) e3) e3) e3) e3) (.one (.dp T4)) (false : Bool)) (by kernel_rfl)⟩))) (fun e2 =>
    Owp.some (⟨[.dec true, .dec true, .dec true, .dec true, .dec true, .dec false, .dec false, .dec false, .dec false, .dec false, .dec false, .dec false, .dec false, .dec false, .dec false, .dec false], [], via (retP (And.intro (And.intro (And.intro (And.intro (And.intro (And.intro (And.intro (And.intro (And.intro (And.intro (And.intro (And.intro (And.intro (And.intro (And.intro (And.intro trivial e1) e1) e1) e1) e1) e2) e2) e2) e2) e2) e2) ff) ff) ff) ff) ff) (.one (.dp T4)) (false : Bool)) (by kernel_rfl)⟩))) (fun e1 =>
   Owp.some (⟨[.dec false, .dec false, .dec false, .dec false, .dec false, .dec false, .dec false, .dec false, .dec false, .dec false, .dec false, .dec false, .dec false, .dec false, .dec false, .dec false], [], via (retP (And.intro (And.intro (And.intro (And.intro (And.intro (And.intro (And.intro (And.intro (And.intro (And.intro (And.intro (And.intro (And.intro (And.intro (And.intro (And.intro trivial e1) e1) e1) e1) e1) ff) ff) ff) ff) ff) ff) ff) ff) ff) ff) ff) (.one (.dp T4)) (false : Bool)) (by kernel_rfl)⟩))
theorem tourref2_coord.ok (k : Nat) : FnOk PR 94 (tourref2_coord.sp k) :=
  fn_ok (tourref2_coord.cok k) hmix Try.func94 (code := tourref2_coord.code) (by kernel_rfl) (by kernel_rfl) (by kernel_rfl) rfl rfl (by kernel_rfl) (by kernel_rfl) (by kernel_rfl) (fun x => Nat.le_of_ble_eq_true (by kernel_rfl)) fun x y hy => (tourref2_coord.way k x.1 x.2.1).ap hy

/-! tourney/tourref2.Hull$1 -/
noncomputable def tourref2_Hull_1.code : Code := Func.cd Try.f93
noncomputable def tourref2_Hull_1 (k : Nat) (a0 : V27) : Option Bool :=
  bnd (tourref2_coord k a0 65536000) fun y1 =>
  some (!y1)
noncomputable def tourref2_Hull_1.sp (k : Nat) : Go.Sx.Spec := ⟨(.pair T27 .unit), (.one (.dp T4)), fun x => tourref2_Hull_1 k x.1, false⟩
noncomputable def tourref2_Hull_1.cx (k : Nat) : Go.Sx.Ctx := ⟨tys, [(94, tourref2_coord.sp k)], eqs, 6, 0, [], false⟩
theorem tourref2_Hull_1.cok (k : Nat) : CtxOk PR (tourref2_Hull_1.cx k) := ctx_ok tysOk eqsOk (FnsOk.cons (tourref2_coord.ok k) FnsOk.nil) HsOk.nil
theorem tourref2_Hull_1.way (k : Nat) (a0 : V27) : Owp (tourref2_Hull_1 k a0) fun y => ∃ answers cmds, exec PR (tourref2_Hull_1.cx k) tourref2_Hull_1.code 0 (entry (.pair T27 .unit) (a0, ())).st answers (Ret (tourref2_Hull_1.cx k) Try.f93 cmds (.one (.dp T4)) y) := by
  unfold tourref2_Hull_1; exact
   Owp.bnd fun y1 e2 =>
   Owp.some (⟨[.res (.one (.dp T4)) y1], [], via (retP (And.intro trivial e2) (.one (.dp T4)) ((!y1) : Bool)) (by kernel_rfl)⟩)
theorem tourref2_Hull_1.ok (k : Nat) : FnOk PR 93 (tourref2_Hull_1.sp k) :=
  fn_ok (tourref2_Hull_1.cok k) hmix Try.func93 (code := tourref2_Hull_1.code) (by kernel_rfl) (by kernel_rfl) (by kernel_rfl) rfl rfl (by kernel_rfl) (by kernel_rfl) (by kernel_rfl) (fun x => Nat.le_of_ble_eq_true (by kernel_rfl)) fun x y hy => (tourref2_Hull_1.way k x.1).ap hy

/-! tourney/tourref2.sub -/
noncomputable def tourref2_sub.code : Code := Func.cd Try.f135
noncomputable def tourref2_sub (k : Nat) (a0 : V27) (a1 : V27) : Option V27 :=
  some ((isub .i64 a0.1 a1.1), (isub .i64 a0.2.1 a1.2.1), ())
noncomputable def tourref2_sub.sp (k : Nat) : Go.Sx.Spec := ⟨T41, (.one (.dp T27)), fun x => tourref2_sub k x.1 x.2.1, false⟩
noncomputable def tourref2_sub.cx (k : Nat) : Go.Sx.Ctx := ⟨tys, [], eqs, 16, 0, [], false⟩
theorem tourref2_sub.cok (k : Nat) : CtxOk PR (tourref2_sub.cx k) := ctx_ok tysOk eqsOk FnsOk.nil HsOk.nil
theorem tourref2_sub.way (k : Nat) (a0 : V27) (a1 : V27) : Owp (tourref2_sub k a0 a1) fun y => ∃ answers cmds, exec PR (tourref2_sub.cx k) tourref2_sub.code 0 (entry T41 (a0, a1, ())).st answers (Ret (tourref2_sub.cx k) Try.f135 cmds (.one (.dp T27)) y) := by
  unfold tourref2_sub; exact
   Owp.some (⟨[], [], via (retP trivial (.one (.dp T27)) (((isub .i64 a0.1 a1.1), (isub .i64 a0.2.1 a1.2.1), ()) : V27)) (by kernel_rfl)⟩)
theorem tourref2_sub.ok (k : Nat) : FnOk PR 135 (tourref2_sub.sp k) :=
  fn_ok (tourref2_sub.cok k) hmix Try.func135 (code := tourref2_sub.code) (by kernel_rfl) (by kernel_rfl) (by kernel_rfl) rfl rfl (by kernel_rfl) (by kernel_rfl) (by kernel_rfl) (fun x => Nat.le_of_ble_eq_true (by kernel_rfl)) fun x y hy => (tourref2_sub.way k x.1 x.2.1).ap hy

/-! tourney/tourref2.Cross -/
noncomputable def tourref2_Cross.code : Code := Func.cd Try.f177
noncomputable def tourref2_Cross (k : Nat) (a0 : V27) (a1 : V27) : Option (List Int) :=
  bnd (tourref2_Of k a0.1) fun y1 =>
  bnd (tourref2_Of k a1.2.1) fun y3 =>
  bnd (tourref2_Big_Mul k y1 y3) fun y5 =>
  bnd (tourref2_Of k a0.2.1) fun y7 =>
  bnd (tourref2_Of k a1.1) fun y9 =>
  bnd (tourref2_Big_Mul k y7 y9) fun y11 =>
  bnd (tourref2_Big_Sub k y5 y11) fun y13 =>
  some y13
noncomputable def tourref2_Cross.sp (k : Nat) : Go.Sx.Spec := ⟨T41, (.one (.dp T141)), fun x => tourref2_Cross k x.1 x.2.1, false⟩
noncomputable def tourref2_Cross.cx (k : Nat) : Go.Sx.Ctx := ⟨tys, [(179, tourref2_Of.sp k), (180, tourref2_Big_Mul.sp k), (228, tourref2_Big_Sub.sp k)], eqs, 20, 0, [], false⟩
theorem tourref2_Cross.cok (k : Nat) : CtxOk PR (tourref2_Cross.cx k) := ctx_ok tysOk eqsOk (FnsOk.cons (tourref2_Of.ok k) (FnsOk.cons (tourref2_Big_Mul.ok k) (FnsOk.cons (tourref2_Big_Sub.ok k) FnsOk.nil))) HsOk.nil
theorem tourref2_Cross.way (k : Nat) (a0 : V27) (a1 : V27) : Owp (tourref2_Cross k a0 a1) fun y => ∃ answers cmds, exec PR (tourref2_Cross.cx k) tourref2_Cross.code 0 (entry T41 (a0, a1, ())).st answers (Ret (tourref2_Cross.cx k) Try.f177 cmds (.one (.dp T141)) y) := by
  unfold tourref2_Cross; exact
   Owp.bnd fun y1 e2 =>
   Owp.bnd fun y3 e4 =>
   Owp.bnd fun y5 e6 =>
   Owp.bnd fun y7 e8 =>
   Owp.bnd fun y9 e10 =>
   Owp.bnd fun y11 e12 =>
   Owp.bnd fun y13 e14 =>
   Owp.some (⟨[.res (.one (.dp T141)) y1, .res (.one (.dp T141)) y3, .res (.one (.dp T141)) y5, .res (.one (.dp T141)) y7, .res (.one (.dp T141)) y9, .res (.one (.dp T141)) y11, .res (.one (.dp T141)) y13], [], via (retP (And.intro (And.intro (And.intro (And.intro (And.intro (And.intro (And.intro trivial e2) e4) e6) e8) e10) e12) e14) (.one (.dp T141)) (y13 : (List Int))) (by kernel_rfl)⟩)
theorem tourref2_Cross.ok (k : Nat) : FnOk PR 177 (tourref2_Cross.sp k) :=
  fn_ok (tourref2_Cross.cok k) hmix Try.func177 (code := tourref2_Cross.code) (by kernel_rfl) (by kernel_rfl) (by kernel_rfl) rfl rfl (by kernel_rfl) (by kernel_rfl) (by kernel_rfl) (fun x => Nat.le_of_ble_eq_true (by kernel_rfl)) fun x y hy => (tourref2_Cross.way k x.1 x.2.1).ap hy

/-! tourney/tourref2.left -/
noncomputable def tourref2_left.code : Code := Func.cd Try.f130
noncomputable def tourref2_left (k : Nat) (a0 : V27) (a1 : V27) (a2 : V27) : Option Int :=
  bnd (tourref2_sub k a1 a0) fun y1 =>
  bnd (tourref2_sub k a2 a0) fun y3 =>
  bnd (tourref2_Cross k y1 y3) fun y5 =>
  bnd (tourref2_Big_Cmp k y5 (List.replicate 8 0)) fun y7 =>
  some y7
noncomputable def tourref2_left.sp (k : Nat) : Go.Sx.Spec := ⟨(.pair T27 T41), (.one (.dp T2)), fun x => tourref2_left k x.1 x.2.1 x.2.2.1, false⟩
noncomputable def tourref2_left.cx (k : Nat) : Go.Sx.Ctx := ⟨tys, [(135, tourref2_sub.sp k), (177, tourref2_Cross.sp k), (136, tourref2_Big_Cmp.sp k)], eqs, 16, 0, [], false⟩
theorem tourref2_left.cok (k : Nat) : CtxOk PR (tourref2_left.cx k) := ctx_ok tysOk eqsOk (FnsOk.cons (tourref2_sub.ok k) (FnsOk.cons (tourref2_Cross.ok k) (FnsOk.cons (tourref2_Big_Cmp.ok k) FnsOk.nil))) HsOk.nil
theorem tourref2_left.way (k : Nat) (a0 : V27) (a1 : V27) (a2 : V27) : Owp (tourref2_left k a0 a1 a2) fun y => ∃ answers cmds, exec PR (tourref2_left.cx k) tourref2_left.code 0 (entry (.pair T27 T41) (a0, a1, a2, ())).st answers (Ret (tourref2_left.cx k) Try.f130 cmds (.one (.dp T2)) y) := by
  unfold tourref2_left; exact
   Owp.bnd fun y1 e2 =>
   Owp.bnd fun y3 e4 =>
   Owp.bnd fun y5 e6 =>
   Owp.bnd fun y7 e8 =>
   Owp.some (⟨[.res (.one (.dp T27)) y1, .res (.one (.dp T27)) y3, .res (.one (.dp T141)) y5, .res (.one (.dp T2)) y7], [], via (retP (And.intro (And.intro (And.intro (And.intro trivial e2) e4) e6) e8) (.one (.dp T2)) (y7 : Int)) (by kernel_rfl)⟩)
theorem tourref2_left.ok (k : Nat) : FnOk PR 130 (tourref2_left.sp k) :=
  fn_ok (tourref2_left.cok k) hmix Try.func130 (code := tourref2_left.code) (by kernel_rfl) (by kernel_rfl) (by kernel_rfl) rfl rfl (by kernel_rfl) (by kernel_rfl) (by kernel_rfl) (fun x => Nat.le_of_ble_eq_true (by kernel_rfl)) fun x y hy => (tourref2_left.way k x.1 x.2.1 x.2.2.1).ap hy

/-! tourney/tourref2.Dot -/
noncomputable def tourref2_Dot.code : Code := Func.cd Try.f134
noncomputable def tourref2_Dot (k : Nat) (a0 : V27) (a1 : V27) : Option (List Int) :=
  bnd (tourref2_Of k a0.1) fun y1 =>
  bnd (tourref2_Of k a1.1) fun y3 =>
  bnd (tourref2_Big_Mul k y1 y3) fun y5 =>
  bnd (tourref2_Of k a0.2.1) fun y7 =>
  bnd (tourref2_Of k a1.2.1) fun y9 =>
  bnd (tourref2_Big_Mul k y7 y9) fun y11 =>
  bnd (tourref2_Big_Add k y5 y11) fun y13 =>
  some y13
noncomputable def tourref2_Dot.sp (k : Nat) : Go.Sx.Spec := ⟨T41, (.one (.dp T141)), fun x => tourref2_Dot k x.1 x.2.1, false⟩
noncomputable def tourref2_Dot.cx (k : Nat) : Go.Sx.Ctx := ⟨tys, [(179, tourref2_Of.sp k), (180, tourref2_Big_Mul.sp k), (181, tourref2_Big_Add.sp k)], eqs, 20, 0, [], false⟩
theorem tourref2_Dot.cok (k : Nat) : CtxOk PR (tourref2_Dot.cx k) := ctx_ok tysOk eqsOk (FnsOk.cons (tourref2_Of.ok k) (FnsOk.cons (tourref2_Big_Mul.ok k) (FnsOk.cons (tourref2_Big_Add.ok k) FnsOk.nil))) HsOk.nil
theorem tourref2_Dot.way (k : Nat) (a0 : V27) (a1 : V27) : Owp (tourref2_Dot k a0 a1) fun y => ∃ answers cmds, exec PR (tourref2_Dot.cx k) tourref2_Dot.code 0 (entry T41 (a0, a1, ())).st answers (Ret (tourref2_Dot.cx k) Try.f134 cmds (.one (.dp T141)) y) := by
  unfold tourref2_Dot; exact
   Owp.bnd fun y1 e2 =>
   Owp.bnd fun y3 e4 =>
   Owp.bnd fun y5 e6 =>
   Owp.bnd fun y7 e8 =>
   Owp.bnd fun y9 e10 =>
   Owp.bnd fun y11 e12 =>
   Owp.bnd fun y13 e14 =>
   Owp.some (⟨[.res (.one (.dp T141)) y1, .res (.one (.dp T141)) y3, .res (.one (.dp T141)) y5, .res (.one (.dp T141)) y7, .res (.one (.dp T141)) y9, .res (.one (.dp T141)) y11, .res (.one (.dp T141)) y13], [], via (retP (And.intro (And.intro (And.intro (And.intro (And.intro (And.intro (And.intro trivial e2) e4) e6) e8) e10) e12) e14) (.one (.dp T141)) (y13 : (List Int))) (by kernel_rfl)⟩)
theorem tourref2_Dot.ok (k : Nat) : FnOk PR 134 (tourref2_Dot.sp k) :=
  fn_ok (tourref2_Dot.cok k) hmix Try.func134 (code := tourref2_Dot.code) (by kernel_rfl) (by kernel_rfl) (by kernel_rfl) rfl rfl (by kernel_rfl) (by kernel_rfl) (by kernel_rfl) (fun x => Nat.le_of_ble_eq_true (by kernel_rfl)) fun x y hy => (tourref2_Dot.way k x.1 x.2.1).ap hy

/-! tourney/tourref2.Wrap -/
noncomputable def tourref2_Wrap.code : Code := Func.cd Try.f95
noncomputable def tourref2_Wrap.c2 (k : Nat) (a0 : (List V27)) (v3 : Int) (v4 : V27) : Option (Bool) :=
  bif' (ilt (el Z27 a0 v3).2.1 v4.2.1)
  (some true)
  (bif' (ieq (el Z27 a0 v3).2.1 v4.2.1)
   (some (ilt (el Z27 a0 v3).1 v4.1))
   (some false))
noncomputable def tourref2_Wrap.c1 (k : Nat) (a0 : (List V27)) : Nat → Int → V27 → Option (V27)
  | 0, _, _ => none
  | n + 1, v3, v4 =>
   bif' (ilt v3 (len a0))
   (req (inL v3 a0) <|
    bnd (tourref2_Wrap.c2 k a0 v3 v4) fun o9 =>
    bif' o9
    (tourref2_Wrap.c1 k a0 n (iadd .i64 v3 1) (el Z27 a0 v3))
    (tourref2_Wrap.c1 k a0 n (iadd .i64 v3 1) v4))
   (some v4)
noncomputable def tourref2_Wrap.c5 (k : Nat) (a0 : (List V27)) (v14 : (List V27)) (v17 : Int) (v18 : V27) : Option (Int) :=
  bif' (Ty.eqb T27 v18 (el Z27 v14 (isub .i64 (len v14) (1 : Int))))
  (some 0)
  (bnd (tourref2_left k (el Z27 v14 (isub .i64 (len v14) 1)) v18 (el Z27 a0 v17)) fun y23 =>
   some y23)
noncomputable def tourref2_Wrap.c6 (k : Nat) (a0 : (List V27)) (o25 : Int) (v14 : (List V27)) (v17 : Int) (v18 : V27) : Option (Bool) :=
  bif' (Ty.eqb T27 v18 (el Z27 v14 (isub .i64 (len v14) (1 : Int))))
  (some true)
  (bif' (ilt o25 0)
   (some true)
   (bif' (ieq o25 0)
    (bnd (tourref2_sub k (el Z27 a0 v17) (el Z27 v14 (isub .i64 (len v14) 1))) fun y30 =>
     bnd (tourref2_sub k (el Z27 a0 v17) (el Z27 v14 (isub .i64 (len v14) 1))) fun y32 =>
     bnd (tourref2_Dot k y30 y32) fun y34 =>
     bnd (tourref2_sub k v18 (el Z27 v14 (isub .i64 (len v14) 1))) fun y36 =>
     bnd (tourref2_sub k v18 (el Z27 v14 (isub .i64 (len v14) 1))) fun y38 =>
     bnd (tourref2_Dot k y36 y38) fun y40 =>
     bnd (tourref2_Big_Cmp k y34 y40) fun y42 =>
     some (igt y42 0))
    (some false)))
noncomputable def tourref2_Wrap.c4 (k : Nat) (a0 : (List V27)) (v14 : (List V27)) : Nat → Int → V27 → Option (V27)
  | 0, _, _ => none
  | n + 1, v17, v18 =>
   bif' (ilt v17 (len a0))
   (req (inL v17 a0) <|
    bif' (Ty.eqb T27 (el Z27 a0 v17) (el Z27 v14 (isub .i64 (len v14) (1 : Int))))
    (tourref2_Wrap.c4 k a0 v14 n (iadd .i64 v17 1) v18)
    (bnd (tourref2_Wrap.c5 k a0 v14 v17 v18) fun o25 =>
     bnd (tourref2_Wrap.c6 k a0 o25 v14 v17 v18) fun o44 =>
     bif' o44
     (tourref2_Wrap.c4 k a0 v14 n (iadd .i64 v17 1) (el Z27 a0 v17))
     (tourref2_Wrap.c4 k a0 v14 n (iadd .i64 v17 1) v18)))
   (some v18)
noncomputable def tourref2_Wrap.c7 (k : Nat) (o12 : V27) (o47 : V27) (v14 : (List V27)) : Option (Bool) :=
  bif' (Ty.eqb T27 o47 o12)
  (some true)
  (some (Ty.eqb T27 o47 (el Z27 v14 (isub .i64 (len v14) (1 : Int)))))
noncomputable def tourref2_Wrap.c3 (k : Nat) (a0 : (List V27)) (o12 : V27) : Nat → (List V27) → Option ((List V27))
  | 0, _ => none
  | n + 1, v14 =>
   bif' (ile (len v14) (len a0))
   (req (inL (isub .i64 (len v14) 1) v14) <|
    bnd (tourref2_Wrap.c4 k a0 v14 k 0 (el Z27 v14 (isub .i64 (len v14) 1))) fun o47 =>
    bnd (tourref2_Wrap.c7 k o12 o47 v14) fun o50 =>
    bif' o50
    (some v14)
    (req (room 16 v14 [o47]) <|
     tourref2_Wrap.c3 k a0 o12 n (v14 ++ [o47])))
   (some v14)
noncomputable def tourref2_Wrap (k : Nat) (a0 : (List V27)) : Option (List V27) :=
  bif' (ieq (len a0) 0)
  (some [])
  (req (inL 0 a0) <|
   bnd (tourref2_Wrap.c1 k a0 k 0 (el Z27 a0 0)) fun o12 =>
   bnd (tourref2_Wrap.c3 k a0 o12 k [o12]) fun o54 =>
   some o54)
noncomputable def tourref2_Wrap.sp (k : Nat) : Go.Sx.Spec := ⟨(.pair T22 .unit), (.one (.ow T27 28)), fun x => tourref2_Wrap k x.1, false⟩
noncomputable def tourref2_Wrap.cx (k : Nat) : Go.Sx.Ctx := ⟨tys, [(130, tourref2_left.sp k), (135, tourref2_sub.sp k), (134, tourref2_Dot.sp k), (136, tourref2_Big_Cmp.sp k)], eqs, 119, 0, [], false⟩
theorem tourref2_Wrap.cok (k : Nat) : CtxOk PR (tourref2_Wrap.cx k) := ctx_ok tysOk eqsOk (FnsOk.cons (tourref2_left.ok k) (FnsOk.cons (tourref2_sub.ok k) (FnsOk.cons (tourref2_Dot.ok k) (FnsOk.cons (tourref2_Big_Cmp.ok k) FnsOk.nil)))) HsOk.nil
noncomputable def tourref2_Wrap.c2p (a0 : (List V27)) (v3 : Int) (v4 : V27) : SL := ⟨[(0, (.val T22 a0)), (3, (.val .ptr ⟨0, 0, (0 : Int), 0, 0⟩)), (5, (.val .ptr ⟨1, 0, (0 : Int), 0, 0⟩)), (18, (.val T22 a0)), (19, (.val T2 (len a0))), (20, (.val T2 v3))], [(0, .cells T27 v4), (1, .cells T27 (el Z27 a0 v3))]⟩
noncomputable def tourref2_Wrap.c2q (a0 : (List V27)) (v3 : Int) (v4 : V27) (o : Bool) : SL := (fun v => ⟨[(0, (.val T22 a0)), (3, (.val .ptr ⟨0, 0, (0 : Int), 0, 0⟩)), (5, (.val .ptr ⟨1, 0, (0 : Int), 0, 0⟩)), (18, (.val T22 a0)), (19, (.val T2 (len a0))), (20, (.val T2 v3)), (42, (.val T4 v))], [(0, .cells T27 v4), (1, .cells T27 (el Z27 a0 v3))]⟩) o
noncomputable def tourref2_Wrap.c2x (o : Bool) : Ex := (fun _ => .normal) o
noncomputable def tourref2_Wrap.c2n (o : Bool) : Nat := (fun _ => 2) o
theorem tourref2_Wrap.c2_ok (k : Nat) (a0 : (List V27)) (v3 : Int) (v4 : V27) : Owp (tourref2_Wrap.c2 k a0 v3 v4) fun o => Triple PR (tourref2_Wrap.cx k) (sub tourref2_Wrap.code [1, 1, 1, 0, 1, 0, 0, 1, 1, 0, 0, 1, 0]) 2 (tourref2_Wrap.c2p a0 v3 v4) (tourref2_Wrap.c2x o) (tourref2_Wrap.c2n o) (tourref2_Wrap.c2q a0 v3 v4 o) := by
  unfold tourref2_Wrap.c2; exact
   Owp.bif (fun e7 =>
   Owp.some (triple_way (tourref2_Wrap.cok k) hmix [.dec true, .dec true, .dec true, .dec true, .dec true, .dec true, .dec true, .dec true, .dec true, .dec true, .dec true, .dec true, .dec true, .dec true] [] [(0, 0), (1, 1)] (via (finP (And.intro (And.intro (And.intro (And.intro (And.intro (And.intro (And.intro (And.intro trivial e7) e7) e7) e7) e7) e7) e7) e7) .normal [(0, 0), (1, 1)] (tourref2_Wrap.c2q a0 v3 v4 true)) (by kernel_rfl)))) (fun e7 =>
   Owp.bif (fun e8 =>
    Owp.some (triple_way (tourref2_Wrap.cok k) hmix [.dec false, .dec false, .dec false, .dec false, .dec false, .dec false, .dec true, .dec true, .dec true, .dec true, .dec true, .dec false, .dec true, .dec false] [] [(0, 0), (1, 1)] (via (finP (And.intro (And.intro (And.intro (And.intro (And.intro (And.intro (And.intro (And.intro (And.intro (And.intro (And.intro (And.intro (And.intro trivial e7) e7) e7) e7) e7) e7) e8) e8) e8) e8) e8) (And.intro e7 e8)) e7) .normal [(0, 0), (1, 1)] (tourref2_Wrap.c2q a0 v3 v4 (ilt (el Z27 a0 v3).1 v4.1))) (by kernel_rfl)))) (fun e8 =>
    Owp.some (triple_way (tourref2_Wrap.cok k) hmix [.dec false, .dec false, .dec false, .dec false, .dec false, .dec false, .dec false, .dec false, .dec false, .dec false, .dec false, .dec false, .dec false, .dec false] [] [(0, 0), (1, 1)] (via (finP (And.intro (And.intro (And.intro (And.intro (And.intro (And.intro (And.intro (And.intro (And.intro (And.intro (And.intro (And.intro (And.intro trivial e7) e7) e7) e7) e7) e7) e8) e8) e8) e8) e8) (And.intro e7 e8)) e7) .normal [(0, 0), (1, 1)] (tourref2_Wrap.c2q a0 v3 v4 false)) (by kernel_rfl)))))
noncomputable def tourref2_Wrap.c1p (a0 : (List V27)) (v3 : Int) (v4 : V27) : SL := ⟨[(0, (.val T22 a0)), (3, (.val .ptr ⟨0, 0, (0 : Int), 0, 0⟩)), (18, (.val T22 a0)), (19, (.val T2 (len a0))), (20, (.val T2 v3))], [(0, .cells T27 v4)]⟩
noncomputable def tourref2_Wrap.c1q (a0 : (List V27)) (o : V27) : SL := (fun v => ⟨[(0, (.val T22 a0)), (3, (.val .ptr ⟨0, 0, (0 : Int), 0, 0⟩))], [(0, .cells T27 v)]⟩) o
noncomputable def tourref2_Wrap.c1x (o : V27) : Ex := (fun _ => (.exit 0)) o
noncomputable def tourref2_Wrap.c1n (o : V27) : Nat := (fun _ => 1) o
theorem tourref2_Wrap.c1_ok (k : Nat) (a0 : (List V27)) : ∀ (n : Nat) (v3 : Int) (v4 : V27), Owp (tourref2_Wrap.c1 k a0 n v3 v4) fun o => LTriple PR (tourref2_Wrap.cx k) (sub tourref2_Wrap.code [1, 1, 1, 0, 1, 0, 0]) 1 (tourref2_Wrap.c1p a0 v3 v4) (tourref2_Wrap.c1x o) (tourref2_Wrap.c1n o) (tourref2_Wrap.c1q a0 o)
  | 0, _, _ => fun _ h => nomatch h
  | n + 1, v3, v4 => Owp.of (tourref2_Wrap.c1.eq_2 ..) (
   Owp.bif (fun e5 =>
   Owp.req fun h6 =>
    Owp.bnd fun o9 e10 =>
    Owp.bif (fun e11 =>
    fun y hy => loop_back (tourref2_Wrap.cok k) hmix 1 (tourref2_Wrap.c1p a0 (iadd .i64 v3 (1 : Int)) (el Z27 a0 v3)) [.dec true, .cutR 7 ⟨[], [(0, 0), (1, 4)], (tourref2_Wrap.c2p a0 v3 v4), 2, .normal, (tourref2_Wrap.c2q a0 v3 v4 o9), 2⟩, .dec true] [] [(0, 0)] (via (cutP (And.intro (And.intro trivial e5) h6) [(0, 0), (1, 4)] (tourref2_Wrap.c2p a0 v3 v4) (((tourref2_Wrap.c2_ok k a0 v3 v4).ap e10)) (finP (And.intro trivial e11) .normal [(0, 0)] (tourref2_Wrap.c1p a0 (iadd .i64 v3 (1 : Int)) (el Z27 a0 v3)))) (by kernel_rfl)) ((tourref2_Wrap.c1_ok k a0 n (iadd .i64 v3 (1 : Int)) (el Z27 a0 v3)).ap hy)) (fun e11 =>
    fun y hy => loop_back (tourref2_Wrap.cok k) hmix 1 (tourref2_Wrap.c1p a0 (iadd .i64 v3 (1 : Int)) v4) [.dec true, .cutR 7 ⟨[], [(0, 0), (1, 4)], (tourref2_Wrap.c2p a0 v3 v4), 2, .normal, (tourref2_Wrap.c2q a0 v3 v4 o9), 2⟩, .dec false] [] [(0, 0)] (via (cutP (And.intro (And.intro trivial e5) h6) [(0, 0), (1, 4)] (tourref2_Wrap.c2p a0 v3 v4) (((tourref2_Wrap.c2_ok k a0 v3 v4).ap e10)) (finP (And.intro trivial e11) .normal [(0, 0)] (tourref2_Wrap.c1p a0 (iadd .i64 v3 (1 : Int)) v4))) (by kernel_rfl)) ((tourref2_Wrap.c1_ok k a0 n (iadd .i64 v3 (1 : Int)) v4).ap hy))) (fun e5 =>
   Owp.some (loop_exit (tourref2_Wrap.cok k) hmix [.dec false] [] [(0, 0)] (exne 0) (via (finP (And.intro trivial e5) (.exit 0) [(0, 0)] (tourref2_Wrap.c1q a0 v4)) (by kernel_rfl)))))
noncomputable def tourref2_Wrap.c5p (a0 : (List V27)) (o12 : V27) (v14 : (List V27)) (v17 : Int) (v18 : V27) : SL := ⟨[(0, (.val T22 a0)), (3, (.val .ptr ⟨0, 0, (0 : Int), 0, 0⟩)), (6, (.val .own (1 : Nat))), (7, (.val .ptr ⟨2, 0, (0 : Int), 0, 0⟩)), (8, (.val .ptr ⟨3, 0, (0 : Int), 0, 0⟩)), (10, (.val .ptr ⟨4, 0, (0 : Int), 0, 0⟩)), (11, (.val T2 (0 : Int))), (59, (.val T22 a0)), (60, (.val T2 (len a0))), (61, (.val T2 v17)), (70, (.val T4 (!(Ty.eqb T27 v18 (el Z27 v14 (isub .i64 (len v14) (1 : Int)))))))], [(0, .cells T27 o12), (1, .row T27 v14 28), (2, .cells T27 (el Z27 v14 (isub .i64 (len v14) (1 : Int)))), (3, .cells T27 v18), (4, .cells T27 (el Z27 a0 v17))]⟩
noncomputable def tourref2_Wrap.c5q (a0 : (List V27)) (o12 : V27) (v14 : (List V27)) (v17 : Int) (v18 : V27) (o : Int) : SL := (fun v => ⟨[(0, (.val T22 a0)), (3, (.val .ptr ⟨0, 0, (0 : Int), 0, 0⟩)), (6, (.val .own (1 : Nat))), (7, (.val .ptr ⟨2, 0, (0 : Int), 0, 0⟩)), (8, (.val .ptr ⟨3, 0, (0 : Int), 0, 0⟩)), (10, (.val .ptr ⟨4, 0, (0 : Int), 0, 0⟩)), (11, (.val T2 v)), (59, (.val T22 a0)), (60, (.val T2 (len a0))), (61, (.val T2 v17))], [(0, .cells T27 o12), (1, .row T27 v14 28), (2, .cells T27 (el Z27 v14 (isub .i64 (len v14) (1 : Int)))), (3, .cells T27 v18), (4, .cells T27 (el Z27 a0 v17))]⟩) o
noncomputable def tourref2_Wrap.c5x (o : Int) : Ex := (fun _ => .normal) o
noncomputable def tourref2_Wrap.c5n (o : Int) : Nat := (fun _ => 5) o
theorem tourref2_Wrap.c5_ok (k : Nat) (a0 : (List V27)) (o12 : V27) (v14 : (List V27)) (v17 : Int) (v18 : V27) : Owp (tourref2_Wrap.c5 k a0 v14 v17 v18) fun o => Triple PR (tourref2_Wrap.cx k) (sub tourref2_Wrap.code [1, 1, 1, 1, 1, 0, 0, 0, 1, 0, 1, 1, 0, 1, 0, 0, 1, 1, 0, 0, 1, 1, 1, 0, 1]) 5 (tourref2_Wrap.c5p a0 o12 v14 v17 v18) (tourref2_Wrap.c5x o) (tourref2_Wrap.c5n o) (tourref2_Wrap.c5q a0 o12 v14 v17 v18 o) := by
  unfold tourref2_Wrap.c5; exact
   Owp.bif (fun e22 =>
   Owp.some (triple_way (tourref2_Wrap.cok k) hmix [.dec false] [] [(0, 0), (1, 1), (2, 2), (3, 3), (4, 4)] (via (finP (And.intro trivial (congrArg not e22)) .normal [(0, 0), (1, 1), (2, 2), (3, 3), (4, 4)] (tourref2_Wrap.c5q a0 o12 v14 v17 v18 (0 : Int))) (by kernel_rfl)))) (fun e22 =>
   Owp.bnd fun y23 e24 =>
    Owp.some (triple_way (tourref2_Wrap.cok k) hmix [.dec true, .res (.one (.dp T2)) y23] [] [(0, 0), (1, 1), (2, 2), (3, 3), (4, 4)] (via (finP (And.intro (And.intro trivial (congrArg not e22)) e24) .normal [(0, 0), (1, 1), (2, 2), (3, 3), (4, 4)] (tourref2_Wrap.c5q a0 o12 v14 v17 v18 y23)) (by kernel_rfl))))
noncomputable def tourref2_Wrap.c6p (a0 : (List V27)) (o12 : V27) (o25 : Int) (v14 : (List V27)) (v17 : Int) (v18 : V27) : SL := ⟨[(0, (.val T22 a0)), (3, (.val .ptr ⟨0, 0, (0 : Int), 0, 0⟩)), (6, (.val .own (1 : Nat))), (7, (.val .ptr ⟨2, 0, (0 : Int), 0, 0⟩)), (8, (.val .ptr ⟨3, 0, (0 : Int), 0, 0⟩)), (10, (.val .ptr ⟨4, 0, (0 : Int), 0, 0⟩)), (11, (.val T2 o25)), (59, (.val T22 a0)), (60, (.val T2 (len a0))), (61, (.val T2 v17))], [(0, .cells T27 o12), (1, .row T27 v14 28), (2, .cells T27 (el Z27 v14 (isub .i64 (len v14) (1 : Int)))), (3, .cells T27 v18), (4, .cells T27 (el Z27 a0 v17))]⟩
noncomputable def tourref2_Wrap.c6q (a0 : (List V27)) (o12 : V27) (v14 : (List V27)) (v17 : Int) (v18 : V27) (o : Bool) : SL := (fun v => ⟨[(0, (.val T22 a0)), (3, (.val .ptr ⟨0, 0, (0 : Int), 0, 0⟩)), (6, (.val .own (1 : Nat))), (7, (.val .ptr ⟨2, 0, (0 : Int), 0, 0⟩)), (8, (.val .ptr ⟨3, 0, (0 : Int), 0, 0⟩)), (10, (.val .ptr ⟨4, 0, (0 : Int), 0, 0⟩)), (59, (.val T22 a0)), (60, (.val T2 (len a0))), (61, (.val T2 v17)), (103, (.val T4 v))], [(0, .cells T27 o12), (1, .row T27 v14 28), (2, .cells T27 (el Z27 v14 (isub .i64 (len v14) (1 : Int)))), (3, .cells T27 v18), (4, .cells T27 (el Z27 a0 v17))]⟩) o
noncomputable def tourref2_Wrap.c6x (o : Bool) : Ex := (fun _ => .normal) o
noncomputable def tourref2_Wrap.c6n (o : Bool) : Nat := (fun _ => 5) o
theorem tourref2_Wrap.c6_ok (k : Nat) (a0 : (List V27)) (o12 : V27) (o25 : Int) (v14 : (List V27)) (v17 : Int) (v18 : V27) : Owp (tourref2_Wrap.c6 k a0 o25 v14 v17 v18) fun o => Triple PR (tourref2_Wrap.cx k) (sub tourref2_Wrap.code [1, 1, 1, 1, 1, 0, 0, 0, 1, 0, 1, 1, 0, 1, 0, 0, 1, 1, 0, 0, 1, 1, 1, 1, 0]) 5 (tourref2_Wrap.c6p a0 o12 o25 v14 v17 v18) (tourref2_Wrap.c6x o) (tourref2_Wrap.c6n o) (tourref2_Wrap.c6q a0 o12 v14 v17 v18 o) := by
  unfold tourref2_Wrap.c6; exact
   Owp.bif (fun e27 =>
   Owp.some (triple_way (tourref2_Wrap.cok k) hmix [.dec true, .dec true, .dec true, .dec true, .dec true, .dec true, .dec true, .dec true, .dec true, .dec true, .dec true, .dec true, .dec true, .dec true, .dec true, .dec true, .dec true, .dec true, .dec true, .dec true, .dec true, .dec true, .dec true, .dec true, .dec true, .dec true, .dec true, .dec true, .dec true, .dec true, .dec true, .dec true] [] [(0, 0), (1, 1), (2, 2), (3, 3), (4, 4)] (via (finP (And.intro (And.intro (And.intro (And.intro (And.intro (And.intro (And.intro (And.intro trivial e27) e27) e27) tt) tt) tt) tt) tt) .normal [(0, 0), (1, 1), (2, 2), (3, 3), (4, 4)] (tourref2_Wrap.c6q a0 o12 v14 v17 v18 true)) (by kernel_rfl)))) (fun e27 =>
   Owp.bif (fun e28 =>
    Owp.some (triple_way (tourref2_Wrap.cok k) hmix [.dec false, .dec false, .dec false, .dec true, .dec true, .dec true, .dec true, .dec true, .dec true, .dec true, .dec true, .dec true, .dec true, .dec true, .dec true, .dec true, .dec true, .dec true, .dec true, .dec true, .dec true, .dec true, .dec true, .dec true, .dec true, .dec true, .dec true, .dec true, .dec true, .dec true, .dec true, .dec true] [] [(0, 0), (1, 1), (2, 2), (3, 3), (4, 4)] (via (finP (And.intro (And.intro (And.intro (And.intro (And.intro (And.intro (And.intro (And.intro trivial e27) e27) e27) e28) e28) e28) e28) e28) .normal [(0, 0), (1, 1), (2, 2), (3, 3), (4, 4)] (tourref2_Wrap.c6q a0 o12 v14 v17 v18 true)) (by kernel_rfl)))) (fun e28 =>
    Owp.bif (fun e29 =>
     Owp.bnd fun y30 e31 =>
      Owp.bnd fun y32 e33 =>
      Owp.bnd fun y34 e35 =>
      Owp.bnd fun y36 e37 =>
      Owp.bnd fun y38 e39 =>
      Owp.bnd fun y40 e41 =>
      Owp.bnd fun y42 e43 =>
      Owp.some (triple_way (tourref2_Wrap.cok k) hmix [.dec false, .dec false, .dec false, .dec false, .dec false, .dec false, .dec true, .dec true, .dec true, .res (.one (.dp T27)) y30, .dec true, .dec true, .dec true, .res (.one (.dp T27)) y32, .dec true, .res (.one (.dp T141)) y34, .dec true, .dec true, .dec true, .res (.one (.dp T27)) y36, .dec true, .dec true, .dec true, .res (.one (.dp T27)) y38, .dec true, .res (.one (.dp T141)) y40, .dec true, .res (.one (.dp T2)) y42, .dec true, .dec false, .dec true, .dec false] [] [(0, 0), (1, 1), (2, 2), (3, 3), (4, 4)] (via (finP (And.intro (And.intro (And.intro (And.intro (And.intro (And.intro (And.intro (And.intro (And.intro (And.intro (And.intro (And.intro (And.intro (And.intro (And.intro (And.intro (And.intro (And.intro (And.intro (And.intro (And.intro (And.intro (And.intro (And.intro trivial e27) e27) e27) e28) e28) e28) e29) e29) (And.intro e29 e31)) e29) e29) (And.intro e29 e33)) (And.intro e29 e35)) e29) e29) (And.intro e29 e37)) e29) e29) (And.intro e29 e39)) (And.intro e29 e41)) (And.intro e29 e43)) e29) (And.intro e28 e29)) e28) .normal [(0, 0), (1, 1), (2, 2), (3, 3), (4, 4)] (tourref2_Wrap.c6q a0 o12 v14 v17 v18 (igt y42 (0 : Int)))) (by kernel_rfl)))) (fun e29 =>
     Owp.some (triple_way (tourref2_Wrap.cok k) hmix [.dec false, .dec false, .dec false, .dec false, .dec false, .dec false, .dec false, .dec false, .dec false, .dec true, .dec false, .dec false, .dec false, .dec true, .dec false, .dec true, .dec false, .dec false, .dec false, .dec true, .dec false, .dec false, .dec false, .dec true, .dec false, .dec true, .dec false, .dec true, .dec false, .dec false, .dec false, .dec false] [] [(0, 0), (1, 1), (2, 2), (3, 3), (4, 4)] (via (finP (And.intro (And.intro (And.intro (And.intro (And.intro (And.intro (And.intro (And.intro (And.intro (And.intro (And.intro (And.intro (And.intro (And.intro (And.intro (And.intro (And.intro (And.intro (And.intro (And.intro (And.intro (And.intro (And.intro (And.intro trivial e27) e27) e27) e28) e28) e28) e29) e29) e29) e29) e29) e29) e29) e29) e29) e29) e29) e29) e29) e29) e29) e29) (And.intro e28 e29)) e28) .normal [(0, 0), (1, 1), (2, 2), (3, 3), (4, 4)] (tourref2_Wrap.c6q a0 o12 v14 v17 v18 false)) (by kernel_rfl))))))
noncomputable def tourref2_Wrap.c4p (a0 : (List V27)) (o12 : V27) (v14 : (List V27)) (v17 : Int) (v18 : V27) : SL := ⟨[(0, (.val T22 a0)), (3, (.val .ptr ⟨0, 0, (0 : Int), 0, 0⟩)), (6, (.val .own (1 : Nat))), (7, (.val .ptr ⟨2, 0, (0 : Int), 0, 0⟩)), (8, (.val .ptr ⟨3, 0, (0 : Int), 0, 0⟩)), (59, (.val T22 a0)), (60, (.val T2 (len a0))), (61, (.val T2 v17))], [(0, .cells T27 o12), (1, .row T27 v14 28), (2, .cells T27 (el Z27 v14 (isub .i64 (len v14) (1 : Int)))), (3, .cells T27 v18)]⟩
noncomputable def tourref2_Wrap.c4q (a0 : (List V27)) (o12 : V27) (v14 : (List V27)) (o : V27) : SL := (fun v => ⟨[(0, (.val T22 a0)), (3, (.val .ptr ⟨0, 0, (0 : Int), 0, 0⟩)), (6, (.val .own (1 : Nat))), (7, (.val .ptr ⟨2, 0, (0 : Int), 0, 0⟩)), (8, (.val .ptr ⟨3, 0, (0 : Int), 0, 0⟩))], [(0, .cells T27 o12), (1, .row T27 v14 28), (2, .cells T27 (el Z27 v14 (isub .i64 (len v14) (1 : Int)))), (3, .cells T27 v)]⟩) o
noncomputable def tourref2_Wrap.c4x (o : V27) : Ex := (fun _ => (.exit 4)) o
noncomputable def tourref2_Wrap.c4n (o : V27) : Nat := (fun _ => 4) o
theorem tourref2_Wrap.c4_ok (k : Nat) (a0 : (List V27)) (o12 : V27) (v14 : (List V27)) : ∀ (n : Nat) (v17 : Int) (v18 : V27), Owp (tourref2_Wrap.c4 k a0 v14 n v17 v18) fun o => LTriple PR (tourref2_Wrap.cx k) (sub tourref2_Wrap.code [1, 1, 1, 1, 1, 0, 0, 0, 1, 0, 1, 1, 0, 1, 0, 0]) 4 (tourref2_Wrap.c4p a0 o12 v14 v17 v18) (tourref2_Wrap.c4x o) (tourref2_Wrap.c4n o) (tourref2_Wrap.c4q a0 o12 v14 o)
  | 0, _, _ => fun _ h => nomatch h
  | n + 1, v17, v18 => Owp.of (tourref2_Wrap.c4.eq_2 ..) (
   Owp.bif (fun e19 =>
   Owp.req fun h20 =>
    Owp.bif (fun e21 =>
    fun y hy => loop_back (tourref2_Wrap.cok k) hmix 4 (tourref2_Wrap.c4p a0 o12 v14 (iadd .i64 v17 (1 : Int)) v18) [.dec true, .dec true] [] [(0, 0), (1, 1), (2, 2), (3, 3)] (via (finP (And.intro (And.intro (And.intro trivial e19) h20) e21) .normal [(0, 0), (1, 1), (2, 2), (3, 3)] (tourref2_Wrap.c4p a0 o12 v14 (iadd .i64 v17 (1 : Int)) v18)) (by kernel_rfl)) ((tourref2_Wrap.c4_ok k a0 o12 v14 n (iadd .i64 v17 (1 : Int)) v18).ap hy)) (fun e21 =>
    Owp.bnd fun o25 e26 =>
     Owp.bnd fun o44 e45 =>
     Owp.bif (fun e46 =>
     fun y hy => loop_back (tourref2_Wrap.cok k) hmix 4 (tourref2_Wrap.c4p a0 o12 v14 (iadd .i64 v17 (1 : Int)) (el Z27 a0 v17)) [.dec true, .dec false, .cut ⟨[], [(0, 0), (1, 1), (2, 2), (3, 3), (4, 7)], (tourref2_Wrap.c5p a0 o12 v14 v17 v18), 5, .normal, (tourref2_Wrap.c5q a0 o12 v14 v17 v18 o25), 5⟩, .cutR 21 ⟨[], [(0, 0), (1, 1), (2, 2), (3, 3), (4, 4)], (tourref2_Wrap.c6p a0 o12 o25 v14 v17 v18), 5, .normal, (tourref2_Wrap.c6q a0 o12 v14 v17 v18 o44), 5⟩, .dec true] [] [(0, 0), (1, 1), (2, 2), (3, 3)] (via (cutP (And.intro (And.intro (And.intro trivial e19) h20) e21) [(0, 0), (1, 1), (2, 2), (3, 3), (4, 7)] (tourref2_Wrap.c5p a0 o12 v14 v17 v18) (((tourref2_Wrap.c5_ok k a0 o12 v14 v17 v18).ap e26)) (cutP trivial [(0, 0), (1, 1), (2, 2), (3, 3), (4, 4)] (tourref2_Wrap.c6p a0 o12 o25 v14 v17 v18) (((tourref2_Wrap.c6_ok k a0 o12 o25 v14 v17 v18).ap e45)) (finP (And.intro trivial e46) .normal [(0, 0), (1, 1), (2, 2), (3, 3)] (tourref2_Wrap.c4p a0 o12 v14 (iadd .i64 v17 (1 : Int)) (el Z27 a0 v17))))) (by kernel_rfl)) ((tourref2_Wrap.c4_ok k a0 o12 v14 n (iadd .i64 v17 (1 : Int)) (el Z27 a0 v17)).ap hy)) (fun e46 =>
     fun y hy => loop_back (tourref2_Wrap.cok k) hmix 4 (tourref2_Wrap.c4p a0 o12 v14 (iadd .i64 v17 (1 : Int)) v18) [.dec true, .dec false, .cut ⟨[], [(0, 0), (1, 1), (2, 2), (3, 3), (4, 7)], (tourref2_Wrap.c5p a0 o12 v14 v17 v18), 5, .normal, (tourref2_Wrap.c5q a0 o12 v14 v17 v18 o25), 5⟩, .cutR 21 ⟨[], [(0, 0), (1, 1), (2, 2), (3, 3), (4, 4)], (tourref2_Wrap.c6p a0 o12 o25 v14 v17 v18), 5, .normal, (tourref2_Wrap.c6q a0 o12 v14 v17 v18 o44), 5⟩, .dec false] [] [(0, 0), (1, 1), (2, 2), (3, 3)] (via (cutP (And.intro (And.intro (And.intro trivial e19) h20) e21) [(0, 0), (1, 1), (2, 2), (3, 3), (4, 7)] (tourref2_Wrap.c5p a0 o12 v14 v17 v18) (((tourref2_Wrap.c5_ok k a0 o12 v14 v17 v18).ap e26)) (cutP trivial [(0, 0), (1, 1), (2, 2), (3, 3), (4, 4)] (tourref2_Wrap.c6p a0 o12 o25 v14 v17 v18) (((tourref2_Wrap.c6_ok k a0 o12 o25 v14 v17 v18).ap e45)) (finP (And.intro trivial e46) .normal [(0, 0), (1, 1), (2, 2), (3, 3)] (tourref2_Wrap.c4p a0 o12 v14 (iadd .i64 v17 (1 : Int)) v18)))) (by kernel_rfl)) ((tourref2_Wrap.c4_ok k a0 o12 v14 n (iadd .i64 v17 (1 : Int)) v18).ap hy)))) (fun e19 =>
   Owp.some (loop_exit (tourref2_Wrap.cok k) hmix [.dec false] [] [(0, 0), (1, 1), (2, 2), (3, 3)] (exne 4) (via (finP (And.intro trivial e19) (.exit 4) [(0, 0), (1, 1), (2, 2), (3, 3)] (tourref2_Wrap.c4q a0 o12 v14 v18)) (by kernel_rfl)))))
noncomputable def tourref2_Wrap.c7p (a0 : (List V27)) (o12 : V27) (o47 : V27) (v14 : (List V27)) : SL := ⟨[(0, (.val T22 a0)), (3, (.val .ptr ⟨0, 0, (0 : Int), 0, 0⟩)), (6, (.val .own (1 : Nat))), (7, (.val .ptr ⟨2, 0, (0 : Int), 0, 0⟩)), (8, (.val .ptr ⟨3, 0, (0 : Int), 0, 0⟩))], [(0, .cells T27 o12), (1, .row T27 v14 28), (2, .cells T27 (el Z27 v14 (isub .i64 (len v14) (1 : Int)))), (3, .cells T27 o47)]⟩
noncomputable def tourref2_Wrap.c7q (a0 : (List V27)) (o12 : V27) (o47 : V27) (v14 : (List V27)) (o : Bool) : SL := (fun v => ⟨[(0, (.val T22 a0)), (3, (.val .ptr ⟨0, 0, (0 : Int), 0, 0⟩)), (6, (.val .own (1 : Nat))), (8, (.val .ptr ⟨2, 0, (0 : Int), 0, 0⟩)), (113, (.val T4 v))], [(0, .cells T27 o12), (1, .row T27 v14 28), (2, .cells T27 o47)]⟩) o
noncomputable def tourref2_Wrap.c7x (o : Bool) : Ex := (fun _ => .normal) o
noncomputable def tourref2_Wrap.c7n (o : Bool) : Nat := (fun _ => 3) o
theorem tourref2_Wrap.c7_ok (k : Nat) (a0 : (List V27)) (o12 : V27) (o47 : V27) (v14 : (List V27)) : Owp (tourref2_Wrap.c7 k o12 o47 v14) fun o => Triple PR (tourref2_Wrap.cx k) (sub tourref2_Wrap.code [1, 1, 1, 1, 1, 0, 0, 0, 1, 0, 1, 1, 1, 0, 0]) 4 (tourref2_Wrap.c7p a0 o12 o47 v14) (tourref2_Wrap.c7x o) (tourref2_Wrap.c7n o) (tourref2_Wrap.c7q a0 o12 o47 v14 o) := by
  unfold tourref2_Wrap.c7; exact
   Owp.bif (fun e49 =>
   Owp.some (triple_way (tourref2_Wrap.cok k) hmix [.dec true, .dec true, .dec true, .dec true] [] [(0, 0), (1, 1), (2, 3)] (via (finP (And.intro (And.intro (And.intro (And.intro trivial e49) e49) e49) e49) .normal [(0, 0), (1, 1), (2, 3)] (tourref2_Wrap.c7q a0 o12 o47 v14 true)) (by kernel_rfl)))) (fun e49 =>
   Owp.some (triple_way (tourref2_Wrap.cok k) hmix [.dec false, .dec false, .dec false, .dec false] [] [(0, 0), (1, 1), (2, 3)] (via (finP (And.intro (And.intro (And.intro (And.intro trivial e49) e49) e49) e49) .normal [(0, 0), (1, 1), (2, 3)] (tourref2_Wrap.c7q a0 o12 o47 v14 (Ty.eqb T27 o47 (el Z27 v14 (isub .i64 (len v14) (1 : Int)))))) (by kernel_rfl))))
noncomputable def tourref2_Wrap.c3p (a0 : (List V27)) (o12 : V27) (v14 : (List V27)) : SL := ⟨[(0, (.val T22 a0)), (3, (.val .ptr ⟨0, 0, (0 : Int), 0, 0⟩)), (6, (.val .own (1 : Nat)))], [(0, .cells T27 o12), (1, .row T27 v14 28)]⟩
noncomputable def tourref2_Wrap.c3q (o : (List V27)) : SL := (fun v => ⟨[(6, (.val .own (0 : Nat)))], [(0, .row T27 v 28)]⟩) o
noncomputable def tourref2_Wrap.c3x (o : (List V27)) : Ex := (fun _ => (.exit 2)) o
noncomputable def tourref2_Wrap.c3n (o : (List V27)) : Nat := (fun _ => 1) o
theorem tourref2_Wrap.c3_ok (k : Nat) (a0 : (List V27)) (o12 : V27) : ∀ (n : Nat) (v14 : (List V27)), Owp (tourref2_Wrap.c3 k a0 o12 n v14) fun o => LTriple PR (tourref2_Wrap.cx k) (sub tourref2_Wrap.code [1, 1, 1, 1, 1, 0, 0, 0]) 2 (tourref2_Wrap.c3p a0 o12 v14) (tourref2_Wrap.c3x o) (tourref2_Wrap.c3n o) (tourref2_Wrap.c3q o)
  | 0, _ => fun _ h => nomatch h
  | n + 1, v14 => Owp.of (tourref2_Wrap.c3.eq_2 ..) (
   Owp.bif (fun e15 =>
   Owp.req fun h16 =>
    Owp.bnd fun o47 e48 =>
    Owp.bnd fun o50 e51 =>
    Owp.bif (fun e52 =>
    Owp.some (loop_exit (tourref2_Wrap.cok k) hmix [.dec true, .cut ⟨[], [(0, 0), (1, 1), (2, 13), (3, 16)], (tourref2_Wrap.c4p a0 o12 v14 (0 : Int) (el Z27 v14 (isub .i64 (len v14) (1 : Int)))), 4, (.exit 4), (tourref2_Wrap.c4q a0 o12 v14 o47), 4⟩, .cutR 24 ⟨[], [(0, 0), (1, 1), (2, 2), (3, 3)], (tourref2_Wrap.c7p a0 o12 o47 v14), 4, .normal, (tourref2_Wrap.c7q a0 o12 o47 v14 o50), 3⟩, .dec true] [] [(0, 1)] (exne 2) (via (cutP (And.intro (And.intro (And.intro trivial e15) h16) h16) [(0, 0), (1, 1), (2, 13), (3, 16)] (tourref2_Wrap.c4p a0 o12 v14 (0 : Int) (el Z27 v14 (isub .i64 (len v14) (1 : Int)))) (((tourref2_Wrap.c4_ok k a0 o12 v14 k (0 : Int) (el Z27 v14 (isub .i64 (len v14) (1 : Int)))).ap e48).triple) (cutP trivial [(0, 0), (1, 1), (2, 2), (3, 3)] (tourref2_Wrap.c7p a0 o12 o47 v14) (((tourref2_Wrap.c7_ok k a0 o12 o47 v14).ap e51)) (finP (And.intro trivial e52) (.exit 2) [(0, 1)] (tourref2_Wrap.c3q v14)))) (by kernel_rfl)))) (fun e52 =>
    Owp.req fun h53 =>
     fun y hy => loop_back (tourref2_Wrap.cok k) hmix 2 (tourref2_Wrap.c3p a0 o12 (v14 ++ [o47])) [.dec true, .cut ⟨[], [(0, 0), (1, 1), (2, 13), (3, 16)], (tourref2_Wrap.c4p a0 o12 v14 (0 : Int) (el Z27 v14 (isub .i64 (len v14) (1 : Int)))), 4, (.exit 4), (tourref2_Wrap.c4q a0 o12 v14 o47), 4⟩, .cutR 24 ⟨[], [(0, 0), (1, 1), (2, 2), (3, 3)], (tourref2_Wrap.c7p a0 o12 o47 v14), 4, .normal, (tourref2_Wrap.c7q a0 o12 o47 v14 o50), 3⟩, .dec false, .dec true] [] [(0, 0), (1, 6)] (via (cutP (And.intro (And.intro (And.intro trivial e15) h16) h16) [(0, 0), (1, 1), (2, 13), (3, 16)] (tourref2_Wrap.c4p a0 o12 v14 (0 : Int) (el Z27 v14 (isub .i64 (len v14) (1 : Int)))) (((tourref2_Wrap.c4_ok k a0 o12 v14 k (0 : Int) (el Z27 v14 (isub .i64 (len v14) (1 : Int)))).ap e48).triple) (cutP trivial [(0, 0), (1, 1), (2, 2), (3, 3)] (tourref2_Wrap.c7p a0 o12 o47 v14) (((tourref2_Wrap.c7_ok k a0 o12 o47 v14).ap e51)) (finP (And.intro (And.intro trivial e52) h53) .normal [(0, 0), (1, 6)] (tourref2_Wrap.c3p a0 o12 (v14 ++ [o47]))))) (by kernel_rfl)) ((tourref2_Wrap.c3_ok k a0 o12 n (v14 ++ [o47])).ap hy))) (fun e15 =>
   Owp.some (loop_exit (tourref2_Wrap.cok k) hmix [.dec false] [] [(0, 1)] (exne 2) (via (finP (And.intro trivial e15) (.exit 2) [(0, 1)] (tourref2_Wrap.c3q v14)) (by kernel_rfl)))))
theorem tourref2_Wrap.way (k : Nat) (a0 : (List V27)) : Owp (tourref2_Wrap k a0) fun y => ∃ answers cmds, exec PR (tourref2_Wrap.cx k) tourref2_Wrap.code 0 (entry (.pair T22 .unit) (a0, ())).st answers (Ret (tourref2_Wrap.cx k) Try.f95 cmds (.one (.ow T27 28)) y) := by
  unfold tourref2_Wrap; exact
   Owp.bif (fun e1 =>
   Owp.some (⟨[.dec true], [.own 2 T27 28], via (retP (And.intro trivial e1) (.one (.ow T27 28)) ([] : (List V27))) (by kernel_rfl)⟩)) (fun e1 =>
   Owp.req fun h2 =>
    Owp.bnd fun o12 e13 =>
    Owp.bnd fun o54 e55 =>
    Owp.some (⟨[.dec false, .cut ⟨[], [(0, 7)], (tourref2_Wrap.c1p a0 (0 : Int) (el Z27 a0 (0 : Int))), 1, (.exit 0), (tourref2_Wrap.c1q a0 o12), 1⟩, .dec true, .cut ⟨[], [(0, 0), (1, 2)], (tourref2_Wrap.c3p a0 o12 [o12]), 2, (.exit 2), (tourref2_Wrap.c3q o54), 1⟩], [], via (cutP (And.intro (And.intro trivial e1) h2) [(0, 7)] (tourref2_Wrap.c1p a0 (0 : Int) (el Z27 a0 (0 : Int))) (((tourref2_Wrap.c1_ok k a0 k (0 : Int) (el Z27 a0 (0 : Int))).ap e13).triple) (cutP trivial [(0, 0), (1, 2)] (tourref2_Wrap.c3p a0 o12 [o12]) (((tourref2_Wrap.c3_ok k a0 o12 k [o12]).ap e55).triple) (retP trivial (.one (.ow T27 28)) (o54 : (List V27))))) (by kernel_rfl)⟩))
theorem tourref2_Wrap.ok (k : Nat) : FnOk PR 95 (tourref2_Wrap.sp k) :=
  fn_ok (tourref2_Wrap.cok k) hmix Try.func95 (code := tourref2_Wrap.code) (by kernel_rfl) (by kernel_rfl) (by kernel_rfl) rfl rfl (by kernel_rfl) (by kernel_rfl) (by kernel_rfl) (fun x => Nat.le_of_ble_eq_true (by kernel_rfl)) fun x y hy => (tourref2_Wrap.way k x.1).ap hy

/-! tourney/tourref2.Hull -/
noncomputable def tourref2_Hull.code : Code := Func.cd Try.f17
noncomputable def tourref2_Hull (k : Nat) (a0 : (List V27)) : Option ((List V27) × Int) :=
  bif' (igt (len a0) 64)
  (some ([], 2))
  (bnd (slices_ContainsFunc k a0 (fun x : (V27 × Unit) => tourref2_Hull_1 k (x.1))) fun y2 =>
   bif' y2
   (some ([], 1))
   (bnd (tourref2_Wrap k a0) fun y5 =>
    bif' (ilt (len y5) 3)
    (some ([], 3))
    (bif' (igt (len y5) 8)
     (some ([], 6))
     (some (y5, 0)))))
noncomputable def tourref2_Hull.sp (k : Nat) : Go.Sx.Spec := ⟨(.pair T22 .unit), (.more (.ow T27 28) (.one (.dp T2))), fun x => tourref2_Hull k x.1, false⟩
noncomputable def tourref2_Hull.cx (k : Nat) : Go.Sx.Ctx := ⟨tys, [(23, slices_ContainsFunc.sp k), (93, tourref2_Hull_1.sp k), (95, tourref2_Wrap.sp k)], eqs, 19, 0, [], false⟩
theorem tourref2_Hull.cok (k : Nat) : CtxOk PR (tourref2_Hull.cx k) := ctx_ok tysOk eqsOk (FnsOk.cons (slices_ContainsFunc.ok k) (FnsOk.cons (tourref2_Hull_1.ok k) (FnsOk.cons (tourref2_Wrap.ok k) FnsOk.nil))) HsOk.nil
theorem tourref2_Hull.way (k : Nat) (a0 : (List V27)) : Owp (tourref2_Hull k a0) fun y => ∃ answers cmds, exec PR (tourref2_Hull.cx k) tourref2_Hull.code 0 (entry (.pair T22 .unit) (a0, ())).st answers (Ret (tourref2_Hull.cx k) Try.f17 cmds (.more (.ow T27 28) (.one (.dp T2))) y) := by
  unfold tourref2_Hull; exact
   Owp.bif (fun e1 =>
   Owp.some (⟨[.dec true], [.own 2 T27 28], via (retP (And.intro trivial e1) (.more (.ow T27 28) (.one (.dp T2))) (([], (2 : Int)) : ((List V27) × Int))) (by kernel_rfl)⟩)) (fun e1 =>
   Owp.bnd fun y2 e3 =>
    Owp.bif (fun e4 =>
    Owp.some (⟨[.dec false, .res (.one (.dp T4)) y2, .dec true], [.own 2 T27 28], via (retP (And.intro (And.intro (And.intro trivial e1) e3) e4) (.more (.ow T27 28) (.one (.dp T2))) (([], (1 : Int)) : ((List V27) × Int))) (by kernel_rfl)⟩)) (fun e4 =>
    Owp.bnd fun y5 e6 =>
     Owp.bif (fun e7 =>
     Owp.some (⟨[.dec false, .res (.one (.dp T4)) y2, .dec false, .res (.one (.ow T27 28)) y5, .dec true], [.own 2 T27 28], via (retP (And.intro (And.intro (And.intro (And.intro (And.intro trivial e1) e3) e4) e6) e7) (.more (.ow T27 28) (.one (.dp T2))) (([], (3 : Int)) : ((List V27) × Int))) (by kernel_rfl)⟩)) (fun e7 =>
     Owp.bif (fun e8 =>
      Owp.some (⟨[.dec false, .res (.one (.dp T4)) y2, .dec false, .res (.one (.ow T27 28)) y5, .dec false, .dec true], [.own 2 T27 28], via (retP (And.intro (And.intro (And.intro (And.intro (And.intro (And.intro trivial e1) e3) e4) e6) e7) e8) (.more (.ow T27 28) (.one (.dp T2))) (([], (6 : Int)) : ((List V27) × Int))) (by kernel_rfl)⟩)) (fun e8 =>
      Owp.some (⟨[.dec false, .res (.one (.dp T4)) y2, .dec false, .res (.one (.ow T27 28)) y5, .dec false, .dec false], [], via (retP (And.intro (And.intro (And.intro (And.intro (And.intro (And.intro trivial e1) e3) e4) e6) e7) e8) (.more (.ow T27 28) (.one (.dp T2))) ((y5, (0 : Int)) : ((List V27) × Int))) (by kernel_rfl)⟩)))))
theorem tourref2_Hull.ok (k : Nat) : FnOk PR 17 (tourref2_Hull.sp k) :=
  fn_ok (tourref2_Hull.cok k) hmix Try.func17 (code := tourref2_Hull.code) (by kernel_rfl) (by kernel_rfl) (by kernel_rfl) rfl rfl (by kernel_rfl) (by kernel_rfl) (by kernel_rfl) (fun x => Nat.le_of_ble_eq_true (by kernel_rfl)) fun x y hy => (tourref2_Hull.way k x.1).ap hy

end Go.Proofs.T1
