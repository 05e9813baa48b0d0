import Derived.Test.YtabllngnpponiaaG0
namespace Go.Proofs.T1
open Go Go.Sx Go.Proofs
set_option maxRecDepth 100000
set_option linter.unusedVariables false
/-! tourney/tourmake.Below -/
noncomputable def tourmake_Below.code : Code := Func.cd Try.f61
def tourmake_Below (k : Nat) (a0 : Int) (a1 : Int) : Option Int :=
  req (nz a1) <|
  bif' (ilt (irem a0 a1) 0)
  (some (iadd .i64 (irem a0 a1) a1))
  (some (irem a0 a1))
noncomputable def tourmake_Below.sp (k : Nat) : Go.Sx.Spec := ⟨T27, (.one (.dp T2)), fun x => tourmake_Below k x.1 x.2.1, false⟩
noncomputable def tourmake_Below.cx (k : Nat) : Go.Sx.Ctx := ⟨tys, [], eqs, 14, 0, [], false⟩
theorem tourmake_Below.cok (k : Nat) : CtxOk PR (tourmake_Below.cx k) := ctx_ok tysOk eqsOk FnsOk.nil HsOk.nil
theorem tourmake_Below.way (k : Nat) (a0 : Int) (a1 : Int) : Owp (tourmake_Below k a0 a1) fun y => ∃ answers cmds, exec PR (tourmake_Below.cx k) tourmake_Below.code 0 (entry T27 (a0, a1, ())).st answers (Ret (tourmake_Below.cx k) Try.f61 cmds (.one (.dp T2)) y) := by
  unfold tourmake_Below; exact
   Owp.req fun h1 =>
   Owp.bif (fun e2 =>
   Owp.some (⟨[.dec true], [], via (retP (And.intro (And.intro trivial h1) e2) (.one (.dp T2)) ((iadd .i64 (irem a0 a1) a1) : Int)) (by kernel_rfl)⟩)) (fun e2 =>
   Owp.some (⟨[.dec false], [], via (retP (And.intro (And.intro trivial h1) e2) (.one (.dp T2)) ((irem a0 a1) : Int)) (by kernel_rfl)⟩))
theorem tourmake_Below.ok (k : Nat) : FnOk PR 61 (tourmake_Below.sp k) :=
  fn_ok (tourmake_Below.cok k) hmix Try.func61 (code := tourmake_Below.code) (by kernel_rfl) (by kernel_rfl) (by kernel_rfl) rfl rfl (by kernel_rfl) (by kernel_rfl) (by kernel_rfl) (fun x => Nat.le_of_ble_eq_true (by kernel_rfl)) fun x y hy => (tourmake_Below.way k x.1 x.2.1).ap hy

/-! tourney/tourkeep2.place -/
noncomputable def tourkeep2_place.code : Code := Func.cd Try.f23
def tourkeep2_place (k : Nat) (a0 : Int) (a1 : Int) : Option V27 :=
  bnd (tourmake_Below k a0 1572864) fun y1 =>
  bnd (tourmake_Below k a1 1572864) fun y3 =>
  some ((isub .i64 y1 786432), (isub .i64 y3 786432), ())
noncomputable def tourkeep2_place.sp (k : Nat) : Go.Sx.Spec := ⟨T27, (.one (.dp T27)), fun x => tourkeep2_place k x.1 x.2.1, false⟩
noncomputable def tourkeep2_place.cx (k : Nat) : Go.Sx.Ctx := ⟨tys, [(61, tourmake_Below.sp k)], eqs, 12, 0, [], false⟩
theorem tourkeep2_place.cok (k : Nat) : CtxOk PR (tourkeep2_place.cx k) := ctx_ok tysOk eqsOk (FnsOk.cons (tourmake_Below.ok k) FnsOk.nil) HsOk.nil
theorem tourkeep2_place.way (k : Nat) (a0 : Int) (a1 : Int) : Owp (tourkeep2_place k a0 a1) fun y => ∃ answers cmds, exec PR (tourkeep2_place.cx k) tourkeep2_place.code 0 (entry T27 (a0, a1, ())).st answers (Ret (tourkeep2_place.cx k) Try.f23 cmds (.one (.dp T27)) y) := by
  unfold tourkeep2_place; exact
   Owp.bnd fun y1 e2 =>
   Owp.bnd fun y3 e4 =>
   Owp.some (⟨[.res (.one (.dp T2)) y1, .res (.one (.dp T2)) y3], [], via (retP (And.intro (And.intro trivial e2) e4) (.one (.dp T27)) (((isub .i64 y1 (786432 : Int)), (isub .i64 y3 (786432 : Int)), ()) : V27)) (by kernel_rfl)⟩)
theorem tourkeep2_place.ok (k : Nat) : FnOk PR 23 (tourkeep2_place.sp k) :=
  fn_ok (tourkeep2_place.cok k) hmix Try.func23 (code := tourkeep2_place.code) (by kernel_rfl) (by kernel_rfl) (by kernel_rfl) rfl rfl (by kernel_rfl) (by kernel_rfl) (by kernel_rfl) (fun x => Nat.le_of_ble_eq_true (by kernel_rfl)) fun x y hy => (tourkeep2_place.way k x.1 x.2.1).ap hy

/-! tourney/tourkeep2.moved -/
noncomputable def tourkeep2_moved.code : Code := Func.cd Try.f47
def tourkeep2_moved.c1 (k : Nat) (a0 : (List V27)) (a1 : V27) : Nat → Int → (List V27) → Option ((List V27))
  | 0, _, _ => none
  | n + 1, v1, v2 =>
   bif' (ilt v1 (len a0))
   (req (inL v1 a0) <|
    req (room 16 v2 [((iadd .i64 (el Z27 a0 v1).1 a1.1), (iadd .i64 (el Z27 a0 v1).2.1 a1.2.1), ())]) <|
    tourkeep2_moved.c1 k a0 a1 n (iadd .i64 v1 1) (v2 ++ [((iadd .i64 (el Z27 a0 v1).1 a1.1), (iadd .i64 (el Z27 a0 v1).2.1 a1.2.1), ())]))
   (some v2)
def tourkeep2_moved (k : Nat) (a0 : (List V27)) (a1 : V27) : Option (List V27) :=
  bnd (tourkeep2_moved.c1 k a0 a1 k 0 []) fun o6 =>
  some o6
noncomputable def tourkeep2_moved.sp (k : Nat) : Go.Sx.Spec := ⟨(.pair T22 (.pair T27 .unit)), (.one (.ow T27 28)), fun x => tourkeep2_moved k x.1 x.2.1, false⟩
noncomputable def tourkeep2_moved.cx (k : Nat) : Go.Sx.Ctx := ⟨tys, [], eqs, 30, 0, [], false⟩
theorem tourkeep2_moved.cok (k : Nat) : CtxOk PR (tourkeep2_moved.cx k) := ctx_ok tysOk eqsOk FnsOk.nil HsOk.nil
noncomputable def tourkeep2_moved.c1p (a0 : (List V27)) (a1 : V27) (v1 : Int) (v2 : (List V27)) : SL := ⟨[(3, (.val .ptr ⟨0, 0, (0 : Int), 0, 0⟩)), (5, (.val .own (1 : Nat))), (8, (.val T22 a0)), (9, (.val T2 (len a0))), (10, (.val T2 v1))], [(0, .cells T27 a1), (1, .row T27 v2 28)]⟩
noncomputable def tourkeep2_moved.c1q (o : (List V27)) : SL := (fun v => ⟨[(5, (.val .own (0 : Nat)))], [(0, .row T27 v 28)]⟩) o
noncomputable def tourkeep2_moved.c1x (o : (List V27)) : Ex := (fun _ => (.exit 0)) o
noncomputable def tourkeep2_moved.c1n (o : (List V27)) : Nat := (fun _ => 1) o
theorem tourkeep2_moved.c1_ok (k : Nat) (a0 : (List V27)) (a1 : V27) : ∀ (n : Nat) (v1 : Int) (v2 : (List V27)), Owp (tourkeep2_moved.c1 k a0 a1 n v1 v2) fun o => LTriple PR (tourkeep2_moved.cx k) (sub tourkeep2_moved.code [1, 1, 0, 1, 0, 0]) 2 (tourkeep2_moved.c1p a0 a1 v1 v2) (tourkeep2_moved.c1x o) (tourkeep2_moved.c1n o) (tourkeep2_moved.c1q o)
  | 0, _, _ => fun _ h => nomatch h
  | n + 1, v1, v2 => Owp.of (tourkeep2_moved.c1.eq_2 ..) (
   Owp.bif (fun e3 =>
   Owp.req fun h4 =>
    Owp.req fun h5 =>
    fun y hy => loop_back (tourkeep2_moved.cok k) hmix 2 (tourkeep2_moved.c1p a0 a1 (iadd .i64 v1 (1 : Int)) (v2 ++ [((iadd .i64 (el Z27 a0 v1).1 a1.1), (iadd .i64 (el Z27 a0 v1).2.1 a1.2.1), ())])) [.dec true, .dec true] [] [(0, 0), (1, 20)] (via (finP (And.intro (And.intro (And.intro trivial e3) h4) h5) .normal [(0, 0), (1, 20)] (tourkeep2_moved.c1p a0 a1 (iadd .i64 v1 (1 : Int)) (v2 ++ [((iadd .i64 (el Z27 a0 v1).1 a1.1), (iadd .i64 (el Z27 a0 v1).2.1 a1.2.1), ())]))) (by kernel_rfl)) ((tourkeep2_moved.c1_ok k a0 a1 n (iadd .i64 v1 (1 : Int)) (v2 ++ [((iadd .i64 (el Z27 a0 v1).1 a1.1), (iadd .i64 (el Z27 a0 v1).2.1 a1.2.1), ())])).ap hy)) (fun e3 =>
   Owp.some (loop_exit (tourkeep2_moved.cok k) hmix [.dec false] [] [(0, 1)] (exne 0) (via (finP (And.intro trivial e3) (.exit 0) [(0, 1)] (tourkeep2_moved.c1q v2)) (by kernel_rfl)))))
theorem tourkeep2_moved.way (k : Nat) (a0 : (List V27)) (a1 : V27) : Owp (tourkeep2_moved k a0 a1) fun y => ∃ answers cmds, exec PR (tourkeep2_moved.cx k) tourkeep2_moved.code 0 (entry (.pair T22 (.pair T27 .unit)) (a0, a1, ())).st answers (Ret (tourkeep2_moved.cx k) Try.f47 cmds (.one (.ow T27 28)) y) := by
  unfold tourkeep2_moved; exact
   Owp.bnd fun o6 e7 =>
   Owp.some (⟨[.cut ⟨[.own 5 T27 28], [(0, 0), (1, 6)], (tourkeep2_moved.c1p a0 a1 (0 : Int) []), 2, (.exit 0), (tourkeep2_moved.c1q o6), 1⟩], [], via (cutP trivial [(0, 0), (1, 6)] (tourkeep2_moved.c1p a0 a1 (0 : Int) []) (((tourkeep2_moved.c1_ok k a0 a1 k (0 : Int) []).ap e7).triple) (retP trivial (.one (.ow T27 28)) (o6 : (List V27)))) (by kernel_rfl)⟩)
theorem tourkeep2_moved.ok (k : Nat) : FnOk PR 47 (tourkeep2_moved.sp k) :=
  fn_ok (tourkeep2_moved.cok k) hmix Try.func47 (code := tourkeep2_moved.code) (by kernel_rfl) (by kernel_rfl) (by kernel_rfl) rfl rfl (by kernel_rfl) (by kernel_rfl) (by kernel_rfl) (fun x => Nat.le_of_ble_eq_true (by kernel_rfl)) fun x y hy => (tourkeep2_moved.way k x.1 x.2.1).ap hy

/-! (*tourney/tourmake.Stream).Next -/
noncomputable def tourmake_Stream_Next.code : Code := Func.cd Try.f96
def tourmake_Stream_Next.c1 (k : Nat) (a0 : ((List Int) × Unit)) (a1 : Int) : Option (Bool) :=
  bif' (ieq (len a0.1) 0)
  (some true)
  (some (ilt a1 1))
def tourmake_Stream_Next (k : Nat) (a0 : ((List Int) × Unit)) (a1 : Int) : Option (((List Int) × Unit) × Int) :=
  bnd (tourmake_Stream_Next.c1 k a0 a1) fun o2 =>
  bif' o2
  (some (a0, 0))
  (req (inL 0 a0.1) <|
   req (cutOk a0.1 1 (List.length a0.1 : Int)) <|
   bnd (tourmake_Below k (el 0 a0.1 0) a1) fun y7 =>
   some (((cut a0.1 1 (List.length a0.1 : Int)), ()), y7))
noncomputable def tourmake_Stream_Next.sp (k : Nat) : Go.Sx.Spec := ⟨(.pair (.ref (.pair T31 .unit)) (.pair T2 .unit)), (.more (.dp (.pair T31 .unit)) (.one (.dp T2))), fun x => tourmake_Stream_Next k x.1 x.2.1, true⟩
noncomputable def tourmake_Stream_Next.cx (k : Nat) : Go.Sx.Ctx := ⟨tys, [(61, tourmake_Below.sp k)], eqs, 33, 1, [], false⟩
theorem tourmake_Stream_Next.cok (k : Nat) : CtxOk PR (tourmake_Stream_Next.cx k) := ctx_ok tysOk eqsOk (FnsOk.cons (tourmake_Below.ok k) FnsOk.nil) HsOk.nil
noncomputable def tourmake_Stream_Next.c1p (a0 : ((List Int) × Unit)) (a1 : Int) : SL := ⟨[(0, (.val .ptr ⟨0, 0, (0 : Int), 0, 0⟩)), (1, (.val T2 a1))], [(0, .cells (.pair T31 .unit) a0)]⟩
noncomputable def tourmake_Stream_Next.c1q (a0 : ((List Int) × Unit)) (a1 : Int) (o : Bool) : SL := (fun v => ⟨[(0, (.val .ptr ⟨0, 0, (0 : Int), 0, 0⟩)), (1, (.val T2 a1)), (15, (.val T4 v))], [(0, .cells (.pair T31 .unit) a0)]⟩) o
noncomputable def tourmake_Stream_Next.c1x (o : Bool) : Ex := (fun _ => .normal) o
noncomputable def tourmake_Stream_Next.c1n (o : Bool) : Nat := (fun _ => 1) o
theorem tourmake_Stream_Next.c1_ok (k : Nat) (a0 : ((List Int) × Unit)) (a1 : Int) : Owp (tourmake_Stream_Next.c1 k a0 a1) fun o => Triple PR (tourmake_Stream_Next.cx k) (sub tourmake_Stream_Next.code [1, 0, 0]) 1 (tourmake_Stream_Next.c1p a0 a1) (tourmake_Stream_Next.c1x o) (tourmake_Stream_Next.c1n o) (tourmake_Stream_Next.c1q a0 a1 o) := by
  unfold tourmake_Stream_Next.c1; exact
   Owp.bif (fun e1 =>
   Owp.some (triple_way (tourmake_Stream_Next.cok k) hmix [.dec true, .dec true, .dec true] [] [(0, 0)] (via (finP (And.intro (And.intro (And.intro trivial e1) e1) e1) .normal [(0, 0)] (tourmake_Stream_Next.c1q a0 a1 true)) (by kernel_rfl)))) (fun e1 =>
   Owp.some (triple_way (tourmake_Stream_Next.cok k) hmix [.dec false, .dec false, .dec false] [] [(0, 0)] (via (finP (And.intro (And.intro (And.intro trivial e1) e1) e1) .normal [(0, 0)] (tourmake_Stream_Next.c1q a0 a1 (ilt a1 (1 : Int)))) (by kernel_rfl))))
@[irreducible] noncomputable def tourmake_Stream_Next.P (k : Nat) (a0 : ((List Int) × Unit)) (a1 : Int) (y : (((List Int) × Unit) × Int)) (answers : List Ans) (cmds : List Cmd) : Prop := exec PR (tourmake_Stream_Next.cx k) tourmake_Stream_Next.code 1 (entryW (.pair T31 .unit) (.pair T2 .unit) (a0, (a1, ()))).st answers (RetW (tourmake_Stream_Next.cx k) Try.f96 cmds (.pair T31 .unit) (.one (.dp T2)) y)
theorem tourmake_Stream_Next.way (k : Nat) (a0 : ((List Int) × Unit)) (a1 : Int) : Owp (tourmake_Stream_Next k a0 a1) fun y => ∃ answers cmds, tourmake_Stream_Next.P k a0 a1 y answers cmds := by
  unfold tourmake_Stream_Next; exact
   Owp.bnd fun o2 e3 =>
   Owp.bif (fun e4 =>
   Owp.some (⟨[.cutR 1 ⟨[], [(0, 0)], (tourmake_Stream_Next.c1p a0 a1), 1, .normal, (tourmake_Stream_Next.c1q a0 a1 o2), 1⟩, .dec true], [], via (cutP trivial [(0, 0)] (tourmake_Stream_Next.c1p a0 a1) (((tourmake_Stream_Next.c1_ok k a0 a1).ap e3)) (retwP (And.intro trivial e4) (.pair T31 .unit) (a0 : ((List Int) × Unit)) (.one (.dp T2)) ((0 : Int) : Int))) (by kernel_rfl)⟩)) (fun e4 =>
   Owp.req fun h5 =>
    Owp.req fun h6 =>
    Owp.bnd fun y7 e8 =>
    Owp.some (⟨[.cutR 1 ⟨[], [(0, 0)], (tourmake_Stream_Next.c1p a0 a1), 1, .normal, (tourmake_Stream_Next.c1q a0 a1 o2), 1⟩, .dec false, .res (.one (.dp T2)) y7], [], via (cutP trivial [(0, 0)] (tourmake_Stream_Next.c1p a0 a1) (((tourmake_Stream_Next.c1_ok k a0 a1).ap e3)) (retwP (And.intro (And.intro (And.intro (And.intro trivial e4) h5) h6) e8) (.pair T31 .unit) (((cut a0.1 (1 : Int) (List.length a0.1 : Int)), ()) : ((List Int) × Unit)) (.one (.dp T2)) (y7 : Int))) (by kernel_rfl)⟩))
theorem tourmake_Stream_Next.ok (k : Nat) : FnOk PR 96 (tourmake_Stream_Next.sp k) :=
  fnW_ok (t := (.pair T31 .unit)) (ps := (.pair T2 .unit)) (t' := (.pair T31 .unit)) (rs := (.one (.dp T2))) (g := fun x => tourmake_Stream_Next k x.1 x.2.1) (tourmake_Stream_Next.cok k) hmix Try.func96 (code := tourmake_Stream_Next.code) (by kernel_rfl) (by kernel_rfl) (by kernel_rfl) (by kernel_rfl) (by kernel_rfl) (by kernel_rfl) (by kernel_rfl) (by kernel_rfl) (by kernel_rfl) (fun x => Nat.le_of_ble_eq_true (by kernel_rfl)) fun x y hy => match (tourmake_Stream_Next.way k x.1 x.2.1).ap hy with | ⟨ans, cmds, h⟩ => ⟨ans, cmds, via h (by kernel_rfl)⟩

/-! tourney/tourmake.poly -/
noncomputable def tourmake_poly.code : Code := Func.cd Try.f122
def tourmake_poly (k : Nat) (a0 : ((List Int) × Unit)) : Option (((List Int) × Unit) × (List V27)) :=
  bnd (tourmake_Stream_Next k a0 4) fun y1 =>
  bnd (tourmake_Stream_Next k y1.1 4) fun y3 =>
  bnd (tourmake_Stream_Next k y3.1 4) fun y5 =>
  bif' (ieq y5.2 0)
  (some (y5.1, [((ineg .i64 (imul .i64 (iadd .i64 1 y1.2) 65536)), (ineg .i64 (imul .i64 (iadd .i64 1 y3.2) 65536)), ()), ((imul .i64 (iadd .i64 1 y1.2) 65536), (ineg .i64 (imul .i64 (iadd .i64 1 y3.2) 65536)), ()), ((imul .i64 (iadd .i64 1 y1.2) 65536), (imul .i64 (iadd .i64 1 y3.2) 65536), ()), ((ineg .i64 (imul .i64 (iadd .i64 1 y1.2) 65536)), (imul .i64 (iadd .i64 1 y3.2) 65536), ())]))
  (bif' (ieq y5.2 1)
   (bnd (tourmake_Stream_Next k y5.1 (imul .i64 2 (imul .i64 (iadd .i64 1 y1.2) 65536))) fun y9 =>
    some (y9.1, [((ineg .i64 (imul .i64 (iadd .i64 1 y1.2) 65536)), (ineg .i64 (imul .i64 (iadd .i64 1 y3.2) 65536)), ()), ((imul .i64 (iadd .i64 1 y1.2) 65536), (ineg .i64 (imul .i64 (iadd .i64 1 y3.2) 65536)), ()), ((isub .i64 y9.2 (imul .i64 (iadd .i64 1 y1.2) 65536)), (imul .i64 (iadd .i64 1 y3.2) 65536), ())]))
   (bif' (ieq y5.2 2)
    (some (y5.1, [((ineg .i64 (imul .i64 (iadd .i64 1 y1.2) 65536)), (ineg .i64 (imul .i64 (iadd .i64 1 y3.2) 65536)), ()), ((isub .i64 (imul .i64 (iadd .i64 1 y1.2) 65536) (iquo .i64 (imin (imul .i64 (iadd .i64 1 y1.2) 65536) (imul .i64 (iadd .i64 1 y3.2) 65536)) 2)), (ineg .i64 (imul .i64 (iadd .i64 1 y3.2) 65536)), ()), ((imul .i64 (iadd .i64 1 y1.2) 65536), (isub .i64 (iquo .i64 (imin (imul .i64 (iadd .i64 1 y1.2) 65536) (imul .i64 (iadd .i64 1 y3.2) 65536)) 2) (imul .i64 (iadd .i64 1 y3.2) 65536)), ()), ((imul .i64 (iadd .i64 1 y1.2) 65536), (imul .i64 (iadd .i64 1 y3.2) 65536), ()), ((ineg .i64 (imul .i64 (iadd .i64 1 y1.2) 65536)), (imul .i64 (iadd .i64 1 y3.2) 65536), ())]))
    (some (y5.1, [((ineg .i64 (imul .i64 (iadd .i64 1 y1.2) 65536)), 0, ()), (0, (ineg .i64 (imul .i64 (iadd .i64 1 y3.2) 65536)), ()), ((imul .i64 (iadd .i64 1 y1.2) 65536), 0, ()), (0, (imul .i64 (iadd .i64 1 y3.2) 65536), ())]))))
noncomputable def tourmake_poly.sp (k : Nat) : Go.Sx.Spec := ⟨(.pair (.ref (.pair T31 .unit)) .unit), (.more (.dp (.pair T31 .unit)) (.one (.dp T22))), fun x => tourmake_poly k x.1, true⟩
noncomputable def tourmake_poly.cx (k : Nat) : Go.Sx.Ctx := ⟨tys, [(96, tourmake_Stream_Next.sp k)], eqs, 96, 1, [], false⟩
theorem tourmake_poly.cok (k : Nat) : CtxOk PR (tourmake_poly.cx k) := ctx_ok tysOk eqsOk (FnsOk.cons (tourmake_Stream_Next.ok k) FnsOk.nil) HsOk.nil
@[irreducible] noncomputable def tourmake_poly.P (k : Nat) (a0 : ((List Int) × Unit)) (y : (((List Int) × Unit) × (List V27))) (answers : List Ans) (cmds : List Cmd) : Prop := exec PR (tourmake_poly.cx k) tourmake_poly.code 1 (entryW (.pair T31 .unit) .unit (a0, ())).st answers (RetW (tourmake_poly.cx k) Try.f122 cmds (.pair T31 .unit) (.one (.dp T22)) y)
theorem tourmake_poly.way (k : Nat) (a0 : ((List Int) × Unit)) : Owp (tourmake_poly k a0) fun y => ∃ answers cmds, tourmake_poly.P k a0 y answers cmds := by
  unfold tourmake_poly; exact
   Owp.bnd fun y1 e2 =>
   Owp.bnd fun y3 e4 =>
   Owp.bnd fun y5 e6 =>
   Owp.bif (fun e7 =>
   Owp.some (⟨[.res (.more (.dp (.pair T31 .unit)) (.one (.dp T2))) y1, .res (.more (.dp (.pair T31 .unit)) (.one (.dp T2))) y3, .res (.more (.dp (.pair T31 .unit)) (.one (.dp T2))) y5, .dec true, .dec true], [.freeze 2], via (retwP (And.intro (And.intro (And.intro (And.intro trivial e2) e4) e6) e7) (.pair T31 .unit) (y5.1 : ((List Int) × Unit)) (.one (.dp T22)) ([((ineg .i64 (imul .i64 (iadd .i64 (1 : Int) y1.2) (65536 : Int))), (ineg .i64 (imul .i64 (iadd .i64 (1 : Int) y3.2) (65536 : Int))), ()), ((imul .i64 (iadd .i64 (1 : Int) y1.2) (65536 : Int)), (ineg .i64 (imul .i64 (iadd .i64 (1 : Int) y3.2) (65536 : Int))), ()), ((imul .i64 (iadd .i64 (1 : Int) y1.2) (65536 : Int)), (imul .i64 (iadd .i64 (1 : Int) y3.2) (65536 : Int)), ()), ((ineg .i64 (imul .i64 (iadd .i64 (1 : Int) y1.2) (65536 : Int))), (imul .i64 (iadd .i64 (1 : Int) y3.2) (65536 : Int)), ())] : (List V27))) (by kernel_rfl)⟩)) (fun e7 =>
   Owp.bif (fun e8 =>
    Owp.bnd fun y9 e10 =>
     Owp.some (⟨[.res (.more (.dp (.pair T31 .unit)) (.one (.dp T2))) y1, .res (.more (.dp (.pair T31 .unit)) (.one (.dp T2))) y3, .res (.more (.dp (.pair T31 .unit)) (.one (.dp T2))) y5, .dec false, .dec true, .res (.more (.dp (.pair T31 .unit)) (.one (.dp T2))) y9, .dec true], [.freeze 2], via (retwP (And.intro (And.intro (And.intro (And.intro (And.intro (And.intro trivial e2) e4) e6) e7) e8) e10) (.pair T31 .unit) (y9.1 : ((List Int) × Unit)) (.one (.dp T22)) ([((ineg .i64 (imul .i64 (iadd .i64 (1 : Int) y1.2) (65536 : Int))), (ineg .i64 (imul .i64 (iadd .i64 (1 : Int) y3.2) (65536 : Int))), ()), ((imul .i64 (iadd .i64 (1 : Int) y1.2) (65536 : Int)), (ineg .i64 (imul .i64 (iadd .i64 (1 : Int) y3.2) (65536 : Int))), ()), ((isub .i64 y9.2 (imul .i64 (iadd .i64 (1 : Int) y1.2) (65536 : Int))), (imul .i64 (iadd .i64 (1 : Int) y3.2) (65536 : Int)), ())] : (List V27))) (by kernel_rfl)⟩)) (fun e8 =>
    Owp.bif (fun e11 =>
     Owp.some (⟨[.res (.more (.dp (.pair T31 .unit)) (.one (.dp T2))) y1, .res (.more (.dp (.pair T31 .unit)) (.one (.dp T2))) y3, .res (.more (.dp (.pair T31 .unit)) (.one (.dp T2))) y5, .dec false, .dec false, .dec true, .dec true], [.freeze 2], via (retwP (And.intro (And.intro (And.intro (And.intro (And.intro (And.intro (And.intro trivial e2) e4) e6) e7) e8) e11) (by decide : nz (2 : Int))) (.pair T31 .unit) (y5.1 : ((List Int) × Unit)) (.one (.dp T22)) ([((ineg .i64 (imul .i64 (iadd .i64 (1 : Int) y1.2) (65536 : Int))), (ineg .i64 (imul .i64 (iadd .i64 (1 : Int) y3.2) (65536 : Int))), ()), ((isub .i64 (imul .i64 (iadd .i64 (1 : Int) y1.2) (65536 : Int)) (iquo .i64 (imin (imul .i64 (iadd .i64 (1 : Int) y1.2) (65536 : Int)) (imul .i64 (iadd .i64 (1 : Int) y3.2) (65536 : Int))) (2 : Int))), (ineg .i64 (imul .i64 (iadd .i64 (1 : Int) y3.2) (65536 : Int))), ()), ((imul .i64 (iadd .i64 (1 : Int) y1.2) (65536 : Int)), (isub .i64 (iquo .i64 (imin (imul .i64 (iadd .i64 (1 : Int) y1.2) (65536 : Int)) (imul .i64 (iadd .i64 (1 : Int) y3.2) (65536 : Int))) (2 : Int)) (imul .i64 (iadd .i64 (1 : Int) y3.2) (65536 : Int))), ()), ((imul .i64 (iadd .i64 (1 : Int) y1.2) (65536 : Int)), (imul .i64 (iadd .i64 (1 : Int) y3.2) (65536 : Int)), ()), ((ineg .i64 (imul .i64 (iadd .i64 (1 : Int) y1.2) (65536 : Int))), (imul .i64 (iadd .i64 (1 : Int) y3.2) (65536 : Int)), ())] : (List V27))) (by kernel_rfl)⟩)) (fun e11 =>
     Owp.some (⟨[.res (.more (.dp (.pair T31 .unit)) (.one (.dp T2))) y1, .res (.more (.dp (.pair T31 .unit)) (.one (.dp T2))) y3, .res (.more (.dp (.pair T31 .unit)) (.one (.dp T2))) y5, .dec false, .dec false, .dec false, .dec true], [.freeze 2], via (retwP (And.intro (And.intro (And.intro (And.intro (And.intro (And.intro trivial e2) e4) e6) e7) e8) e11) (.pair T31 .unit) (y5.1 : ((List Int) × Unit)) (.one (.dp T22)) ([((ineg .i64 (imul .i64 (iadd .i64 (1 : Int) y1.2) (65536 : Int))), (0 : Int), ()), ((0 : Int), (ineg .i64 (imul .i64 (iadd .i64 (1 : Int) y3.2) (65536 : Int))), ()), ((imul .i64 (iadd .i64 (1 : Int) y1.2) (65536 : Int)), (0 : Int), ()), ((0 : Int), (imul .i64 (iadd .i64 (1 : Int) y3.2) (65536 : Int)), ())] : (List V27))) (by kernel_rfl)⟩))))
theorem tourmake_poly.ok (k : Nat) : FnOk PR 122 (tourmake_poly.sp k) :=
  fnW_ok (t := (.pair T31 .unit)) (ps := .unit) (t' := (.pair T31 .unit)) (rs := (.one (.dp T22))) (g := fun x => tourmake_poly k x.1) (tourmake_poly.cok k) hmix Try.func122 (code := tourmake_poly.code) (by kernel_rfl) (by kernel_rfl) (by kernel_rfl) (by kernel_rfl) (by kernel_rfl) (by kernel_rfl) (by kernel_rfl) (by kernel_rfl) (by kernel_rfl) (fun x => Nat.le_of_ble_eq_true (by kernel_rfl)) fun x y hy => match (tourmake_poly.way k x.1).ap hy with | ⟨ans, cmds, h⟩ => ⟨ans, cmds, via h (by kernel_rfl)⟩

/-! tourney/tourmake.Poly -/
noncomputable def tourmake_Poly.code : Code := Func.cd Try.f48
def tourmake_Poly (k : Nat) (a0 : (List Int)) : Option (List V27) :=
  bnd (tourmake_poly k (a0, ())) fun y1 =>
  some y1.2
noncomputable def tourmake_Poly.sp (k : Nat) : Go.Sx.Spec := ⟨(.pair T31 .unit), (.one (.dp T22)), fun x => tourmake_Poly k x.1, false⟩
noncomputable def tourmake_Poly.cx (k : Nat) : Go.Sx.Ctx := ⟨tys, [(122, tourmake_poly.sp k)], eqs, 7, 0, [], false⟩
theorem tourmake_Poly.cok (k : Nat) : CtxOk PR (tourmake_Poly.cx k) := ctx_ok tysOk eqsOk (FnsOk.cons (tourmake_poly.ok k) FnsOk.nil) HsOk.nil
theorem tourmake_Poly.way (k : Nat) (a0 : (List Int)) : Owp (tourmake_Poly k a0) fun y => ∃ answers cmds, exec PR (tourmake_Poly.cx k) tourmake_Poly.code 0 (entry (.pair T31 .unit) (a0, ())).st answers (Ret (tourmake_Poly.cx k) Try.f48 cmds (.one (.dp T22)) y) := by
  unfold tourmake_Poly; exact
   Owp.bnd fun y1 e2 =>
   Owp.some (⟨[.res (.more (.dp (.pair T31 .unit)) (.one (.dp T22))) y1], [], via (retP (And.intro trivial e2) (.one (.dp T22)) (y1.2 : (List V27))) (by kernel_rfl)⟩)
theorem tourmake_Poly.ok (k : Nat) : FnOk PR 48 (tourmake_Poly.sp k) :=
  fn_ok (tourmake_Poly.cok k) hmix Try.func48 (code := tourmake_Poly.code) (by kernel_rfl) (by kernel_rfl) (by kernel_rfl) rfl rfl (by kernel_rfl) (by kernel_rfl) (by kernel_rfl) (fun x => Nat.le_of_ble_eq_true (by kernel_rfl)) fun x y hy => (tourmake_Poly.way k x.1).ap hy

/-! tourney/tourkeep2.square -/
noncomputable def tourkeep2_square.code : Code := Func.cd Try.f78
def tourkeep2_square (k : Nat) (a0 : Int) (a1 : Int) (a2 : Int) : Option (List V27) :=
  some [((isub .i64 (imul .i64 a0 65536) (imul .i64 a2 65536)), (isub .i64 (imul .i64 a1 65536) (imul .i64 a2 65536)), ()), ((iadd .i64 (imul .i64 a0 65536) (imul .i64 a2 65536)), (isub .i64 (imul .i64 a1 65536) (imul .i64 a2 65536)), ()), ((iadd .i64 (imul .i64 a0 65536) (imul .i64 a2 65536)), (iadd .i64 (imul .i64 a1 65536) (imul .i64 a2 65536)), ()), ((isub .i64 (imul .i64 a0 65536) (imul .i64 a2 65536)), (iadd .i64 (imul .i64 a1 65536) (imul .i64 a2 65536)), ())]
noncomputable def tourkeep2_square.sp (k : Nat) : Go.Sx.Spec := ⟨(.pair T2 T27), (.one (.ow T27 28)), fun x => tourkeep2_square k x.1 x.2.1 x.2.2.1, false⟩
noncomputable def tourkeep2_square.cx (k : Nat) : Go.Sx.Ctx := ⟨tys, [], eqs, 42, 0, [], false⟩
theorem tourkeep2_square.cok (k : Nat) : CtxOk PR (tourkeep2_square.cx k) := ctx_ok tysOk eqsOk FnsOk.nil HsOk.nil
theorem tourkeep2_square.way (k : Nat) (a0 : Int) (a1 : Int) (a2 : Int) : Owp (tourkeep2_square k a0 a1 a2) fun y => ∃ answers cmds, exec PR (tourkeep2_square.cx k) tourkeep2_square.code 0 (entry (.pair T2 T27) (a0, a1, a2, ())).st answers (Ret (tourkeep2_square.cx k) Try.f78 cmds (.one (.ow T27 28)) y) := by
  unfold tourkeep2_square; exact
   Owp.some (⟨[.dec true], [], via (retP trivial (.one (.ow T27 28)) ([((isub .i64 (imul .i64 a0 (65536 : Int)) (imul .i64 a2 (65536 : Int))), (isub .i64 (imul .i64 a1 (65536 : Int)) (imul .i64 a2 (65536 : Int))), ()), ((iadd .i64 (imul .i64 a0 (65536 : Int)) (imul .i64 a2 (65536 : Int))), (isub .i64 (imul .i64 a1 (65536 : Int)) (imul .i64 a2 (65536 : Int))), ()), ((iadd .i64 (imul .i64 a0 (65536 : Int)) (imul .i64 a2 (65536 : Int))), (iadd .i64 (imul .i64 a1 (65536 : Int)) (imul .i64 a2 (65536 : Int))), ()), ((isub .i64 (imul .i64 a0 (65536 : Int)) (imul .i64 a2 (65536 : Int))), (iadd .i64 (imul .i64 a1 (65536 : Int)) (imul .i64 a2 (65536 : Int))), ())] : (List V27))) (by kernel_rfl)⟩)
theorem tourkeep2_square.ok (k : Nat) : FnOk PR 78 (tourkeep2_square.sp k) :=
  fn_ok (tourkeep2_square.cok k) hmix Try.func78 (code := tourkeep2_square.code) (by kernel_rfl) (by kernel_rfl) (by kernel_rfl) rfl rfl (by kernel_rfl) (by kernel_rfl) (by kernel_rfl) (fun x => Nat.le_of_ble_eq_true (by kernel_rfl)) fun x y hy => (tourkeep2_square.way k x.1 x.2.1 x.2.2.1).ap hy

end Go.Proofs.T1
