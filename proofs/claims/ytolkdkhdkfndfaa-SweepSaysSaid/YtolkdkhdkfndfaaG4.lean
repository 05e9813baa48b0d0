import Derived.Test.YtolkdkhdkfndfaaG0
namespace Go.Proofs.T1
open Go Go.Sx Go.Proofs
set_option maxRecDepth 100000
set_option linter.unusedVariables false
/-! tourney/tourref2.Box -/
noncomputable def tourref2_Box.code : Code := Func.cd Try.f42
def tourref2_Box (k : Nat) (a0 : V41) : Option Bool :=
  bif' (ile a0.1.1 a0.2.1.1)
  (some (ile a0.1.2.1 a0.2.1.2.1))
  (some false)
noncomputable def tourref2_Box.sp (k : Nat) : Go.Sx.Spec := ⟨(.pair T41 .unit), (.one (.dp T4)), fun x => tourref2_Box k x.1, false⟩
noncomputable def tourref2_Box.cx (k : Nat) : Go.Sx.Ctx := ⟨tys, [], eqs, 19, 0, [], false⟩
theorem tourref2_Box.cok (k : Nat) : CtxOk PR (tourref2_Box.cx k) := ctx_ok tysOk eqsOk FnsOk.nil HsOk.nil
theorem tourref2_Box.way (k : Nat) (a0 : V41) : Owp (tourref2_Box k a0) fun y => ∃ answers cmds, exec PR (tourref2_Box.cx k) tourref2_Box.code 0 (entry (.pair T41 .unit) (a0, ())).st answers (Ret (tourref2_Box.cx k) Try.f42 cmds (.one (.dp T4)) y) := by
  unfold tourref2_Box; exact
   Owp.bif (fun e1 =>
   Owp.some (⟨[.dec true, .dec true, .dec true, .dec true, .dec true, .dec true, .dec true, .dec true], [], via (retP (And.intro (And.intro (And.intro (And.intro (And.intro (And.intro (And.intro (And.intro trivial e1) e1) e1) e1) e1) e1) e1) e1) (.one (.dp T4)) ((ile a0.1.2.1 a0.2.1.2.1) : Bool)) (by kernel_rfl)⟩)) (fun e1 =>
   Owp.some (⟨[.dec false, .dec false, .dec false, .dec false, .dec false, .dec false, .dec false, .dec false], [], via (retP (And.intro (And.intro (And.intro (And.intro (And.intro (And.intro (And.intro (And.intro trivial e1) e1) e1) e1) e1) e1) e1) e1) (.one (.dp T4)) (false : Bool)) (by kernel_rfl)⟩))
theorem tourref2_Box.ok (k : Nat) : FnOk PR 42 (tourref2_Box.sp k) :=
  fn_ok (tourref2_Box.cok k) hmix Try.func42 (code := tourref2_Box.code) (by kernel_rfl) (by kernel_rfl) (by kernel_rfl) rfl rfl (by kernel_rfl) (by kernel_rfl) (by kernel_rfl) (fun x => Nat.le_of_ble_eq_true (by kernel_rfl)) fun x y hy => (tourref2_Box.way k x.1).ap hy

/-! tourney/tourref2.Touch -/
noncomputable def tourref2_Touch.code : Code := Func.cd Try.f39
def tourref2_Touch (k : Nat) (a0 : V41) (a1 : V41) : Option Bool :=
  bnd (tourref2_Box k a0) fun y1 =>
  bif' y1
  (bnd (tourref2_Box k a1) fun y4 =>
   bif' y4
   (bif' (ile (imax a0.1.1 a1.1.1) (imin a0.2.1.1 a1.2.1.1))
    (some (ile (imax a0.1.2.1 a1.1.2.1) (imin a0.2.1.2.1 a1.2.1.2.1)))
    (some false))
   (some false))
  (some false)
noncomputable def tourref2_Touch.sp (k : Nat) : Go.Sx.Spec := ⟨(.pair T41 (.pair T41 .unit)), (.one (.dp T4)), fun x => tourref2_Touch k x.1 x.2.1, false⟩
noncomputable def tourref2_Touch.cx (k : Nat) : Go.Sx.Ctx := ⟨tys, [(42, tourref2_Box.sp k)], eqs, 45, 0, [], false⟩
theorem tourref2_Touch.cok (k : Nat) : CtxOk PR (tourref2_Touch.cx k) := ctx_ok tysOk eqsOk (FnsOk.cons (tourref2_Box.ok k) FnsOk.nil) HsOk.nil
theorem tourref2_Touch.way (k : Nat) (a0 : V41) (a1 : V41) : Owp (tourref2_Touch k a0 a1) fun y => ∃ answers cmds, exec PR (tourref2_Touch.cx k) tourref2_Touch.code 0 (entry (.pair T41 (.pair T41 .unit)) (a0, a1, ())).st answers (Ret (tourref2_Touch.cx k) Try.f39 cmds (.one (.dp T4)) y) := by
  unfold tourref2_Touch; exact
   Owp.bnd fun y1 e2 =>
   Owp.bif (fun e3 =>
   Owp.bnd fun y4 e5 =>
    Owp.bif (fun e6 =>
    Owp.bif (fun e7 =>
     Owp.some (⟨[.res (.one (.dp T4)) y1, .dec true, .dec true, .res (.one (.dp T4)) y4, .dec true, .dec true, .dec true, .dec true, .dec true, .dec true, .dec true, .dec true, .dec true, .dec true, .dec true, .dec true, .dec true, .dec true, .dec true, .dec true, .dec true, .dec true, .dec true, .dec true, .dec true, .dec true, .dec true, .dec true, .dec true, .dec true, .dec true, .dec true, .dec true, .dec true, .dec true, .dec true, .dec true], [], via (retP (And.intro (And.intro (And.intro (And.intro (And.intro (And.intro (And.intro (And.intro (And.intro (And.intro (And.intro (And.intro (And.intro (And.intro (And.intro (And.intro (And.intro (And.intro (And.intro (And.intro (And.intro (And.intro (And.intro (And.intro (And.intro (And.intro (And.intro (And.intro (And.intro (And.intro (And.intro (And.intro (And.intro (And.intro (And.intro (And.intro trivial e2) e3) (And.intro e3 e5)) e3) e6) e6) e6) e6) e6) e6) e6) e6) e6) e6) e6) e6) e6) e6) e6) e6) e7) e7) e7) e7) e7) e7) e7) e7) e7) e7) e7) e7) e7) e7) e7) e7) (.one (.dp T4)) ((ile (imax a0.1.2.1 a1.1.2.1) (imin a0.2.1.2.1 a1.2.1.2.1)) : Bool)) (by kernel_rfl)⟩)) (fun e7 =>
     Owp.some (⟨[.res (.one (.dp T4)) y1, .dec true, .dec true, .res (.one (.dp T4)) y4, .dec true, .dec true, .dec true, .dec true, .dec true, .dec true, .dec true, .dec true, .dec true, .dec true, .dec true, .dec true, .dec true, .dec true, .dec true, .dec true, .dec true, .dec false, .dec false, .dec false, .dec false, .dec false, .dec false, .dec false, .dec false, .dec false, .dec false, .dec false, .dec false, .dec false, .dec false, .dec false, .dec false], [], via (retP (And.intro (And.intro (And.intro (And.intro (And.intro (And.intro (And.intro (And.intro (And.intro (And.intro (And.intro (And.intro (And.intro (And.intro (And.intro (And.intro (And.intro (And.intro (And.intro (And.intro (And.intro (And.intro (And.intro (And.intro (And.intro (And.intro (And.intro (And.intro (And.intro (And.intro (And.intro (And.intro (And.intro (And.intro (And.intro (And.intro trivial e2) e3) (And.intro e3 e5)) e3) e6) e6) e6) e6) e6) e6) e6) e6) e6) e6) e6) e6) e6) e6) e6) e6) e7) e7) e7) e7) e7) e7) e7) e7) e7) e7) e7) e7) e7) e7) e7) e7) (.one (.dp T4)) (false : Bool)) (by kernel_rfl)⟩))) (fun e6 =>
    Owp.some (⟨[.res (.one (.dp T4)) y1, .dec true, .dec true, .res (.one (.dp T4)) y4, .dec true, .dec false, .dec false, .dec false, .dec false, .dec false, .dec false, .dec false, .dec false, .dec false, .dec false, .dec false, .dec false, .dec false, .dec false, .dec false, .dec false, .dec false, .dec false, .dec false, .dec false, .dec false, .dec false, .dec false, .dec false, .dec false, .dec false, .dec false, .dec false, .dec false, .dec false, .dec false, .dec false], [], via (retP (And.intro (And.intro (And.intro (And.intro (And.intro (And.intro (And.intro (And.intro (And.intro (And.intro (And.intro (And.intro (And.intro (And.intro (And.intro (And.intro (And.intro (And.intro (And.intro (And.intro (And.intro (And.intro (And.intro (And.intro (And.intro (And.intro (And.intro (And.intro (And.intro (And.intro (And.intro (And.intro (And.intro (And.intro (And.intro (And.intro trivial e2) e3) (And.intro e3 e5)) e3) e6) e6) e6) e6) e6) e6) e6) e6) e6) e6) e6) e6) e6) e6) e6) e6) ff) ff) ff) ff) ff) ff) ff) ff) ff) ff) ff) ff) ff) ff) ff) ff) (.one (.dp T4)) (false : Bool)) (by kernel_rfl)⟩))) (fun e3 =>
   Owp.some (⟨[.res (.one (.dp T4)) y1, .dec false, .dec false, .dec true, .dec false, .dec false, .dec false, .dec false, .dec false, .dec false, .dec false, .dec false, .dec false, .dec false, .dec false, .dec false, .dec false, .dec false, .dec false, .dec false, .dec false, .dec false, .dec false, .dec false, .dec false, .dec false, .dec false, .dec false, .dec false, .dec false, .dec false, .dec false, .dec false, .dec false, .dec false, .dec false, .dec false], [], via (retP (And.intro (And.intro (And.intro (And.intro (And.intro (And.intro (And.intro (And.intro (And.intro (And.intro (And.intro (And.intro (And.intro (And.intro (And.intro (And.intro (And.intro (And.intro (And.intro (And.intro (And.intro (And.intro (And.intro (And.intro (And.intro (And.intro (And.intro (And.intro (And.intro (And.intro (And.intro (And.intro (And.intro (And.intro (And.intro (And.intro trivial e2) e3) e3) e3) ff) ff) ff) ff) ff) ff) ff) ff) ff) ff) ff) ff) ff) ff) ff) ff) ff) ff) ff) ff) ff) ff) ff) ff) ff) ff) ff) ff) ff) ff) ff) ff) (.one (.dp T4)) (false : Bool)) (by kernel_rfl)⟩))
theorem tourref2_Touch.ok (k : Nat) : FnOk PR 39 (tourref2_Touch.sp k) :=
  fn_ok (tourref2_Touch.cok k) hmix Try.func39 (code := tourref2_Touch.code) (by kernel_rfl) (by kernel_rfl) (by kernel_rfl) rfl rfl (by kernel_rfl) (by kernel_rfl) (by kernel_rfl) (fun x => Nat.le_of_ble_eq_true (by kernel_rfl)) fun x y hy => (tourref2_Touch.way k x.1 x.2.1).ap hy

/-! slices.Min[[]int,int] -/
noncomputable def slices_Min.code : Code := Func.cd Try.f166
def slices_Min.c1 (k : Nat) (a0 : (List Int)) : Nat → Int → Int → Option (Int)
  | 0, _, _ => none
  | n + 1, v3, v4 =>
   bif' (ilt v4 (len a0))
   (req (inL v4 a0) <|
    slices_Min.c1 k a0 n (imin v3 (el 0 a0 v4)) (iadd .i64 v4 1))
   (some v3)
def slices_Min (k : Nat) (a0 : (List Int)) : Option Int :=
  bif' (ilt (len a0) 1)
  (none)
  (req (inL 0 a0) <|
   bnd (slices_Min.c1 k a0 k (el 0 a0 0) 1) fun o7 =>
   some o7)
noncomputable def slices_Min.sp (k : Nat) : Go.Sx.Spec := ⟨(.pair T31 .unit), (.one (.dp T2)), fun x => slices_Min k x.1, false⟩
noncomputable def slices_Min.cx (k : Nat) : Go.Sx.Ctx := ⟨tys, [], eqs, 25, 0, [], false⟩
theorem slices_Min.cok (k : Nat) : CtxOk PR (slices_Min.cx k) := ctx_ok tysOk eqsOk FnsOk.nil HsOk.nil
noncomputable def slices_Min.c1p (a0 : (List Int)) (v3 : Int) (v4 : Int) : SL := ⟨[(0, (.val T31 a0)), (3, (.val T2 v3)), (4, (.val T2 v4))], []⟩
noncomputable def slices_Min.c1q (o : Int) : SL := (fun v => ⟨[(3, (.val T2 v))], []⟩) o
noncomputable def slices_Min.c1x (o : Int) : Ex := (fun _ => (.exit 0)) o
noncomputable def slices_Min.c1n (o : Int) : Nat := (fun _ => 0) o
theorem slices_Min.c1_ok (k : Nat) (a0 : (List Int)) : ∀ (n : Nat) (v3 : Int) (v4 : Int), Owp (slices_Min.c1 k a0 n v3 v4) fun o => LTriple PR (slices_Min.cx k) (sub slices_Min.code [1, 1, 1, 0, 1, 0, 0]) 0 (slices_Min.c1p a0 v3 v4) (slices_Min.c1x o) (slices_Min.c1n o) (slices_Min.c1q o)
  | 0, _, _ => fun _ h => nomatch h
  | n + 1, v3, v4 => Owp.of (slices_Min.c1.eq_2 ..) (
   Owp.bif (fun e5 =>
   Owp.req fun h6 =>
    fun y hy => loop_back (slices_Min.cok k) hmix 0 (slices_Min.c1p a0 (imin v3 (el (0 : Int) a0 v4)) (iadd .i64 v4 (1 : Int))) [.dec true] [] [] (via (finP (And.intro (And.intro trivial e5) h6) .normal [] (slices_Min.c1p a0 (imin v3 (el (0 : Int) a0 v4)) (iadd .i64 v4 (1 : Int)))) (by kernel_rfl)) ((slices_Min.c1_ok k a0 n (imin v3 (el (0 : Int) a0 v4)) (iadd .i64 v4 (1 : Int))).ap hy)) (fun e5 =>
   Owp.some (loop_exit (slices_Min.cok k) hmix [.dec false] [] [] (exne 0) (via (finP (And.intro trivial e5) (.exit 0) [] (slices_Min.c1q v3)) (by kernel_rfl)))))
theorem slices_Min.way (k : Nat) (a0 : (List Int)) : Owp (slices_Min k a0) fun y => ∃ answers cmds, exec PR (slices_Min.cx k) slices_Min.code 0 (entry (.pair T31 .unit) (a0, ())).st answers (Ret (slices_Min.cx k) Try.f166 cmds (.one (.dp T2)) y) := by
  unfold slices_Min; exact
   Owp.bif (fun e1 =>
   Owp.none) (fun e1 =>
   Owp.req fun h2 =>
    Owp.bnd fun o7 e8 =>
    Owp.some (⟨[.dec false, .cut ⟨[], [], (slices_Min.c1p a0 (el (0 : Int) a0 (0 : Int)) (1 : Int)), 0, (.exit 0), (slices_Min.c1q o7), 0⟩], [], via (cutP (And.intro (And.intro trivial e1) h2) [] (slices_Min.c1p a0 (el (0 : Int) a0 (0 : Int)) (1 : Int)) (((slices_Min.c1_ok k a0 k (el (0 : Int) a0 (0 : Int)) (1 : Int)).ap e8).triple) (retP trivial (.one (.dp T2)) (o7 : Int))) (by kernel_rfl)⟩))
theorem slices_Min.ok (k : Nat) : FnOk PR 166 (slices_Min.sp k) :=
  fn_ok (slices_Min.cok k) hmix Try.func166 (code := slices_Min.code) (by kernel_rfl) (by kernel_rfl) (by kernel_rfl) rfl rfl (by kernel_rfl) (by kernel_rfl) (by kernel_rfl) (fun x => Nat.le_of_ble_eq_true (by kernel_rfl)) fun x y hy => (slices_Min.way k x.1).ap hy

/-! slices.Max[[]int,int] -/
noncomputable def slices_Max.code : Code := Func.cd Try.f167
def slices_Max.c1 (k : Nat) (a0 : (List Int)) : Nat → Int → Int → Option (Int)
  | 0, _, _ => none
  | n + 1, v3, v4 =>
   bif' (ilt v4 (len a0))
   (req (inL v4 a0) <|
    slices_Max.c1 k a0 n (imax v3 (el 0 a0 v4)) (iadd .i64 v4 1))
   (some v3)
def slices_Max (k : Nat) (a0 : (List Int)) : Option Int :=
  bif' (ilt (len a0) 1)
  (none)
  (req (inL 0 a0) <|
   bnd (slices_Max.c1 k a0 k (el 0 a0 0) 1) fun o7 =>
   some o7)
noncomputable def slices_Max.sp (k : Nat) : Go.Sx.Spec := ⟨(.pair T31 .unit), (.one (.dp T2)), fun x => slices_Max k x.1, false⟩
noncomputable def slices_Max.cx (k : Nat) : Go.Sx.Ctx := ⟨tys, [], eqs, 25, 0, [], false⟩
theorem slices_Max.cok (k : Nat) : CtxOk PR (slices_Max.cx k) := ctx_ok tysOk eqsOk FnsOk.nil HsOk.nil
noncomputable def slices_Max.c1p (a0 : (List Int)) (v3 : Int) (v4 : Int) : SL := ⟨[(0, (.val T31 a0)), (3, (.val T2 v3)), (4, (.val T2 v4))], []⟩
noncomputable def slices_Max.c1q (o : Int) : SL := (fun v => ⟨[(3, (.val T2 v))], []⟩) o
noncomputable def slices_Max.c1x (o : Int) : Ex := (fun _ => (.exit 0)) o
noncomputable def slices_Max.c1n (o : Int) : Nat := (fun _ => 0) o
theorem slices_Max.c1_ok (k : Nat) (a0 : (List Int)) : ∀ (n : Nat) (v3 : Int) (v4 : Int), Owp (slices_Max.c1 k a0 n v3 v4) fun o => LTriple PR (slices_Max.cx k) (sub slices_Max.code [1, 1, 1, 0, 1, 0, 0]) 0 (slices_Max.c1p a0 v3 v4) (slices_Max.c1x o) (slices_Max.c1n o) (slices_Max.c1q o)
  | 0, _, _ => fun _ h => nomatch h
  | n + 1, v3, v4 => Owp.of (slices_Max.c1.eq_2 ..) (
   Owp.bif (fun e5 =>
   Owp.req fun h6 =>
    fun y hy => loop_back (slices_Max.cok k) hmix 0 (slices_Max.c1p a0 (imax v3 (el (0 : Int) a0 v4)) (iadd .i64 v4 (1 : Int))) [.dec true] [] [] (via (finP (And.intro (And.intro trivial e5) h6) .normal [] (slices_Max.c1p a0 (imax v3 (el (0 : Int) a0 v4)) (iadd .i64 v4 (1 : Int)))) (by kernel_rfl)) ((slices_Max.c1_ok k a0 n (imax v3 (el (0 : Int) a0 v4)) (iadd .i64 v4 (1 : Int))).ap hy)) (fun e5 =>
   Owp.some (loop_exit (slices_Max.cok k) hmix [.dec false] [] [] (exne 0) (via (finP (And.intro trivial e5) (.exit 0) [] (slices_Max.c1q v3)) (by kernel_rfl)))))
theorem slices_Max.way (k : Nat) (a0 : (List Int)) : Owp (slices_Max k a0) fun y => ∃ answers cmds, exec PR (slices_Max.cx k) slices_Max.code 0 (entry (.pair T31 .unit) (a0, ())).st answers (Ret (slices_Max.cx k) Try.f167 cmds (.one (.dp T2)) y) := by
  unfold slices_Max; exact
   Owp.bif (fun e1 =>
   Owp.none) (fun e1 =>
   Owp.req fun h2 =>
    Owp.bnd fun o7 e8 =>
    Owp.some (⟨[.dec false, .cut ⟨[], [], (slices_Max.c1p a0 (el (0 : Int) a0 (0 : Int)) (1 : Int)), 0, (.exit 0), (slices_Max.c1q o7), 0⟩], [], via (cutP (And.intro (And.intro trivial e1) h2) [] (slices_Max.c1p a0 (el (0 : Int) a0 (0 : Int)) (1 : Int)) (((slices_Max.c1_ok k a0 k (el (0 : Int) a0 (0 : Int)) (1 : Int)).ap e8).triple) (retP trivial (.one (.dp T2)) (o7 : Int))) (by kernel_rfl)⟩))
theorem slices_Max.ok (k : Nat) : FnOk PR 167 (slices_Max.sp k) :=
  fn_ok (slices_Max.cok k) hmix Try.func167 (code := slices_Max.code) (by kernel_rfl) (by kernel_rfl) (by kernel_rfl) rfl rfl (by kernel_rfl) (by kernel_rfl) (by kernel_rfl) (fun x => Nat.le_of_ble_eq_true (by kernel_rfl)) fun x y hy => (slices_Max.way k x.1).ap hy

/-! tourney/tourref2.Around -/
noncomputable def tourref2_Around.code : Code := Func.cd Try.f111
def tourref2_Around.c1 (k : Nat) (a0 : (List V27)) : Nat → Int → (List Int) → (List Int) → Option (((List Int) × (List Int)))
  | 0, _, _, _ => none
  | n + 1, v1, v2, v3 =>
   bif' (ilt v1 (len a0))
   (req (inL v1 a0) <|
    req (room 8 v2 [(el Z27 a0 v1).1]) <|
    req (room 8 v3 [(el Z27 a0 v1).2.1]) <|
    tourref2_Around.c1 k a0 n (iadd .i64 v1 1) (v2 ++ [(el Z27 a0 v1).1]) (v3 ++ [(el Z27 a0 v1).2.1]))
   (some (v2, v3))
def tourref2_Around (k : Nat) (a0 : (List V27)) : Option V41 :=
  bnd (tourref2_Around.c1 k a0 k 0 [] []) fun o8 =>
  bnd (slices_Min k o8.1) fun y10 =>
  bnd (slices_Min k o8.2) fun y12 =>
  bnd (slices_Max k o8.1) fun y14 =>
  bnd (slices_Max k o8.2) fun y16 =>
  some ((y10, y12, ()), (y14, y16, ()), ())
noncomputable def tourref2_Around.sp (k : Nat) : Go.Sx.Spec := ⟨(.pair T22 .unit), (.one (.dp T41)), fun x => tourref2_Around k x.1, false⟩
noncomputable def tourref2_Around.cx (k : Nat) : Go.Sx.Ctx := ⟨tys, [(166, slices_Min.sp k), (167, slices_Max.sp k)], eqs, 35, 0, [], false⟩
theorem tourref2_Around.cok (k : Nat) : CtxOk PR (tourref2_Around.cx k) := ctx_ok tysOk eqsOk (FnsOk.cons (slices_Min.ok k) (FnsOk.cons (slices_Max.ok k) FnsOk.nil)) HsOk.nil
noncomputable def tourref2_Around.c1p (a0 : (List V27)) (v1 : Int) (v2 : (List Int)) (v3 : (List Int)) : SL := ⟨[(2, (.val .ptr ⟨0, 0, (0 : Int), 0, 0⟩)), (3, (.val .own (1 : Nat))), (4, (.val .own (2 : Nat))), (7, (.val T22 a0)), (8, (.val T2 (len a0))), (9, (.val T2 v1))], [(0, .cells T41 (((0 : Int), (0 : Int), ()), ((0 : Int), (0 : Int), ()), ())), (1, .row T2 v2 3), (2, .row T2 v3 3)]⟩
noncomputable def tourref2_Around.c1q (o : ((List Int) × (List Int))) : SL := (fun v => ⟨[(2, (.val .ptr ⟨0, 0, (0 : Int), 0, 0⟩)), (3, (.val .own (1 : Nat))), (4, (.val .own (2 : Nat)))], [(0, .cells T41 (((0 : Int), (0 : Int), ()), ((0 : Int), (0 : Int), ()), ())), (1, .row T2 v.1 3), (2, .row T2 v.2 3)]⟩) o
noncomputable def tourref2_Around.c1x (o : ((List Int) × (List Int))) : Ex := (fun _ => (.exit 0)) o
noncomputable def tourref2_Around.c1n (o : ((List Int) × (List Int))) : Nat := (fun _ => 3) o
theorem tourref2_Around.c1_ok (k : Nat) (a0 : (List V27)) : ∀ (n : Nat) (v1 : Int) (v2 : (List Int)) (v3 : (List Int)), Owp (tourref2_Around.c1 k a0 n v1 v2 v3) fun o => LTriple PR (tourref2_Around.cx k) (sub tourref2_Around.code [1, 1, 0, 1, 0, 0]) 3 (tourref2_Around.c1p a0 v1 v2 v3) (tourref2_Around.c1x o) (tourref2_Around.c1n o) (tourref2_Around.c1q o)
  | 0, _, _, _ => fun _ h => nomatch h
  | n + 1, v1, v2, v3 => Owp.of (tourref2_Around.c1.eq_2 ..) (
   Owp.bif (fun e4 =>
   Owp.req fun h5 =>
    Owp.req fun h6 =>
    Owp.req fun h7 =>
    fun y hy => loop_back (tourref2_Around.cok k) hmix 3 (tourref2_Around.c1p a0 (iadd .i64 v1 (1 : Int)) (v2 ++ [(el Z27 a0 v1).1]) (v3 ++ [(el Z27 a0 v1).2.1])) [.dec true, .dec true, .dec true] [] [(0, 0), (1, 12), (2, 17)] (via (finP (And.intro (And.intro (And.intro (And.intro trivial e4) h5) h6) h7) .normal [(0, 0), (1, 12), (2, 17)] (tourref2_Around.c1p a0 (iadd .i64 v1 (1 : Int)) (v2 ++ [(el Z27 a0 v1).1]) (v3 ++ [(el Z27 a0 v1).2.1]))) (by kernel_rfl)) ((tourref2_Around.c1_ok k a0 n (iadd .i64 v1 (1 : Int)) (v2 ++ [(el Z27 a0 v1).1]) (v3 ++ [(el Z27 a0 v1).2.1])).ap hy)) (fun e4 =>
   Owp.some (loop_exit (tourref2_Around.cok k) hmix [.dec false] [] [(0, 0), (1, 1), (2, 2)] (exne 0) (via (finP (And.intro trivial e4) (.exit 0) [(0, 0), (1, 1), (2, 2)] (tourref2_Around.c1q (v2, v3))) (by kernel_rfl)))))
theorem tourref2_Around.way (k : Nat) (a0 : (List V27)) : Owp (tourref2_Around k a0) fun y => ∃ answers cmds, exec PR (tourref2_Around.cx k) tourref2_Around.code 0 (entry (.pair T22 .unit) (a0, ())).st answers (Ret (tourref2_Around.cx k) Try.f111 cmds (.one (.dp T41)) y) := by
  unfold tourref2_Around; exact
   Owp.bnd fun o8 e9 =>
   Owp.bnd fun y10 e11 =>
   Owp.bnd fun y12 e13 =>
   Owp.bnd fun y14 e15 =>
   Owp.bnd fun y16 e17 =>
   Owp.some (⟨[.cut ⟨[.own 3 T2 3, .own 4 T2 3], [(0, 0), (1, 6), (2, 7)], (tourref2_Around.c1p a0 (0 : Int) [] []), 3, (.exit 0), (tourref2_Around.c1q o8), 3⟩, .res (.one (.dp T2)) y10, .res (.one (.dp T2)) y12, .res (.one (.dp T2)) y14, .res (.one (.dp T2)) y16], [], via (cutP trivial [(0, 0), (1, 6), (2, 7)] (tourref2_Around.c1p a0 (0 : Int) [] []) (((tourref2_Around.c1_ok k a0 k (0 : Int) [] []).ap e9).triple) (retP (And.intro (And.intro (And.intro (And.intro trivial e11) e13) e15) e17) (.one (.dp T41)) (((y10, y12, ()), (y14, y16, ()), ()) : V41))) (by kernel_rfl)⟩)
theorem tourref2_Around.ok (k : Nat) : FnOk PR 111 (tourref2_Around.sp k) :=
  fn_ok (tourref2_Around.cok k) hmix Try.func111 (code := tourref2_Around.code) (by kernel_rfl) (by kernel_rfl) (by kernel_rfl) rfl rfl (by kernel_rfl) (by kernel_rfl) (by kernel_rfl) (fun x => Nat.le_of_ble_eq_true (by kernel_rfl)) fun x y hy => (tourref2_Around.way k x.1).ap hy

/-! tourney/tourref2.Both -/
noncomputable def tourref2_Both.code : Code := Func.cd Try.f40
def tourref2_Both.c1 (k : Nat) (a0 : V41) (a1 : V41) : Nat → Int → (List V27) → Option ((List V27))
  | 0, _, _ => none
  | n + 1, v1, v2 =>
   bif' (ilt v1 (len [a0, a1]))
   (req (inL v1 [a0, a1]) <|
    bnd (tourref2_Box k (el Z41 [a0, a1] v1)) fun y5 =>
    bif' y5
    (req (room 16 v2 [(el Z41 [a0, a1] v1).1, (el Z41 [a0, a1] v1).2.1]) <|
     tourref2_Both.c1 k a0 a1 n (iadd .i64 v1 1) (v2 ++ [(el Z41 [a0, a1] v1).1, (el Z41 [a0, a1] v1).2.1]))
    (tourref2_Both.c1 k a0 a1 n (iadd .i64 v1 1) v2))
   (some v2)
def tourref2_Both (k : Nat) (a0 : V41) (a1 : V41) : Option V41 :=
  bnd (tourref2_Both.c1 k a0 a1 k 0 []) fun o9 =>
  bif' (ieq (len o9) 0)
  (some ((0, 0, ()), (0, 0, ()), ()))
  (bnd (tourref2_Around k o9) fun y12 =>
   some y12)
noncomputable def tourref2_Both.sp (k : Nat) : Go.Sx.Spec := ⟨(.pair T41 (.pair T41 .unit)), (.one (.dp T41)), fun x => tourref2_Both k x.1 x.2.1, false⟩
noncomputable def tourref2_Both.cx (k : Nat) : Go.Sx.Ctx := ⟨tys, [(42, tourref2_Box.sp k), (111, tourref2_Around.sp k)], eqs, 33, 0, [], false⟩
theorem tourref2_Both.cok (k : Nat) : CtxOk PR (tourref2_Both.cx k) := ctx_ok tysOk eqsOk (FnsOk.cons (tourref2_Box.ok k) (FnsOk.cons (tourref2_Around.ok k) FnsOk.nil)) HsOk.nil
noncomputable def tourref2_Both.c1p (a0 : V41) (a1 : V41) (v1 : Int) (v2 : (List V27)) : SL := ⟨[(4, (.val .ptr ⟨0, 0, (0 : Int), 0, 0⟩)), (5, (.val .own (1 : Nat))), (11, (.val .own (2 : Nat))), (12, (.val T2 (len [a0, a1]))), (13, (.val T2 v1))], [(0, .cells T41 (((0 : Int), (0 : Int), ()), ((0 : Int), (0 : Int), ()), ())), (1, .row T27 v2 28), (2, .row T41 [a0, a1] 42)]⟩
noncomputable def tourref2_Both.c1q (o : (List V27)) : SL := (fun v => ⟨[(4, (.val .ptr ⟨0, 0, (0 : Int), 0, 0⟩)), (5, (.val .own (1 : Nat)))], [(0, .cells T41 (((0 : Int), (0 : Int), ()), ((0 : Int), (0 : Int), ()), ())), (1, .row T27 v 28)]⟩) o
noncomputable def tourref2_Both.c1x (o : (List V27)) : Ex := (fun _ => (.exit 0)) o
noncomputable def tourref2_Both.c1n (o : (List V27)) : Nat := (fun _ => 2) o
theorem tourref2_Both.c1_ok (k : Nat) (a0 : V41) (a1 : V41) : ∀ (n : Nat) (v1 : Int) (v2 : (List V27)), Owp (tourref2_Both.c1 k a0 a1 n v1 v2) fun o => LTriple PR (tourref2_Both.cx k) (sub tourref2_Both.code [1, 1, 0, 1, 0, 0]) 3 (tourref2_Both.c1p a0 a1 v1 v2) (tourref2_Both.c1x o) (tourref2_Both.c1n o) (tourref2_Both.c1q o)
  | 0, _, _ => fun _ h => nomatch h
  | n + 1, v1, v2 => Owp.of (tourref2_Both.c1.eq_2 ..) (
   Owp.bif (fun e3 =>
   Owp.req fun h4 =>
    Owp.bnd fun y5 e6 =>
    Owp.bif (fun e7 =>
    Owp.req fun h8 =>
     fun y hy => loop_back (tourref2_Both.cok k) hmix 3 (tourref2_Both.c1p a0 a1 (iadd .i64 v1 (1 : Int)) (v2 ++ [(el Z41 [a0, a1] v1).1, (el Z41 [a0, a1] v1).2.1])) [.dec true, .res (.one (.dp T4)) y5, .dec true, .dec true] [] [(0, 0), (1, 16), (2, 2)] (via (finP (And.intro (And.intro (And.intro (And.intro (And.intro (And.intro trivial e3) h4) h4) e6) e7) h8) .normal [(0, 0), (1, 16), (2, 2)] (tourref2_Both.c1p a0 a1 (iadd .i64 v1 (1 : Int)) (v2 ++ [(el Z41 [a0, a1] v1).1, (el Z41 [a0, a1] v1).2.1]))) (by kernel_rfl)) ((tourref2_Both.c1_ok k a0 a1 n (iadd .i64 v1 (1 : Int)) (v2 ++ [(el Z41 [a0, a1] v1).1, (el Z41 [a0, a1] v1).2.1])).ap hy)) (fun e7 =>
    fun y hy => loop_back (tourref2_Both.cok k) hmix 3 (tourref2_Both.c1p a0 a1 (iadd .i64 v1 (1 : Int)) v2) [.dec true, .res (.one (.dp T4)) y5, .dec false] [] [(0, 0), (1, 1), (2, 2)] (via (finP (And.intro (And.intro (And.intro (And.intro (And.intro trivial e3) h4) h4) e6) e7) .normal [(0, 0), (1, 1), (2, 2)] (tourref2_Both.c1p a0 a1 (iadd .i64 v1 (1 : Int)) v2)) (by kernel_rfl)) ((tourref2_Both.c1_ok k a0 a1 n (iadd .i64 v1 (1 : Int)) v2).ap hy))) (fun e3 =>
   Owp.some (loop_exit (tourref2_Both.cok k) hmix [.dec false] [] [(0, 0), (1, 1)] (exne 0) (via (finP (And.intro trivial e3) (.exit 0) [(0, 0), (1, 1)] (tourref2_Both.c1q v2)) (by kernel_rfl)))))
theorem tourref2_Both.way (k : Nat) (a0 : V41) (a1 : V41) : Owp (tourref2_Both k a0 a1) fun y => ∃ answers cmds, exec PR (tourref2_Both.cx k) tourref2_Both.code 0 (entry (.pair T41 (.pair T41 .unit)) (a0, a1, ())).st answers (Ret (tourref2_Both.cx k) Try.f40 cmds (.one (.dp T41)) y) := by
  unfold tourref2_Both; exact
   Owp.bnd fun o9 e10 =>
   Owp.bif (fun e11 =>
   Owp.some (⟨[.dec true, .dec true, .cut ⟨[], [(0, 2), (1, 3), (2, 7)], (tourref2_Both.c1p a0 a1 (0 : Int) []), 3, (.exit 0), (tourref2_Both.c1q o9), 2⟩, .dec true], [], via (cutP trivial [(0, 2), (1, 3), (2, 7)] (tourref2_Both.c1p a0 a1 (0 : Int) []) (((tourref2_Both.c1_ok k a0 a1 k (0 : Int) []).ap e10).triple) (retP (And.intro trivial e11) (.one (.dp T41)) ((((0 : Int), (0 : Int), ()), ((0 : Int), (0 : Int), ()), ()) : V41))) (by kernel_rfl)⟩)) (fun e11 =>
   Owp.bnd fun y12 e13 =>
    Owp.some (⟨[.dec true, .dec true, .cut ⟨[], [(0, 2), (1, 3), (2, 7)], (tourref2_Both.c1p a0 a1 (0 : Int) []), 3, (.exit 0), (tourref2_Both.c1q o9), 2⟩, .dec false, .res (.one (.dp T41)) y12], [], via (cutP trivial [(0, 2), (1, 3), (2, 7)] (tourref2_Both.c1p a0 a1 (0 : Int) []) (((tourref2_Both.c1_ok k a0 a1 k (0 : Int) []).ap e10).triple) (retP (And.intro (And.intro trivial e11) e13) (.one (.dp T41)) (y12 : V41))) (by kernel_rfl)⟩))
theorem tourref2_Both.ok (k : Nat) : FnOk PR 40 (tourref2_Both.sp k) :=
  fn_ok (tourref2_Both.cok k) hmix Try.func40 (code := tourref2_Both.code) (by kernel_rfl) (by kernel_rfl) (by kernel_rfl) rfl rfl (by kernel_rfl) (by kernel_rfl) (by kernel_rfl) (fun x => Nat.le_of_ble_eq_true (by kernel_rfl)) fun x y hy => (tourref2_Both.way k x.1 x.2.1).ap hy

/-! tourney/tourref2.Pairs -/
noncomputable def tourref2_Pairs.code : Code := Func.cd Try.f43
def tourref2_Pairs.c3 (k : Nat) (v1 : Int) (v4 : Int) (v5 : (List (List Int))) (y9 : Bool) : Option ((List (List Int))) :=
  bif' y9
  (req (room 16 v5 [[v1, v4]]) <|
   some (v5 ++ [[v1, v4]]))
  (some v5)
def tourref2_Pairs.c2 (k : Nat) (a0 : (List V41)) (v1 : Int) : Nat → Int → (List (List Int)) → Option ((List (List Int)))
  | 0, _, _ => none
  | n + 1, v4, v5 =>
   bif' (ilt v4 (len a0))
   (req (inL v1 a0) <|
    req (inL v4 a0) <|
    bnd (tourref2_Touch k (el Z41 a0 v1) (el Z41 a0 v4)) fun y9 =>
    bnd (tourref2_Pairs.c3 k v1 v4 v5 y9) fun o13 =>
    tourref2_Pairs.c2 k a0 v1 n (iadd .i64 v4 1) o13)
   (some v5)
def tourref2_Pairs.c1 (k : Nat) (a0 : (List V41)) : Nat → Int → (List (List Int)) → Option ((List (List Int)))
  | 0, _, _ => none
  | n + 1, v1, v2 =>
   bif' (ilt v1 (len a0))
   (bnd (tourref2_Pairs.c2 k a0 v1 k (iadd .i64 v1 1) v2) fun o15 =>
    tourref2_Pairs.c1 k a0 n (iadd .i64 v1 1) o15)
   (some v2)
def tourref2_Pairs (k : Nat) (a0 : (List V41)) : Option (List (List Int)) :=
  bnd (tourref2_Pairs.c1 k a0 k 0 []) fun o17 =>
  some o17
noncomputable def tourref2_Pairs.sp (k : Nat) : Go.Sx.Spec := ⟨(.pair (.slice T41) .unit), (.one (.ow (.arr 2 T2) 49)), fun x => tourref2_Pairs k x.1, false⟩
noncomputable def tourref2_Pairs.cx (k : Nat) : Go.Sx.Ctx := ⟨tys, [(39, tourref2_Touch.sp k)], eqs, 36, 0, [], false⟩
theorem tourref2_Pairs.cok (k : Nat) : CtxOk PR (tourref2_Pairs.cx k) := ctx_ok tysOk eqsOk (FnsOk.cons (tourref2_Touch.ok k) FnsOk.nil) HsOk.nil
noncomputable def tourref2_Pairs.c3p (a0 : (List V41)) (v1 : Int) (v4 : Int) (v5 : (List (List Int))) (y9 : Bool) : SL := ⟨[(0, (.val (.slice T41) a0)), (3, (.val .own (0 : Nat))), (4, (.val T2 v1)), (5, (.val T2 v4)), (7, (.val T2 (len a0))), (8, (.val T2 v1)), (27, (.val T4 y9))], [(0, .row (.arr 2 T2) v5 49)]⟩
noncomputable def tourref2_Pairs.c3q (a0 : (List V41)) (v1 : Int) (v4 : Int) (o : (List (List Int))) : SL := (fun v => ⟨[(0, (.val (.slice T41) a0)), (3, (.val .own (0 : Nat))), (4, (.val T2 v1)), (5, (.val T2 v4)), (7, (.val T2 (len a0))), (8, (.val T2 v1))], [(0, .row (.arr 2 T2) v 49)]⟩) o
noncomputable def tourref2_Pairs.c3x (o : (List (List Int))) : Ex := (fun _ => .normal) o
noncomputable def tourref2_Pairs.c3n (o : (List (List Int))) : Nat := (fun _ => 1) o
theorem tourref2_Pairs.c3_ok (k : Nat) (a0 : (List V41)) (v1 : Int) (v4 : Int) (v5 : (List (List Int))) (y9 : Bool) : Owp (tourref2_Pairs.c3 k v1 v4 v5 y9) fun o => Triple PR (tourref2_Pairs.cx k) (sub tourref2_Pairs.code [1, 1, 0, 1, 0, 0, 1, 1, 0, 0, 1, 1, 0, 0, 1, 0, 0, 1]) 1 (tourref2_Pairs.c3p a0 v1 v4 v5 y9) (tourref2_Pairs.c3x o) (tourref2_Pairs.c3n o) (tourref2_Pairs.c3q a0 v1 v4 o) := by
  unfold tourref2_Pairs.c3; exact
   Owp.bif (fun e11 =>
   Owp.req fun h12 =>
    Owp.some (triple_way (tourref2_Pairs.cok k) hmix [.dec true, .dec true] [] [(0, 6)] (via (finP (And.intro (And.intro trivial e11) h12) .normal [(0, 6)] (tourref2_Pairs.c3q a0 v1 v4 (v5 ++ [[v1, v4]]))) (by kernel_rfl)))) (fun e11 =>
   Owp.some (triple_way (tourref2_Pairs.cok k) hmix [.dec false] [] [(0, 0)] (via (finP (And.intro trivial e11) .normal [(0, 0)] (tourref2_Pairs.c3q a0 v1 v4 v5)) (by kernel_rfl))))
noncomputable def tourref2_Pairs.c2p (a0 : (List V41)) (v1 : Int) (v4 : Int) (v5 : (List (List Int))) : SL := ⟨[(0, (.val (.slice T41) a0)), (3, (.val .own (0 : Nat))), (4, (.val T2 v1)), (5, (.val T2 v4)), (7, (.val T2 (len a0))), (8, (.val T2 v1))], [(0, .row (.arr 2 T2) v5 49)]⟩
noncomputable def tourref2_Pairs.c2q (a0 : (List V41)) (v1 : Int) (o : (List (List Int))) : SL := (fun v => ⟨[(0, (.val (.slice T41) a0)), (3, (.val .own (0 : Nat))), (7, (.val T2 (len a0))), (8, (.val T2 v1))], [(0, .row (.arr 2 T2) v 49)]⟩) o
noncomputable def tourref2_Pairs.c2x (o : (List (List Int))) : Ex := (fun _ => (.exit 2)) o
noncomputable def tourref2_Pairs.c2n (o : (List (List Int))) : Nat := (fun _ => 1) o
theorem tourref2_Pairs.c2_ok (k : Nat) (a0 : (List V41)) (v1 : Int) : ∀ (n : Nat) (v4 : Int) (v5 : (List (List Int))), Owp (tourref2_Pairs.c2 k a0 v1 n v4 v5) fun o => LTriple PR (tourref2_Pairs.cx k) (sub tourref2_Pairs.code [1, 1, 0, 1, 0, 0, 1, 1, 0, 0, 1, 1, 0, 0]) 1 (tourref2_Pairs.c2p a0 v1 v4 v5) (tourref2_Pairs.c2x o) (tourref2_Pairs.c2n o) (tourref2_Pairs.c2q a0 v1 o)
  | 0, _, _ => fun _ h => nomatch h
  | n + 1, v4, v5 => Owp.of (tourref2_Pairs.c2.eq_2 ..) (
   Owp.bif (fun e6 =>
   Owp.req fun h7 =>
    Owp.req fun h8 =>
    Owp.bnd fun y9 e10 =>
    Owp.bnd fun o13 e14 =>
    fun y hy => loop_back (tourref2_Pairs.cok k) hmix 1 (tourref2_Pairs.c2p a0 v1 (iadd .i64 v4 (1 : Int)) o13) [.dec true, .res (.one (.dp T4)) y9, .cut ⟨[], [(0, 0)], (tourref2_Pairs.c3p a0 v1 v4 v5 y9), 1, .normal, (tourref2_Pairs.c3q a0 v1 v4 o13), 1⟩] [] [(0, 0)] (via (cutP (And.intro (And.intro (And.intro (And.intro trivial e6) h7) h8) e10) [(0, 0)] (tourref2_Pairs.c3p a0 v1 v4 v5 y9) (((tourref2_Pairs.c3_ok k a0 v1 v4 v5 y9).ap e14)) (finP trivial .normal [(0, 0)] (tourref2_Pairs.c2p a0 v1 (iadd .i64 v4 (1 : Int)) o13))) (by kernel_rfl)) ((tourref2_Pairs.c2_ok k a0 v1 n (iadd .i64 v4 (1 : Int)) o13).ap hy)) (fun e6 =>
   Owp.some (loop_exit (tourref2_Pairs.cok k) hmix [.dec false] [] [(0, 0)] (exne 2) (via (finP (And.intro trivial e6) (.exit 2) [(0, 0)] (tourref2_Pairs.c2q a0 v1 v5)) (by kernel_rfl)))))
noncomputable def tourref2_Pairs.c1p (a0 : (List V41)) (v1 : Int) (v2 : (List (List Int))) : SL := ⟨[(0, (.val (.slice T41) a0)), (3, (.val .own (0 : Nat))), (7, (.val T2 (len a0))), (8, (.val T2 v1))], [(0, .row (.arr 2 T2) v2 49)]⟩
noncomputable def tourref2_Pairs.c1q (o : (List (List Int))) : SL := (fun v => ⟨[(3, (.val .own (0 : Nat)))], [(0, .row (.arr 2 T2) v 49)]⟩) o
noncomputable def tourref2_Pairs.c1x (o : (List (List Int))) : Ex := (fun _ => (.exit 0)) o
noncomputable def tourref2_Pairs.c1n (o : (List (List Int))) : Nat := (fun _ => 1) o
theorem tourref2_Pairs.c1_ok (k : Nat) (a0 : (List V41)) : ∀ (n : Nat) (v1 : Int) (v2 : (List (List Int))), Owp (tourref2_Pairs.c1 k a0 n v1 v2) fun o => LTriple PR (tourref2_Pairs.cx k) (sub tourref2_Pairs.code [1, 1, 0, 1, 0, 0]) 1 (tourref2_Pairs.c1p a0 v1 v2) (tourref2_Pairs.c1x o) (tourref2_Pairs.c1n o) (tourref2_Pairs.c1q o)
  | 0, _, _ => fun _ h => nomatch h
  | n + 1, v1, v2 => Owp.of (tourref2_Pairs.c1.eq_2 ..) (
   Owp.bif (fun e3 =>
   Owp.bnd fun o15 e16 =>
    fun y hy => loop_back (tourref2_Pairs.cok k) hmix 1 (tourref2_Pairs.c1p a0 (iadd .i64 v1 (1 : Int)) o15) [.dec true, .cut ⟨[], [(0, 0)], (tourref2_Pairs.c2p a0 v1 (iadd .i64 v1 (1 : Int)) v2), 1, (.exit 2), (tourref2_Pairs.c2q a0 v1 o15), 1⟩] [] [(0, 0)] (via (cutP (And.intro trivial e3) [(0, 0)] (tourref2_Pairs.c2p a0 v1 (iadd .i64 v1 (1 : Int)) v2) (((tourref2_Pairs.c2_ok k a0 v1 k (iadd .i64 v1 (1 : Int)) v2).ap e16).triple) (finP trivial .normal [(0, 0)] (tourref2_Pairs.c1p a0 (iadd .i64 v1 (1 : Int)) o15))) (by kernel_rfl)) ((tourref2_Pairs.c1_ok k a0 n (iadd .i64 v1 (1 : Int)) o15).ap hy)) (fun e3 =>
   Owp.some (loop_exit (tourref2_Pairs.cok k) hmix [.dec false] [] [(0, 0)] (exne 0) (via (finP (And.intro trivial e3) (.exit 0) [(0, 0)] (tourref2_Pairs.c1q v2)) (by kernel_rfl)))))
theorem tourref2_Pairs.way (k : Nat) (a0 : (List V41)) : Owp (tourref2_Pairs k a0) fun y => ∃ answers cmds, exec PR (tourref2_Pairs.cx k) tourref2_Pairs.code 0 (entry (.pair (.slice T41) .unit) (a0, ())).st answers (Ret (tourref2_Pairs.cx k) Try.f43 cmds (.one (.ow (.arr 2 T2) 49)) y) := by
  unfold tourref2_Pairs; exact
   Owp.bnd fun o17 e18 =>
   Owp.some (⟨[.cut ⟨[.own 3 (.arr 2 T2) 49], [(0, 5)], (tourref2_Pairs.c1p a0 (0 : Int) []), 1, (.exit 0), (tourref2_Pairs.c1q o17), 1⟩], [], via (cutP trivial [(0, 5)] (tourref2_Pairs.c1p a0 (0 : Int) []) (((tourref2_Pairs.c1_ok k a0 k (0 : Int) []).ap e18).triple) (retP trivial (.one (.ow (.arr 2 T2) 49)) (o17 : (List (List Int))))) (by kernel_rfl)⟩)
theorem tourref2_Pairs.ok (k : Nat) : FnOk PR 43 (tourref2_Pairs.sp k) :=
  fn_ok (tourref2_Pairs.cok k) hmix Try.func43 (code := tourref2_Pairs.code) (by kernel_rfl) (by kernel_rfl) (by kernel_rfl) rfl rfl (by kernel_rfl) (by kernel_rfl) (by kernel_rfl) (fun x => Nat.le_of_ble_eq_true (by kernel_rfl)) fun x y hy => (tourref2_Pairs.way k x.1).ap hy

end Go.Proofs.T1
