import Derived.Test.YtcgcnojpcgjnmaaG0
import Derived.Test.YtcgcnojpcgjnmaaG4
import Derived.Test.YtcgcnojpcgjnmaaG8
import Derived.Test.YtcgcnojpcgjnmaaG14
namespace Go.Proofs.T1
open Go Go.Sx Go.Proofs
set_option maxRecDepth 100000
set_option linter.unusedVariables false
/-! slices.Equal[[]tourney/contact.Point,tourney/contact.Point] -/
noncomputable def slices_Equal_70.code : Code := Func.cd Try.f70
def slices_Equal_70.c1 (k : Nat) (a0 : (List (V22 × (V22 × V22)))) (a1 : (List (V22 × (V22 × V22)))) : Nat → Int → Option (Unit ⊕ Unit)
  | 0, _ => none
  | n + 1, v2 =>
   bif' (ilt v2 (len a0))
   (req (inL v2 a0) <|
    req (inL v2 a1) <|
    bif' (Ty.eqb (.pair T22 (.pair T22 T22)) (el (((0 : Int), (0 : Int), ()), ((0 : Int), (0 : Int), ()), (0 : Int), (0 : Int), ()) a0 v2) (el (((0 : Int), (0 : Int), ()), ((0 : Int), (0 : Int), ()), (0 : Int), (0 : Int), ()) a1 v2))
    (slices_Equal_70.c1 k a0 a1 n (iadd .i64 v2 1))
    (some (.inl ())))
   (some (.inr ()))
def slices_Equal_70 (k : Nat) (a0 : (List (V22 × (V22 × V22)))) (a1 : (List (V22 × (V22 × V22)))) : Option Bool :=
  bif' (ine (len a0) (len a1))
  (some false)
  (bnd (slices_Equal_70.c1 k a0 a1 k 0) fun o7 =>
   two o7 (fun y9 =>
   some false) (fun y11 =>
   some true))
noncomputable def slices_Equal_70.sp (k : Nat) : Go.Sx.Spec := ⟨(.pair (.slice (.pair T22 (.pair T22 T22))) (.pair (.slice (.pair T22 (.pair T22 T22))) .unit)), (.one (.dp T4)), fun x => slices_Equal_70 k x.1 x.2.1, false⟩
noncomputable def slices_Equal_70.cx (k : Nat) : Go.Sx.Ctx := ⟨tys, [], eqs, 26, false⟩
theorem slices_Equal_70.cok (k : Nat) : CtxOk PR (slices_Equal_70.cx k) := ctx_ok tysOk eqsOk FnsOk.nil
noncomputable def slices_Equal_70.c1p (a0 : (List (V22 × (V22 × V22)))) (a1 : (List (V22 × (V22 × V22)))) (v2 : Int) : SL := ⟨[(0, (.val (.slice (.pair T22 (.pair T22 T22))) a0)), (1, (.val (.slice (.pair T22 (.pair T22 T22))) a1)), (12, (.val T2 (len a0))), (13, (.val T2 v2))], []⟩
noncomputable def slices_Equal_70.c1q (o : Unit ⊕ Unit) : SL := (fun o => two o (fun v => ⟨[(4, (.val T4 false))], []⟩) (fun v => ⟨[], []⟩)) o
noncomputable def slices_Equal_70.c1x (o : Unit ⊕ Unit) : Ex := (fun o => two o (fun _ => .ret) (fun _ => (.exit 0))) o
noncomputable def slices_Equal_70.c1n (o : Unit ⊕ Unit) : Nat := (fun o => two o (fun _ => 0) (fun _ => 0)) o
theorem slices_Equal_70.c1_ok (k : Nat) (a0 : (List (V22 × (V22 × V22)))) (a1 : (List (V22 × (V22 × V22)))) : ∀ (n : Nat) (v2 : Int), Owp (slices_Equal_70.c1 k a0 a1 n v2) fun o => LTriple PR (slices_Equal_70.cx k) (sub slices_Equal_70.code [1, 1, 0, 1, 0, 0]) 0 (slices_Equal_70.c1p a0 a1 v2) (slices_Equal_70.c1x o) (slices_Equal_70.c1n o) (slices_Equal_70.c1q o)
  | 0, _ => fun _ h => nomatch h
  | n + 1, v2 => Owp.of (slices_Equal_70.c1.eq_2 ..) (
   Owp.bif (fun e3 =>
   Owp.req fun h4 =>
    Owp.req fun h5 =>
    Owp.bif (fun e6 =>
    fun y hy => loop_back (slices_Equal_70.cok k) hmix 0 (slices_Equal_70.c1p a0 a1 (iadd .i64 v2 (1 : Int))) [.dec true, .dec false] [] [] (via (finP (And.intro (And.intro (And.intro (And.intro trivial e3) h4) h5) (congrArg not e6)) .normal [] (slices_Equal_70.c1p a0 a1 (iadd .i64 v2 (1 : Int)))) (by kernel_rfl)) ((slices_Equal_70.c1_ok k a0 a1 n (iadd .i64 v2 (1 : Int))).ap hy)) (fun e6 =>
    Owp.some (loop_exit (slices_Equal_70.cok k) hmix [.dec true, .dec true] [] [] exne_ret (via (finP (And.intro (And.intro (And.intro (And.intro trivial e3) h4) h5) (congrArg not e6)) .ret [] (slices_Equal_70.c1q (.inl ()))) (by kernel_rfl))))) (fun e3 =>
   Owp.some (loop_exit (slices_Equal_70.cok k) hmix [.dec false] [] [] (exne 0) (via (finP (And.intro trivial e3) (.exit 0) [] (slices_Equal_70.c1q (.inr ()))) (by kernel_rfl)))))
theorem slices_Equal_70.way (k : Nat) (a0 : (List (V22 × (V22 × V22)))) (a1 : (List (V22 × (V22 × V22)))) : Owp (slices_Equal_70 k a0 a1) fun y => ∃ answers cmds, exec PR (slices_Equal_70.cx k) slices_Equal_70.code 0 (entry (.pair (.slice (.pair T22 (.pair T22 T22))) (.pair (.slice (.pair T22 (.pair T22 T22))) .unit)) (a0, a1, ())).st answers (Ret (slices_Equal_70.cx k) Try.f70 cmds (.one (.dp T4)) y) := by
  unfold slices_Equal_70; exact
   Owp.bif (fun e1 =>
   Owp.some (⟨[.dec true], [], via (retP (And.intro trivial e1) (.one (.dp T4)) (false : Bool)) (by kernel_rfl)⟩)) (fun e1 =>
   Owp.bnd fun o7 e8 =>
    Owp.two (fun y9 e10 =>
    Owp.some (⟨[.dec false, .cut ⟨[], [], (slices_Equal_70.c1p a0 a1 (0 : Int)), 0, .ret, (slices_Equal_70.c1q (.inl ())), 0⟩], [], via (cutP (And.intro trivial e1) [] (slices_Equal_70.c1p a0 a1 (0 : Int)) (((slices_Equal_70.c1_ok k a0 a1 k (0 : Int)).ap (e8.trans (congrArg some e10))).triple) (retP trivial (.one (.dp T4)) (false : Bool))) (by kernel_rfl)⟩)) (fun y11 e12 =>
    Owp.some (⟨[.dec false, .cut ⟨[], [], (slices_Equal_70.c1p a0 a1 (0 : Int)), 0, (.exit 0), (slices_Equal_70.c1q (.inr ())), 0⟩], [], via (cutP (And.intro trivial e1) [] (slices_Equal_70.c1p a0 a1 (0 : Int)) (((slices_Equal_70.c1_ok k a0 a1 k (0 : Int)).ap (e8.trans (congrArg some e12))).triple) (retP trivial (.one (.dp T4)) (true : Bool))) (by kernel_rfl)⟩)))
theorem slices_Equal_70.ok (k : Nat) : FnOk PR 70 (slices_Equal_70.sp k) :=
  fn_ok (slices_Equal_70.cok k) hmix Try.func70 (code := slices_Equal_70.code) (by kernel_rfl) (by kernel_rfl) (by kernel_rfl) rfl (by kernel_rfl) (by kernel_rfl) (by kernel_rfl) (fun x => Nat.le_of_ble_eq_true (by kernel_rfl)) fun x y hy => (slices_Equal_70.way k x.1 x.2.1).ap hy

/-! tourney/tourlaw2.ContactSays -/
noncomputable def tourlaw2_ContactSays.code : Code := Func.cd Try.f12
def tourlaw2_ContactSays.c1 (k : Nat) (y5 : (List (V22 × (V22 × V22)))) : Option (Bool) :=
  bif' (ine (len y5) 2)
  (some true)
  (req (inL 0 y5) <|
   bif' (Ty.eqb T22 (el (((0 : Int), (0 : Int), ()), ((0 : Int), (0 : Int), ()), (0 : Int), (0 : Int), ()) y5 (0 : Int)).1 ((196608 : Int), (262144 : Int), ()))
   (bif' (ine (el ((0, 0, ()), (0, 0, ()), 0, 0, ()) y5 0).2.2.2.1 22)
    (some true)
    (req (inL 1 y5) <|
     some (ine (el ((0, 0, ()), (0, 0, ()), 0, 0, ()) y5 1).2.2.1 65536)))
   (some true))
def tourlaw2_ContactSays.c2 (k : Nat) (a0 : (List V22)) (a1 : (List V22)) : Option (Bool) :=
  bnd (tourref2_Two k a0 a1) fun y17 =>
  bif' (ine y17 0)
  (some true)
  (bnd (tourref2_Meet k a0 a1) fun y20 =>
   some (!y20))
def tourlaw2_ContactSays (k : Nat) (a0 : (List V22)) (a1 : (List V22)) : Option Bool :=
  bnd (tourlaw2_square k 0 0 4) fun y1 =>
  bnd (tourlaw2_square k 3 1 4) fun y3 =>
  bnd (contact_Of k y1 y3) fun y5 =>
  bnd (tourlaw2_ContactSays.c1 k y5) fun o12 =>
  bif' o12
  (some false)
  (bnd (contact_Of k a0 a1) fun y15 =>
   bnd (tourlaw2_ContactSays.c2 k a0 a1) fun o22 =>
   bif' o22
   (some (ieq (len y15) 0))
   (bnd (tourref2_Points k a0 a1) fun y25 =>
    bnd (slices_Equal_70 k y15 y25) fun y27 =>
    some y27))
noncomputable def tourlaw2_ContactSays.sp (k : Nat) : Go.Sx.Spec := ⟨(.pair T24 (.pair T24 .unit)), (.one (.dp T4)), fun x => tourlaw2_ContactSays k x.1 x.2.1, false⟩
noncomputable def tourlaw2_ContactSays.cx (k : Nat) : Go.Sx.Ctx := ⟨tys, [(69, tourlaw2_square.sp k), (68, contact_Of.sp k), (29, tourref2_Two.sp k), (30, tourref2_Meet.sp k), (71, tourref2_Points.sp k), (70, slices_Equal_70.sp k)], eqs, 56, false⟩
theorem tourlaw2_ContactSays.cok (k : Nat) : CtxOk PR (tourlaw2_ContactSays.cx k) := ctx_ok tysOk eqsOk (FnsOk.cons (tourlaw2_square.ok k) (FnsOk.cons (contact_Of.ok k) (FnsOk.cons (tourref2_Two.ok k) (FnsOk.cons (tourref2_Meet.ok k) (FnsOk.cons (tourref2_Points.ok k) (FnsOk.cons (slices_Equal_70.ok k) FnsOk.nil))))))
noncomputable def tourlaw2_ContactSays.c1p (a0 : (List V22)) (a1 : (List V22)) (y5 : (List (V22 × (V22 × V22)))) : SL := ⟨[(0, (.val T24 a0)), (1, (.val T24 a1)), (5, (.val .own (0 : Nat)))], [(0, .row (.pair T22 (.pair T22 T22)) y5 98)]⟩
noncomputable def tourlaw2_ContactSays.c1q (a0 : (List V22)) (a1 : (List V22)) (o : Bool) : SL := (fun v => ⟨[(0, (.val T24 a0)), (1, (.val T24 a1)), (34, (.val T4 v))], []⟩) o
noncomputable def tourlaw2_ContactSays.c1x (o : Bool) : Ex := (fun _ => .normal) o
noncomputable def tourlaw2_ContactSays.c1n (o : Bool) : Nat := (fun _ => 0) o
theorem tourlaw2_ContactSays.c1_ok (k : Nat) (a0 : (List V22)) (a1 : (List V22)) (y5 : (List (V22 × (V22 × V22)))) : Owp (tourlaw2_ContactSays.c1 k y5) fun o => Triple PR (tourlaw2_ContactSays.cx k) (sub tourlaw2_ContactSays.code [1, 0, 1, 0]) 1 (tourlaw2_ContactSays.c1p a0 a1 y5) (tourlaw2_ContactSays.c1x o) (tourlaw2_ContactSays.c1n o) (tourlaw2_ContactSays.c1q a0 a1 o) := by
  unfold tourlaw2_ContactSays.c1; exact
   Owp.bif (fun e7 =>
   Owp.some (triple_way (tourlaw2_ContactSays.cok k) hmix [.dec true, .dec true, .dec true, .dec true, .dec true, .dec true, .dec true, .dec true, .dec true, .dec true, .dec true, .dec true, .dec true, .dec true, .dec true, .dec true, .dec true, .dec true, .dec true] [] [] (via (finP (And.intro (And.intro (And.intro (And.intro (And.intro (And.intro (And.intro (And.intro (And.intro (And.intro (And.intro (And.intro (And.intro (And.intro (And.intro (And.intro (And.intro (And.intro (And.intro trivial e7) e7) e7) e7) e7) e7) e7) tt) tt) tt) tt) tt) tt) tt) tt) tt) tt) tt) tt) .normal [] (tourlaw2_ContactSays.c1q a0 a1 true)) (by kernel_rfl)))) (fun e7 =>
   Owp.req fun h8 =>
    Owp.bif (fun e9 =>
    Owp.bif (fun e10 =>
     Owp.some (triple_way (tourlaw2_ContactSays.cok k) hmix [.dec false, .dec false, .dec false, .dec false, .dec false, .dec false, .dec false, .dec false, .dec false, .dec false, .dec false, .dec false, .dec false, .dec true, .dec true, .dec true, .dec true, .dec true, .dec true] [] [] (via (finP (And.intro (And.intro (And.intro (And.intro (And.intro (And.intro (And.intro (And.intro (And.intro (And.intro (And.intro (And.intro (And.intro (And.intro (And.intro (And.intro (And.intro (And.intro (And.intro trivial e7) (And.intro e7 h8)) e7) (And.intro e7 h8)) e7) e7) e7) (congrArg not e9)) (And.intro (congrArg not e9) h8)) (congrArg not e9)) (And.intro (congrArg not e9) h8)) (congrArg not e9)) (congrArg not e9)) e10) e10) e10) e10) e10) e10) .normal [] (tourlaw2_ContactSays.c1q a0 a1 true)) (by kernel_rfl)))) (fun e10 =>
     Owp.req fun h11 =>
      Owp.some (triple_way (tourlaw2_ContactSays.cok k) hmix [.dec false, .dec false, .dec false, .dec false, .dec false, .dec false, .dec false, .dec false, .dec false, .dec false, .dec false, .dec false, .dec false, .dec false, .dec false, .dec false, .dec false, .dec false, .dec false] [] [] (via (finP (And.intro (And.intro (And.intro (And.intro (And.intro (And.intro (And.intro (And.intro (And.intro (And.intro (And.intro (And.intro (And.intro (And.intro (And.intro (And.intro (And.intro (And.intro (And.intro trivial e7) (And.intro e7 h8)) e7) (And.intro e7 h8)) e7) e7) e7) (congrArg not e9)) (And.intro (congrArg not e9) h8)) (congrArg not e9)) (And.intro (congrArg not e9) h8)) (congrArg not e9)) (congrArg not e9)) e10) (And.intro e10 h11)) e10) (And.intro e10 h11)) e10) e10) .normal [] (tourlaw2_ContactSays.c1q a0 a1 (ine (el (((0 : Int), (0 : Int), ()), ((0 : Int), (0 : Int), ()), (0 : Int), (0 : Int), ()) y5 (1 : Int)).2.2.1 (65536 : Int)))) (by kernel_rfl))))) (fun e9 =>
    Owp.some (triple_way (tourlaw2_ContactSays.cok k) hmix [.dec false, .dec false, .dec false, .dec false, .dec false, .dec false, .dec false, .dec true, .dec true, .dec true, .dec true, .dec true, .dec true, .dec true, .dec true, .dec true, .dec true, .dec true, .dec true] [] [] (via (finP (And.intro (And.intro (And.intro (And.intro (And.intro (And.intro (And.intro (And.intro (And.intro (And.intro (And.intro (And.intro (And.intro (And.intro (And.intro (And.intro (And.intro (And.intro (And.intro trivial e7) (And.intro e7 h8)) e7) (And.intro e7 h8)) e7) e7) e7) (congrArg not e9)) (congrArg not e9)) (congrArg not e9)) (congrArg not e9)) (congrArg not e9)) (congrArg not e9)) tt) tt) tt) tt) tt) tt) .normal [] (tourlaw2_ContactSays.c1q a0 a1 true)) (by kernel_rfl)))))
noncomputable def tourlaw2_ContactSays.c2p (a0 : (List V22)) (a1 : (List V22)) (y15 : (List (V22 × (V22 × V22)))) : SL := ⟨[(0, (.val T24 a0)), (1, (.val T24 a1)), (6, (.val .own (0 : Nat)))], [(0, .row (.pair T22 (.pair T22 T22)) y15 98)]⟩
noncomputable def tourlaw2_ContactSays.c2q (a0 : (List V22)) (a1 : (List V22)) (y15 : (List (V22 × (V22 × V22)))) (o : Bool) : SL := (fun v => ⟨[(0, (.val T24 a0)), (1, (.val T24 a1)), (6, (.val .own (0 : Nat))), (47, (.val T4 v))], [(0, .row (.pair T22 (.pair T22 T22)) y15 98)]⟩) o
noncomputable def tourlaw2_ContactSays.c2x (o : Bool) : Ex := (fun _ => .normal) o
noncomputable def tourlaw2_ContactSays.c2n (o : Bool) : Nat := (fun _ => 1) o
theorem tourlaw2_ContactSays.c2_ok (k : Nat) (a0 : (List V22)) (a1 : (List V22)) (y15 : (List (V22 × (V22 × V22)))) : Owp (tourlaw2_ContactSays.c2 k a0 a1) fun o => Triple PR (tourlaw2_ContactSays.cx k) (sub tourlaw2_ContactSays.code [1, 1, 1, 0, 0]) 1 (tourlaw2_ContactSays.c2p a0 a1 y15) (tourlaw2_ContactSays.c2x o) (tourlaw2_ContactSays.c2n o) (tourlaw2_ContactSays.c2q a0 a1 y15 o) := by
  unfold tourlaw2_ContactSays.c2; exact
   Owp.bnd fun y17 e18 =>
   Owp.bif (fun e19 =>
   Owp.some (triple_way (tourlaw2_ContactSays.cok k) hmix [.res (.one (.dp T2)) y17, .dec true, .dec true, .dec true, .dec true, .dec true, .dec true] [] [(0, 0)] (via (finP (And.intro (And.intro (And.intro (And.intro (And.intro (And.intro trivial e18) e19) e19) e19) e19) e19) .normal [(0, 0)] (tourlaw2_ContactSays.c2q a0 a1 y15 true)) (by kernel_rfl)))) (fun e19 =>
   Owp.bnd fun y20 e21 =>
    Owp.some (triple_way (tourlaw2_ContactSays.cok k) hmix [.res (.one (.dp T2)) y17, .dec false, .dec false, .dec false, .res (.one (.dp T4)) y20, .dec false, .dec false] [] [(0, 0)] (via (finP (And.intro (And.intro (And.intro (And.intro (And.intro (And.intro trivial e18) e19) e19) (And.intro e19 e21)) e19) e19) .normal [(0, 0)] (tourlaw2_ContactSays.c2q a0 a1 y15 (!y20))) (by kernel_rfl))))
theorem tourlaw2_ContactSays.way (k : Nat) (a0 : (List V22)) (a1 : (List V22)) : Owp (tourlaw2_ContactSays k a0 a1) fun y => ∃ answers cmds, exec PR (tourlaw2_ContactSays.cx k) tourlaw2_ContactSays.code 0 (entry (.pair T24 (.pair T24 .unit)) (a0, a1, ())).st answers (Ret (tourlaw2_ContactSays.cx k) Try.f12 cmds (.one (.dp T4)) y) := by
  unfold tourlaw2_ContactSays; exact
   Owp.bnd fun y1 e2 =>
   Owp.bnd fun y3 e4 =>
   Owp.bnd fun y5 e6 =>
   Owp.bnd fun o12 e13 =>
   Owp.bif (fun e14 =>
   Owp.some (⟨[.res (.one (.ow T22 23)) y1, .res (.one (.ow T22 23)) y3, .res (.one (.ow (.pair T22 (.pair T22 T22)) 98)) y5, .cutR 2 ⟨[], [(0, 3)], (tourlaw2_ContactSays.c1p a0 a1 y5), 1, .normal, (tourlaw2_ContactSays.c1q a0 a1 o12), 0⟩, .dec true], [], via (cutP (And.intro (And.intro (And.intro trivial e2) e4) e6) [(0, 3)] (tourlaw2_ContactSays.c1p a0 a1 y5) (((tourlaw2_ContactSays.c1_ok k a0 a1 y5).ap e13)) (retP (And.intro trivial e14) (.one (.dp T4)) (false : Bool))) (by kernel_rfl)⟩)) (fun e14 =>
   Owp.bnd fun y15 e16 =>
    Owp.bnd fun o22 e23 =>
    Owp.bif (fun e24 =>
    Owp.some (⟨[.res (.one (.ow T22 23)) y1, .res (.one (.ow T22 23)) y3, .res (.one (.ow (.pair T22 (.pair T22 T22)) 98)) y5, .cutR 2 ⟨[], [(0, 3)], (tourlaw2_ContactSays.c1p a0 a1 y5), 1, .normal, (tourlaw2_ContactSays.c1q a0 a1 o12), 0⟩, .dec false, .res (.one (.ow (.pair T22 (.pair T22 T22)) 98)) y15, .cutR 5 ⟨[], [(0, 2)], (tourlaw2_ContactSays.c2p a0 a1 y15), 1, .normal, (tourlaw2_ContactSays.c2q a0 a1 y15 o22), 1⟩, .dec true], [], via (cutP (And.intro (And.intro (And.intro trivial e2) e4) e6) [(0, 3)] (tourlaw2_ContactSays.c1p a0 a1 y5) (((tourlaw2_ContactSays.c1_ok k a0 a1 y5).ap e13)) (cutP (And.intro (And.intro trivial e14) e16) [(0, 2)] (tourlaw2_ContactSays.c2p a0 a1 y15) (((tourlaw2_ContactSays.c2_ok k a0 a1 y15).ap e23)) (retP (And.intro trivial e24) (.one (.dp T4)) ((ieq (len y15) (0 : Int)) : Bool)))) (by kernel_rfl)⟩)) (fun e24 =>
    Owp.bnd fun y25 e26 =>
     Owp.bnd fun y27 e28 =>
     Owp.some (⟨[.res (.one (.ow T22 23)) y1, .res (.one (.ow T22 23)) y3, .res (.one (.ow (.pair T22 (.pair T22 T22)) 98)) y5, .cutR 2 ⟨[], [(0, 3)], (tourlaw2_ContactSays.c1p a0 a1 y5), 1, .normal, (tourlaw2_ContactSays.c1q a0 a1 o12), 0⟩, .dec false, .res (.one (.ow (.pair T22 (.pair T22 T22)) 98)) y15, .cutR 5 ⟨[], [(0, 2)], (tourlaw2_ContactSays.c2p a0 a1 y15), 1, .normal, (tourlaw2_ContactSays.c2q a0 a1 y15 o22), 1⟩, .dec false, .res (.one (.ow (.pair T22 (.pair T22 T22)) 98)) y25, .res (.one (.dp T4)) y27], [], via (cutP (And.intro (And.intro (And.intro trivial e2) e4) e6) [(0, 3)] (tourlaw2_ContactSays.c1p a0 a1 y5) (((tourlaw2_ContactSays.c1_ok k a0 a1 y5).ap e13)) (cutP (And.intro (And.intro trivial e14) e16) [(0, 2)] (tourlaw2_ContactSays.c2p a0 a1 y15) (((tourlaw2_ContactSays.c2_ok k a0 a1 y15).ap e23)) (retP (And.intro (And.intro (And.intro trivial e24) e26) e28) (.one (.dp T4)) (y27 : Bool)))) (by kernel_rfl)⟩)))
theorem tourlaw2_ContactSays.ok (k : Nat) : FnOk PR 12 (tourlaw2_ContactSays.sp k) :=
  fn_ok (tourlaw2_ContactSays.cok k) hmix Try.func12 (code := tourlaw2_ContactSays.code) (by kernel_rfl) (by kernel_rfl) (by kernel_rfl) rfl (by kernel_rfl) (by kernel_rfl) (by kernel_rfl) (fun x => Nat.le_of_ble_eq_true (by kernel_rfl)) fun x y hy => (tourlaw2_ContactSays.way k x.1 x.2.1).ap hy

end Go.Proofs.T1
