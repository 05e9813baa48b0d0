import Derived.Test.YtabllngnpponiaaG0
import Derived.Test.YtabllngnpponiaaG4
import Derived.Test.YtabllngnpponiaaG9
import Derived.Test.YtabllngnpponiaaG12
namespace Go.Proofs.T1
open Go Go.Sx Go.Proofs
set_option maxRecDepth 100000
set_option linter.unusedVariables false
/-! tourney/tourkeep2.RayAlone -/
noncomputable def tourkeep2_RayAlone.code : Code := Func.cd Try.f5
def tourkeep2_RayAlone.c2 (k : Nat) (v12 : Int) (y7 : (Int × (Int × Int))) (y15 : (Int × (Int × Int))) : Option (Bool) :=
  bif' (ieq y15.2.2 4)
  (bif' (ine y7.2.2 0)
   (some true)
   (some (ine v12 y7.1)))
  (some false)
def tourkeep2_RayAlone.c3 (k : Nat) (v12 : Int) (y7 : (Int × (Int × Int))) (y15 : (Int × (Int × Int))) : Option (Bool) :=
  bif' (ine y15.2.2 0)
  (some true)
  (bif' (ine y7.2.2 0)
   (some true)
   (bif' (ilt y15.2.1 y7.2.1)
    (some true)
    (bif' (ieq y15.2.1 y7.2.1)
     (bif' (ilt v12 y7.1)
      (some true)
      (bif' (ieq v12 y7.1)
       (some (ine y15.2.1 y7.2.1))
       (some false)))
     (bif' (ieq v12 y7.1)
      (some (ine y15.2.1 y7.2.1))
      (some false)))))
def tourkeep2_RayAlone.c1 (k : Nat) (y1 : V43) (y3 : V27) (y5 : V27) (y7 : (Int × (Int × Int))) : Nat → Int → Option (Unit ⊕ Unit)
  | 0, _ => none
  | n + 1, v12 =>
   bif' (ilt v12 (len y1.1))
   (req (inL v12 y1.1) <|
    bnd (ray_Cast k [(el Z49 y1.1 v12)] y3 y5) fun y15 =>
    bnd (tourkeep2_RayAlone.c2 k v12 y7 y15) fun o19 =>
    bif' o19
    (tourkeep2_RayAlone.c1 k y1 y3 y5 y7 n (iadd .i64 v12 1))
    (bnd (tourkeep2_RayAlone.c3 k v12 y7 y15) fun o29 =>
     bif' o29
     (some (.inl ()))
     (tourkeep2_RayAlone.c1 k y1 y3 y5 y7 n (iadd .i64 v12 1))))
   (some (.inr ()))
def tourkeep2_RayAlone (k : Nat) (a0 : (List Int)) (a1 : Int) (a2 : Int) (a3 : Int) (a4 : Int) : Option Bool :=
  bnd (tourmake_Scene k a0) fun y1 =>
  bnd (tourkeep2_place k a1 a2) fun y3 =>
  bnd (tourkeep2_place k a3 a4) fun y5 =>
  bnd (ray_Cast k y1.1 y3 y5) fun y7 =>
  bnd (tourkeep2_casts k) fun y9 =>
  bif' y9
  (bnd (tourkeep2_RayAlone.c1 k y1 y3 y5 y7 k 0) fun o32 =>
   two o32 (fun y34 =>
   some false) (fun y36 =>
   bif' (ieq y7.2.2 0)
    (some true)
    (some (ieq y7.2.2 4))))
  (some false)
noncomputable def tourkeep2_RayAlone.sp (k : Nat) : Go.Sx.Spec := ⟨(.pair T31 (.pair T2 (.pair T2 T27))), (.one (.dp T4)), fun x => tourkeep2_RayAlone k x.1 x.2.1 x.2.2.1 x.2.2.2.1 x.2.2.2.2.1, false⟩
noncomputable def tourkeep2_RayAlone.cx (k : Nat) : Go.Sx.Ctx := ⟨tys, [(22, tourmake_Scene.sp k), (23, tourkeep2_place.sp k), (24, ray_Cast.sp k), (25, tourkeep2_casts.sp k)], eqs, 108, 0, [], false⟩
theorem tourkeep2_RayAlone.cok (k : Nat) : CtxOk PR (tourkeep2_RayAlone.cx k) := ctx_ok tysOk eqsOk (FnsOk.cons (tourmake_Scene.ok k) (FnsOk.cons (tourkeep2_place.ok k) (FnsOk.cons (ray_Cast.ok k) (FnsOk.cons (tourkeep2_casts.ok k) FnsOk.nil)))) HsOk.nil
noncomputable def tourkeep2_RayAlone.c2p (v12 : Int) (y1 : V43) (y3 : V27) (y5 : V27) (y7 : (Int × (Int × Int))) (y15 : (Int × (Int × Int))) : SL := ⟨[(12, (.val .ptr ⟨0, 0, (0 : Int), 0, 0⟩)), (13, (.val .ptr ⟨1, 0, (0 : Int), 0, 0⟩)), (14, (.val T2 y7.1)), (15, (.val T2 y7.2.1)), (16, (.val T2 y7.2.2)), (17, (.val T2 v12)), (20, (.val T2 y15.2.1)), (21, (.val T2 y15.2.2)), (41, (.val (.slice T49) y1.1)), (42, (.val T2 (len y1.1))), (43, (.val T2 v12))], [(0, .cells T27 y3), (1, .cells T27 y5)]⟩
noncomputable def tourkeep2_RayAlone.c2q (v12 : Int) (y1 : V43) (y3 : V27) (y5 : V27) (y7 : (Int × (Int × Int))) (y15 : (Int × (Int × Int))) (o : Bool) : SL := (fun v => ⟨[(12, (.val .ptr ⟨0, 0, (0 : Int), 0, 0⟩)), (13, (.val .ptr ⟨1, 0, (0 : Int), 0, 0⟩)), (14, (.val T2 y7.1)), (15, (.val T2 y7.2.1)), (16, (.val T2 y7.2.2)), (17, (.val T2 v12)), (20, (.val T2 y15.2.1)), (21, (.val T2 y15.2.2)), (41, (.val (.slice T49) y1.1)), (42, (.val T2 (len y1.1))), (43, (.val T2 v12)), (57, (.val T4 v))], [(0, .cells T27 y3), (1, .cells T27 y5)]⟩) o
noncomputable def tourkeep2_RayAlone.c2x (o : Bool) : Ex := (fun _ => .normal) o
noncomputable def tourkeep2_RayAlone.c2n (o : Bool) : Nat := (fun _ => 2) o
theorem tourkeep2_RayAlone.c2_ok (k : Nat) (v12 : Int) (y1 : V43) (y3 : V27) (y5 : V27) (y7 : (Int × (Int × Int))) (y15 : (Int × (Int × Int))) : Owp (tourkeep2_RayAlone.c2 k v12 y7 y15) fun o => Triple PR (tourkeep2_RayAlone.cx k) (sub tourkeep2_RayAlone.code [1, 1, 1, 1, 1, 0, 1, 0, 0, 1, 1, 0, 0, 1, 1, 0, 0]) 2 (tourkeep2_RayAlone.c2p v12 y1 y3 y5 y7 y15) (tourkeep2_RayAlone.c2x o) (tourkeep2_RayAlone.c2n o) (tourkeep2_RayAlone.c2q v12 y1 y3 y5 y7 y15 o) := by
  unfold tourkeep2_RayAlone.c2; exact
   Owp.bif (fun e17 =>
   Owp.bif (fun e18 =>
    Owp.some (triple_way (tourkeep2_RayAlone.cok k) hmix [.dec true, .dec true, .dec true, .dec true, .dec true, .dec true, .dec true, .dec true, .dec true] [] [(0, 0), (1, 1)] (via (finP (And.intro (And.intro (And.intro (And.intro (And.intro (And.intro (And.intro (And.intro trivial e17) e17) e17) e18) e18) e18) (And.intro e17 e18)) e17) .normal [(0, 0), (1, 1)] (tourkeep2_RayAlone.c2q v12 y1 y3 y5 y7 y15 true)) (by kernel_rfl)))) (fun e18 =>
    Owp.some (triple_way (tourkeep2_RayAlone.cok k) hmix [.dec true, .dec true, .dec true, .dec false, .dec false, .dec false, .dec true, .dec false, .dec true] [] [(0, 0), (1, 1)] (via (finP (And.intro (And.intro (And.intro (And.intro (And.intro (And.intro (And.intro (And.intro trivial e17) e17) e17) e18) e18) e18) (And.intro e17 e18)) e17) .normal [(0, 0), (1, 1)] (tourkeep2_RayAlone.c2q v12 y1 y3 y5 y7 y15 (ine v12 y7.1))) (by kernel_rfl))))) (fun e17 =>
   Owp.some (triple_way (tourkeep2_RayAlone.cok k) hmix [.dec false, .dec false, .dec false, .dec true, .dec true, .dec true, .dec false, .dec true, .dec false] [] [(0, 0), (1, 1)] (via (finP (And.intro (And.intro (And.intro (And.intro (And.intro trivial e17) e17) e17) e17) e17) .normal [(0, 0), (1, 1)] (tourkeep2_RayAlone.c2q v12 y1 y3 y5 y7 y15 false)) (by kernel_rfl))))
noncomputable def tourkeep2_RayAlone.c3p (v12 : Int) (y1 : V43) (y3 : V27) (y5 : V27) (y7 : (Int × (Int × Int))) (y15 : (Int × (Int × Int))) : SL := ⟨[(12, (.val .ptr ⟨0, 0, (0 : Int), 0, 0⟩)), (13, (.val .ptr ⟨1, 0, (0 : Int), 0, 0⟩)), (14, (.val T2 y7.1)), (15, (.val T2 y7.2.1)), (16, (.val T2 y7.2.2)), (17, (.val T2 v12)), (20, (.val T2 y15.2.1)), (21, (.val T2 y15.2.2)), (41, (.val (.slice T49) y1.1)), (42, (.val T2 (len y1.1))), (43, (.val T2 v12))], [(0, .cells T27 y3), (1, .cells T27 y5)]⟩
noncomputable def tourkeep2_RayAlone.c3q (v12 : Int) (y1 : V43) (y3 : V27) (y5 : V27) (y7 : (Int × (Int × Int))) (o : Bool) : SL := (fun v => ⟨[(12, (.val .ptr ⟨0, 0, (0 : Int), 0, 0⟩)), (13, (.val .ptr ⟨1, 0, (0 : Int), 0, 0⟩)), (14, (.val T2 y7.1)), (15, (.val T2 y7.2.1)), (16, (.val T2 y7.2.2)), (41, (.val (.slice T49) y1.1)), (42, (.val T2 (len y1.1))), (43, (.val T2 v12)), (69, (.val T4 v))], [(0, .cells T27 y3), (1, .cells T27 y5)]⟩) o
noncomputable def tourkeep2_RayAlone.c3x (o : Bool) : Ex := (fun _ => .normal) o
noncomputable def tourkeep2_RayAlone.c3n (o : Bool) : Nat := (fun _ => 2) o
theorem tourkeep2_RayAlone.c3_ok (k : Nat) (v12 : Int) (y1 : V43) (y3 : V27) (y5 : V27) (y7 : (Int × (Int × Int))) (y15 : (Int × (Int × Int))) : Owp (tourkeep2_RayAlone.c3 k v12 y7 y15) fun o => Triple PR (tourkeep2_RayAlone.cx k) (sub tourkeep2_RayAlone.code [1, 1, 1, 1, 1, 0, 1, 0, 0, 1, 1, 0, 0, 1, 1, 0, 1, 1, 0]) 2 (tourkeep2_RayAlone.c3p v12 y1 y3 y5 y7 y15) (tourkeep2_RayAlone.c3x o) (tourkeep2_RayAlone.c3n o) (tourkeep2_RayAlone.c3q v12 y1 y3 y5 y7 o) := by
  unfold tourkeep2_RayAlone.c3; exact
   Owp.bif (fun e22 =>
   Owp.some (triple_way (tourkeep2_RayAlone.cok k) hmix [.dec true, .dec true, .dec true, .dec true, .dec true, .dec true, .dec true, .dec true, .dec true, .dec true, .dec true, .dec true, .dec true, .dec true, .dec true, .dec true, .dec true, .dec true, .dec true, .dec true, .dec true, .dec true, .dec true, .dec true, .dec true, .dec true, .dec true] [] [(0, 0), (1, 1)] (via (finP (And.intro (And.intro (And.intro (And.intro (And.intro (And.intro (And.intro (And.intro (And.intro (And.intro (And.intro (And.intro (And.intro (And.intro (And.intro (And.intro (And.intro (And.intro (And.intro trivial e22) e22) e22) tt) tt) tt) tt) tt) tt) tt) tt) tt) tt) tt) tt) tt) tt) tt) tt) .normal [(0, 0), (1, 1)] (tourkeep2_RayAlone.c3q v12 y1 y3 y5 y7 true)) (by kernel_rfl)))) (fun e22 =>
   Owp.bif (fun e23 =>
    Owp.some (triple_way (tourkeep2_RayAlone.cok k) hmix [.dec false, .dec false, .dec false, .dec true, .dec true, .dec true, .dec true, .dec true, .dec true, .dec true, .dec true, .dec true, .dec true, .dec true, .dec true, .dec true, .dec true, .dec true, .dec true, .dec true, .dec true, .dec true, .dec true, .dec true, .dec true, .dec true, .dec true] [] [(0, 0), (1, 1)] (via (finP (And.intro (And.intro (And.intro (And.intro (And.intro (And.intro (And.intro (And.intro (And.intro (And.intro (And.intro (And.intro (And.intro (And.intro (And.intro (And.intro (And.intro (And.intro (And.intro trivial e22) e22) e22) e23) e23) e23) e23) tt) tt) tt) tt) tt) tt) tt) tt) tt) tt) tt) tt) .normal [(0, 0), (1, 1)] (tourkeep2_RayAlone.c3q v12 y1 y3 y5 y7 true)) (by kernel_rfl)))) (fun e23 =>
    Owp.bif (fun e24 =>
     Owp.some (triple_way (tourkeep2_RayAlone.cok k) hmix [.dec false, .dec false, .dec false, .dec false, .dec false, .dec false, .dec false, .dec true, .dec true, .dec true, .dec true, .dec true, .dec true, .dec true, .dec true, .dec true, .dec true, .dec true, .dec true, .dec true, .dec true, .dec true, .dec true, .dec true, .dec true, .dec true, .dec true] [] [(0, 0), (1, 1)] (via (finP (And.intro (And.intro (And.intro (And.intro (And.intro (And.intro (And.intro (And.intro (And.intro (And.intro (And.intro (And.intro (And.intro (And.intro (And.intro (And.intro (And.intro (And.intro (And.intro trivial e22) e22) e22) e23) e23) e23) e23) e24) e24) e24) e24) e24) e24) tt) tt) tt) tt) tt) tt) .normal [(0, 0), (1, 1)] (tourkeep2_RayAlone.c3q v12 y1 y3 y5 y7 true)) (by kernel_rfl)))) (fun e24 =>
     Owp.bif (fun e25 =>
      Owp.bif (fun e26 =>
       Owp.some (triple_way (tourkeep2_RayAlone.cok k) hmix [.dec false, .dec false, .dec false, .dec false, .dec false, .dec false, .dec false, .dec false, .dec false, .dec false, .dec false, .dec true, .dec true, .dec true, .dec false, .dec true, .dec false, .dec true, .dec true, .dec true, .dec true, .dec true, .dec true, .dec true, .dec true, .dec true, .dec true] [] [(0, 0), (1, 1)] (via (finP (And.intro (And.intro (And.intro (And.intro (And.intro (And.intro (And.intro (And.intro (And.intro (And.intro (And.intro (And.intro (And.intro (And.intro (And.intro (And.intro (And.intro (And.intro (And.intro (And.intro (And.intro (And.intro trivial e22) e22) e22) e23) e23) e23) e23) e24) e24) e24) e24) e25) e25) e25) (And.intro e24 e25)) e24) e26) e26) e26) e26) e26) e26) .normal [(0, 0), (1, 1)] (tourkeep2_RayAlone.c3q v12 y1 y3 y5 y7 true)) (by kernel_rfl)))) (fun e26 =>
       Owp.bif (fun e27 =>
        Owp.some (triple_way (tourkeep2_RayAlone.cok k) hmix [.dec false, .dec false, .dec false, .dec false, .dec false, .dec false, .dec false, .dec false, .dec false, .dec false, .dec false, .dec true, .dec true, .dec true, .dec false, .dec true, .dec false, .dec false, .dec false, .dec false, .dec false, .dec true, .dec true, .dec true, .dec false, .dec true, .dec false] [] [(0, 0), (1, 1)] (via (finP (And.intro (And.intro (And.intro (And.intro (And.intro (And.intro (And.intro (And.intro (And.intro (And.intro (And.intro (And.intro (And.intro (And.intro (And.intro (And.intro (And.intro (And.intro (And.intro (And.intro (And.intro (And.intro (And.intro (And.intro (And.intro trivial e22) e22) e22) e23) e23) e23) e23) e24) e24) e24) e24) e25) e25) e25) (And.intro e24 e25)) e24) e26) e26) e26) e26) e27) e27) e27) (And.intro e26 e27)) e26) .normal [(0, 0), (1, 1)] (tourkeep2_RayAlone.c3q v12 y1 y3 y5 y7 (ine y15.2.1 y7.2.1))) (by kernel_rfl)))) (fun e27 =>
        Owp.some (triple_way (tourkeep2_RayAlone.cok k) hmix [.dec false, .dec false, .dec false, .dec false, .dec false, .dec false, .dec false, .dec false, .dec false, .dec false, .dec false, .dec true, .dec true, .dec true, .dec false, .dec true, .dec false, .dec false, .dec false, .dec false, .dec false, .dec false, .dec false, .dec false, .dec false, .dec false, .dec false] [] [(0, 0), (1, 1)] (via (finP (And.intro (And.intro (And.intro (And.intro (And.intro (And.intro (And.intro (And.intro (And.intro (And.intro (And.intro (And.intro (And.intro (And.intro (And.intro (And.intro (And.intro (And.intro (And.intro (And.intro (And.intro (And.intro (And.intro (And.intro (And.intro trivial e22) e22) e22) e23) e23) e23) e23) e24) e24) e24) e24) e25) e25) e25) (And.intro e24 e25)) e24) e26) e26) e26) e26) e27) e27) e27) (And.intro e26 e27)) e26) .normal [(0, 0), (1, 1)] (tourkeep2_RayAlone.c3q v12 y1 y3 y5 y7 false)) (by kernel_rfl)))))) (fun e25 =>
      Owp.bif (fun e28 =>
       Owp.some (triple_way (tourkeep2_RayAlone.cok k) hmix [.dec false, .dec false, .dec false, .dec false, .dec false, .dec false, .dec false, .dec false, .dec false, .dec false, .dec false, .dec false, .dec false, .dec false, .dec false, .dec false, .dec false, .dec false, .dec false, .dec false, .dec false, .dec true, .dec true, .dec true, .dec false, .dec true, .dec false] [] [(0, 0), (1, 1)] (via (finP (And.intro (And.intro (And.intro (And.intro (And.intro (And.intro (And.intro (And.intro (And.intro (And.intro (And.intro (And.intro (And.intro (And.intro (And.intro (And.intro (And.intro (And.intro (And.intro (And.intro (And.intro (And.intro (And.intro (And.intro (And.intro trivial e22) e22) e22) e23) e23) e23) e23) e24) e24) e24) e24) e25) e25) e25) (And.intro e24 e25)) e24) ff) ff) ff) ff) e28) e28) e28) (And.intro ff e28)) ff) .normal [(0, 0), (1, 1)] (tourkeep2_RayAlone.c3q v12 y1 y3 y5 y7 (ine y15.2.1 y7.2.1))) (by kernel_rfl)))) (fun e28 =>
       Owp.some (triple_way (tourkeep2_RayAlone.cok k) hmix [.dec false, .dec false, .dec false, .dec false, .dec false, .dec false, .dec false, .dec false, .dec false, .dec false, .dec false, .dec false, .dec false, .dec false, .dec false, .dec false, .dec false, .dec false, .dec false, .dec false, .dec false, .dec false, .dec false, .dec false, .dec false, .dec false, .dec false] [] [(0, 0), (1, 1)] (via (finP (And.intro (And.intro (And.intro (And.intro (And.intro (And.intro (And.intro (And.intro (And.intro (And.intro (And.intro (And.intro (And.intro (And.intro (And.intro (And.intro (And.intro (And.intro (And.intro (And.intro (And.intro (And.intro (And.intro (And.intro (And.intro trivial e22) e22) e22) e23) e23) e23) e23) e24) e24) e24) e24) e25) e25) e25) (And.intro e24 e25)) e24) ff) ff) ff) ff) e28) e28) e28) (And.intro ff e28)) ff) .normal [(0, 0), (1, 1)] (tourkeep2_RayAlone.c3q v12 y1 y3 y5 y7 false)) (by kernel_rfl))))))))
noncomputable def tourkeep2_RayAlone.c1p (y1 : V43) (y3 : V27) (y5 : V27) (y7 : (Int × (Int × Int))) (v12 : Int) : SL := ⟨[(12, (.val .ptr ⟨0, 0, (0 : Int), 0, 0⟩)), (13, (.val .ptr ⟨1, 0, (0 : Int), 0, 0⟩)), (14, (.val T2 y7.1)), (15, (.val T2 y7.2.1)), (16, (.val T2 y7.2.2)), (41, (.val (.slice T49) y1.1)), (42, (.val T2 (len y1.1))), (43, (.val T2 v12))], [(0, .cells T27 y3), (1, .cells T27 y5)]⟩
noncomputable def tourkeep2_RayAlone.c1q (y7 : (Int × (Int × Int))) (o : Unit ⊕ Unit) : SL := (fun o => two o (fun v => ⟨[(10, (.val T4 false))], []⟩) (fun v => ⟨[(16, (.val T2 y7.2.2))], []⟩)) o
noncomputable def tourkeep2_RayAlone.c1x (o : Unit ⊕ Unit) : Ex := (fun o => two o (fun _ => .ret) (fun _ => (.exit 0))) o
noncomputable def tourkeep2_RayAlone.c1n (o : Unit ⊕ Unit) : Nat := (fun o => two o (fun _ => 0) (fun _ => 0)) o
theorem tourkeep2_RayAlone.c1_ok (k : Nat) (y1 : V43) (y3 : V27) (y5 : V27) (y7 : (Int × (Int × Int))) : ∀ (n : Nat) (v12 : Int), Owp (tourkeep2_RayAlone.c1 k y1 y3 y5 y7 n v12) fun o => LTriple PR (tourkeep2_RayAlone.cx k) (sub tourkeep2_RayAlone.code [1, 1, 1, 1, 1, 0, 1, 0, 0]) 2 (tourkeep2_RayAlone.c1p y1 y3 y5 y7 v12) (tourkeep2_RayAlone.c1x o) (tourkeep2_RayAlone.c1n o) (tourkeep2_RayAlone.c1q y7 o)
  | 0, _ => fun _ h => nomatch h
  | n + 1, v12 => Owp.of (tourkeep2_RayAlone.c1.eq_2 ..) (
   Owp.bif (fun e13 =>
   Owp.req fun h14 =>
    Owp.bnd fun y15 e16 =>
    Owp.bnd fun o19 e20 =>
    Owp.bif (fun e21 =>
    fun y hy => loop_back (tourkeep2_RayAlone.cok k) hmix 2 (tourkeep2_RayAlone.c1p y1 y3 y5 y7 (iadd .i64 v12 (1 : Int))) [.dec true, .dec true, .res (.more (.dp T2) (.more (.dp T2) (.one (.dp T2)))) y15, .cutR 10 ⟨[], [(0, 0), (1, 1)], (tourkeep2_RayAlone.c2p v12 y1 y3 y5 y7 y15), 2, .normal, (tourkeep2_RayAlone.c2q v12 y1 y3 y5 y7 y15 o19), 2⟩, .dec true] [] [(0, 0), (1, 1)] (via (cutP (And.intro (And.intro (And.intro trivial e13) h14) e16) [(0, 0), (1, 1)] (tourkeep2_RayAlone.c2p v12 y1 y3 y5 y7 y15) (((tourkeep2_RayAlone.c2_ok k v12 y1 y3 y5 y7 y15).ap e20)) (finP (And.intro trivial e21) .normal [(0, 0), (1, 1)] (tourkeep2_RayAlone.c1p y1 y3 y5 y7 (iadd .i64 v12 (1 : Int))))) (by kernel_rfl)) ((tourkeep2_RayAlone.c1_ok k y1 y3 y5 y7 n (iadd .i64 v12 (1 : Int))).ap hy)) (fun e21 =>
    Owp.bnd fun o29 e30 =>
     Owp.bif (fun e31 =>
     Owp.some (loop_exit (tourkeep2_RayAlone.cok k) hmix [.dec true, .dec true, .res (.more (.dp T2) (.more (.dp T2) (.one (.dp T2)))) y15, .cutR 10 ⟨[], [(0, 0), (1, 1)], (tourkeep2_RayAlone.c2p v12 y1 y3 y5 y7 y15), 2, .normal, (tourkeep2_RayAlone.c2q v12 y1 y3 y5 y7 y15 o19), 2⟩, .dec false, .cutR 11 ⟨[], [(0, 0), (1, 1)], (tourkeep2_RayAlone.c3p v12 y1 y3 y5 y7 y15), 2, .normal, (tourkeep2_RayAlone.c3q v12 y1 y3 y5 y7 o29), 2⟩, .dec true] [] [] exne_ret (via (cutP (And.intro (And.intro (And.intro trivial e13) h14) e16) [(0, 0), (1, 1)] (tourkeep2_RayAlone.c2p v12 y1 y3 y5 y7 y15) (((tourkeep2_RayAlone.c2_ok k v12 y1 y3 y5 y7 y15).ap e20)) (cutP (And.intro trivial e21) [(0, 0), (1, 1)] (tourkeep2_RayAlone.c3p v12 y1 y3 y5 y7 y15) (((tourkeep2_RayAlone.c3_ok k v12 y1 y3 y5 y7 y15).ap e30)) (finP (And.intro trivial e31) .ret [] (tourkeep2_RayAlone.c1q y7 (.inl ()))))) (by kernel_rfl)))) (fun e31 =>
     fun y hy => loop_back (tourkeep2_RayAlone.cok k) hmix 2 (tourkeep2_RayAlone.c1p y1 y3 y5 y7 (iadd .i64 v12 (1 : Int))) [.dec true, .dec true, .res (.more (.dp T2) (.more (.dp T2) (.one (.dp T2)))) y15, .cutR 10 ⟨[], [(0, 0), (1, 1)], (tourkeep2_RayAlone.c2p v12 y1 y3 y5 y7 y15), 2, .normal, (tourkeep2_RayAlone.c2q v12 y1 y3 y5 y7 y15 o19), 2⟩, .dec false, .cutR 11 ⟨[], [(0, 0), (1, 1)], (tourkeep2_RayAlone.c3p v12 y1 y3 y5 y7 y15), 2, .normal, (tourkeep2_RayAlone.c3q v12 y1 y3 y5 y7 o29), 2⟩, .dec false] [] [(0, 0), (1, 1)] (via (cutP (And.intro (And.intro (And.intro trivial e13) h14) e16) [(0, 0), (1, 1)] (tourkeep2_RayAlone.c2p v12 y1 y3 y5 y7 y15) (((tourkeep2_RayAlone.c2_ok k v12 y1 y3 y5 y7 y15).ap e20)) (cutP (And.intro trivial e21) [(0, 0), (1, 1)] (tourkeep2_RayAlone.c3p v12 y1 y3 y5 y7 y15) (((tourkeep2_RayAlone.c3_ok k v12 y1 y3 y5 y7 y15).ap e30)) (finP (And.intro trivial e31) .normal [(0, 0), (1, 1)] (tourkeep2_RayAlone.c1p y1 y3 y5 y7 (iadd .i64 v12 (1 : Int)))))) (by kernel_rfl)) ((tourkeep2_RayAlone.c1_ok k y1 y3 y5 y7 n (iadd .i64 v12 (1 : Int))).ap hy)))) (fun e13 =>
   Owp.some (loop_exit (tourkeep2_RayAlone.cok k) hmix [.dec false] [] [] (exne 0) (via (finP (And.intro trivial e13) (.exit 0) [] (tourkeep2_RayAlone.c1q y7 (.inr ()))) (by kernel_rfl)))))
theorem tourkeep2_RayAlone.way (k : Nat) (a0 : (List Int)) (a1 : Int) (a2 : Int) (a3 : Int) (a4 : Int) : Owp (tourkeep2_RayAlone k a0 a1 a2 a3 a4) fun y => ∃ answers cmds, exec PR (tourkeep2_RayAlone.cx k) tourkeep2_RayAlone.code 0 (entry (.pair T31 (.pair T2 (.pair T2 T27))) (a0, a1, a2, a3, a4, ())).st answers (Ret (tourkeep2_RayAlone.cx k) Try.f5 cmds (.one (.dp T4)) y) := by
  unfold tourkeep2_RayAlone; exact
   Owp.bnd fun y1 e2 =>
   Owp.bnd fun y3 e4 =>
   Owp.bnd fun y5 e6 =>
   Owp.bnd fun y7 e8 =>
   Owp.bnd fun y9 e10 =>
   Owp.bif (fun e11 =>
   Owp.bnd fun o32 e33 =>
    Owp.two (fun y34 e35 =>
    Owp.some (⟨[.res (.one (.dp T43)) y1, .res (.one (.dp T27)) y3, .res (.one (.dp T27)) y5, .res (.more (.dp T2) (.more (.dp T2) (.one (.dp T2)))) y7, .res (.one (.dp T4)) y9, .dec false, .cut ⟨[], [(0, 11), (1, 12)], (tourkeep2_RayAlone.c1p y1 y3 y5 y7 (0 : Int)), 2, .ret, (tourkeep2_RayAlone.c1q y7 (.inl ())), 0⟩], [], via (cutP (And.intro (And.intro (And.intro (And.intro (And.intro (And.intro trivial e2) e4) e6) e8) e10) (congrArg not e11)) [(0, 11), (1, 12)] (tourkeep2_RayAlone.c1p y1 y3 y5 y7 (0 : Int)) (((tourkeep2_RayAlone.c1_ok k y1 y3 y5 y7 k (0 : Int)).ap (e33.trans (congrArg some e35))).triple) (retP trivial (.one (.dp T4)) (false : Bool))) (by kernel_rfl)⟩)) (fun y36 e37 =>
    Owp.bif (fun e38 =>
     Owp.some (⟨[.res (.one (.dp T43)) y1, .res (.one (.dp T27)) y3, .res (.one (.dp T27)) y5, .res (.more (.dp T2) (.more (.dp T2) (.one (.dp T2)))) y7, .res (.one (.dp T4)) y9, .dec false, .cut ⟨[], [(0, 11), (1, 12)], (tourkeep2_RayAlone.c1p y1 y3 y5 y7 (0 : Int)), 2, (.exit 0), (tourkeep2_RayAlone.c1q y7 (.inr ())), 0⟩, .dec true, .dec true, .dec true], [], via (cutP (And.intro (And.intro (And.intro (And.intro (And.intro (And.intro trivial e2) e4) e6) e8) e10) (congrArg not e11)) [(0, 11), (1, 12)] (tourkeep2_RayAlone.c1p y1 y3 y5 y7 (0 : Int)) (((tourkeep2_RayAlone.c1_ok k y1 y3 y5 y7 k (0 : Int)).ap (e33.trans (congrArg some e37))).triple) (retP (And.intro (And.intro (And.intro trivial e38) e38) e38) (.one (.dp T4)) (true : Bool))) (by kernel_rfl)⟩)) (fun e38 =>
     Owp.some (⟨[.res (.one (.dp T43)) y1, .res (.one (.dp T27)) y3, .res (.one (.dp T27)) y5, .res (.more (.dp T2) (.more (.dp T2) (.one (.dp T2)))) y7, .res (.one (.dp T4)) y9, .dec false, .cut ⟨[], [(0, 11), (1, 12)], (tourkeep2_RayAlone.c1p y1 y3 y5 y7 (0 : Int)), 2, (.exit 0), (tourkeep2_RayAlone.c1q y7 (.inr ())), 0⟩, .dec false, .dec false, .dec false], [], via (cutP (And.intro (And.intro (And.intro (And.intro (And.intro (And.intro trivial e2) e4) e6) e8) e10) (congrArg not e11)) [(0, 11), (1, 12)] (tourkeep2_RayAlone.c1p y1 y3 y5 y7 (0 : Int)) (((tourkeep2_RayAlone.c1_ok k y1 y3 y5 y7 k (0 : Int)).ap (e33.trans (congrArg some e37))).triple) (retP (And.intro (And.intro (And.intro trivial e38) e38) e38) (.one (.dp T4)) ((ieq y7.2.2 (4 : Int)) : Bool))) (by kernel_rfl)⟩)))) (fun e11 =>
   Owp.some (⟨[.res (.one (.dp T43)) y1, .res (.one (.dp T27)) y3, .res (.one (.dp T27)) y5, .res (.more (.dp T2) (.more (.dp T2) (.one (.dp T2)))) y7, .res (.one (.dp T4)) y9, .dec true], [], via (retP (And.intro (And.intro (And.intro (And.intro (And.intro (And.intro trivial e2) e4) e6) e8) e10) (congrArg not e11)) (.one (.dp T4)) (false : Bool)) (by kernel_rfl)⟩))
theorem tourkeep2_RayAlone.ok (k : Nat) : FnOk PR 5 (tourkeep2_RayAlone.sp k) :=
  fn_ok (tourkeep2_RayAlone.cok k) hmix Try.func5 (code := tourkeep2_RayAlone.code) (by kernel_rfl) (by kernel_rfl) (by kernel_rfl) rfl rfl (by kernel_rfl) (by kernel_rfl) (by kernel_rfl) (fun x => Nat.le_of_ble_eq_true (by kernel_rfl)) fun x y hy => (tourkeep2_RayAlone.way k x.1 x.2.1 x.2.2.1 x.2.2.2.1 x.2.2.2.2.1).ap hy

end Go.Proofs.T1
