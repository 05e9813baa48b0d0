import Derived.Test.YtolkdkhdkfndfaaG0
import Derived.Test.YtolkdkhdkfndfaaG3
import Derived.Test.YtolkdkhdkfndfaaG7
import Derived.Test.YtolkdkhdkfndfaaG8
import Derived.Test.YtolkdkhdkfndfaaG9
import Derived.Test.YtolkdkhdkfndfaaG10
namespace Go.Proofs.T1
open Go Go.Sx Go.Proofs
set_option maxRecDepth 100000
set_option linter.unusedVariables false
noncomputable def tourlaw2_RayShapes.code:Code:=Func.cd Try.f10
def tourlaw2_RayShapes.c1 (k:Nat) (a1:(List V27)) (y8:Int):Option (Int) :=
  bif' (ieq y8 0)
  (bnd (r2_Poly k a1) fun y11 =>
   some y11)
  (some y8)
def tourlaw2_RayShapes.c2 (k:Nat) (o13:Int) (y4:(Int × (Int × Int))) (y6:((List Int) × Int)):Option (Bool) :=
  bif' (ieq y4.2.2 o13)
  (bif' (ieq y6.2 o13)
   (bif' (ieq y4.1 0)
   (bif' (ieq y4.2.1 0)
   (some (ieq (len y6.1) 0))
   (some false))
   (some false))
   (some false))
  (some false)
def tourlaw2_RayShapes.c3 (k:Nat) (a0:(List V67)) (a1:(List V27)):Nat → Int → (List Int) → Option ((List Int))
  | 0,_,_=>none
  | n+1,v22,v23 =>
   bif' (ilt v22 (len a0))
   (req (inL v22 a0) <|
   bnd (r2_Placed k (el Z67 a0 v22)) fun y26 =>
   bnd (r2_Meet k y26 a1) fun y28 =>
   bif' y28
   (req (room 8 v23 [v22]) <|
   tourlaw2_RayShapes.c3 k a0 a1 n (iadd .i64 v22 1) (v23 ++ [v22]))
   (tourlaw2_RayShapes.c3 k a0 a1 n (iadd .i64 v22 1) v23))
   (some v23)
def tourlaw2_RayShapes.c4 (k:Nat) (o32:(List Int)) (y6:((List Int) × Int)):Option (Bool) :=
  bif' (ine y6.2 0)
  (some true)
  (bnd (slices_Equal_62 k y6.1 o32) fun y35 =>
   some (!y35))
def tourlaw2_RayShapes.c5 (k:Nat) (y4:(Int × (Int × Int))):Option (Bool) :=
  bif' (ieq y4.2.2 1)
  (bif' (ieq y4.1 0)
   (some (ieq y4.2.1 0))
   (some false))
  (some false)
def tourlaw2_RayShapes (k:Nat) (a0:(List V67)) (a1:(List V27)) (a2:V27):Option Bool :=
  bnd (tourlaw2_rayBegun k) fun y1 =>
  bif' y1
  (bnd (ray_Shape k a0 a1 a2) fun y4 =>
   bnd (ray_Meet k a0 a1) fun y6 =>
   bnd (r2_Bodies k a0) fun y8 =>
   bnd (tourlaw2_RayShapes.c1 k a1 y8) fun o13 =>
   bif' (ine o13 0)
   (bnd (tourlaw2_RayShapes.c2 k o13 y4 y6) fun o20 =>
   some o20)
   (bnd (tourlaw2_RayShapes.c3 k a0 a1 k 0 []) fun o32 =>
   bnd (tourlaw2_RayShapes.c4 k o32 y6) fun o37 =>
   bif' o37
   (some false)
   (bnd (tourlaw2_near1000 k a2) fun y40 =>
   bif' y40
   (bnd (r2_First k a0 (fun x:((List V27) × Unit)=>tourlaw2_RayShapes_1 k (x.1) a1 a2)) fun y43 =>
   bif' (ieq y4.1 y43.1)
   (bif' (ieq y4.2.1 y43.2.1)
   (some (ieq y4.2.2 y43.2.2))
   (some false))
   (some false))
   (bnd (tourlaw2_RayShapes.c5 k y4) fun o49 =>
   some o49))))
  (some false)
noncomputable def tourlaw2_RayShapes.sp (k:Nat):Go.Sx.Spec:=⟨(.pair (.slice T67) (.pair T22 (.pair T27 .unit))),(.one (.dp T4)),fun x=>tourlaw2_RayShapes k x.1 x.2.1 x.2.2.1,false⟩
noncomputable def tourlaw2_RayShapes.cx (k:Nat):Go.Sx.Ctx:=⟨tys,[(56,tourlaw2_rayBegun.sp k),(57,ray_Shape.sp k),(49,ray_Meet.sp k),(58,r2_Bodies.sp k),(59,r2_Poly.sp k),(61,r2_Placed.sp k),(60,r2_Meet.sp k),(62,slices_Equal_62.sp k),(63,tourlaw2_near1000.sp k),(64,r2_First.sp k),(65,tourlaw2_RayShapes_1.sp k)],eqs,121,0,[],false⟩
theorem tourlaw2_RayShapes.cok (k:Nat):CtxOk PR (tourlaw2_RayShapes.cx k):=ctx_ok tysOk eqsOk (FnsOk.cons (tourlaw2_rayBegun.ok k) (FnsOk.cons (ray_Shape.ok k) (FnsOk.cons (ray_Meet.ok k) (FnsOk.cons (r2_Bodies.ok k) (FnsOk.cons (r2_Poly.ok k) (FnsOk.cons (r2_Placed.ok k) (FnsOk.cons (r2_Meet.ok k) (FnsOk.cons (slices_Equal_62.ok k) (FnsOk.cons (tourlaw2_near1000.ok k) (FnsOk.cons (r2_First.ok k) (FnsOk.cons (tourlaw2_RayShapes_1.ok k) FnsOk.nil))))))))))) HsOk.nil
noncomputable def tourlaw2_RayShapes.c1p (a0:(List V67)) (a1:(List V27)) (a2:V27) (y4:(Int × (Int × Int))) (y6:((List Int) × Int)) (y8:Int):SL:=⟨[(0,(.val (.slice T67) a0)),(4,(.val .ptr ⟨0,0,(0:Int),0,0⟩)),(5,(.val .ptr ⟨1,0,(0:Int),0,0⟩)),(7,(.val T2 y4.1)),(8,(.val T2 y4.2.1)),(9,(.val T2 y4.2.2)),(10,(.val .own (2:Nat))),(11,(.val T2 y6.2)),(12,(.val T2 y8)),(38,(.val T4 (ieq y8 (0:Int))))],[(0,.cells T22 a1),(1,.cells T27 a2),(2,.row T2 y6.1 3)]⟩
noncomputable def tourlaw2_RayShapes.c1q (a0:(List V67)) (a1:(List V27)) (a2:V27) (y4:(Int × (Int × Int))) (y6:((List Int) × Int)) (o:Int):SL:=(fun v=>⟨[(0,(.val (.slice T67) a0)),(4,(.val .ptr ⟨0,0,(0:Int),0,0⟩)),(5,(.val .ptr ⟨1,0,(0:Int),0,0⟩)),(7,(.val T2 y4.1)),(8,(.val T2 y4.2.1)),(9,(.val T2 y4.2.2)),(10,(.val .own (2:Nat))),(11,(.val T2 y6.2)),(12,(.val T2 v))],[(0,.cells T22 a1),(1,.cells T27 a2),(2,.row T2 y6.1 3)]⟩) o
noncomputable def tourlaw2_RayShapes.c1x (o:Int):Ex:=(fun _=>.normal) o
noncomputable def tourlaw2_RayShapes.c1n (o:Int):Nat:=(fun _=>3) o
theorem tourlaw2_RayShapes.c1_ok (k:Nat) (a0:(List V67)) (a1:(List V27)) (a2:V27) (y4:(Int × (Int × Int))) (y6:((List Int) × Int)) (y8:Int):Owp (tourlaw2_RayShapes.c1 k a1 y8) fun o=>Triple PR (tourlaw2_RayShapes.cx k) (sub tourlaw2_RayShapes.code [1,1,1,1,1,0,1]) 3 (tourlaw2_RayShapes.c1p a0 a1 a2 y4 y6 y8) (tourlaw2_RayShapes.c1x o) (tourlaw2_RayShapes.c1n o) (tourlaw2_RayShapes.c1q a0 a1 a2 y4 y6 o):=by
  unfold tourlaw2_RayShapes.c1; exact
   Owp.bif (fun e10 =>
   Owp.bnd fun y11 e12 =>
   Owp.some (triple_way (tourlaw2_RayShapes.cok k) hmix [tT,rS T2 y11] [] [(0,0),(1,1),(2,2)] (via (finP (aI (aI trivial e10) e12) .normal [(0,0),(1,1),(2,2)] (tourlaw2_RayShapes.c1q a0 a1 a2 y4 y6 y11)) (by kernel_rfl)))) (fun e10 =>
   Owp.some (triple_way (tourlaw2_RayShapes.cok k) hmix [fF] [] [(0,0),(1,1),(2,2)] (via (finP (aI trivial e10) .normal [(0,0),(1,1),(2,2)] (tourlaw2_RayShapes.c1q a0 a1 a2 y4 y6 y8)) (by kernel_rfl))))
noncomputable def tourlaw2_RayShapes.c2p (o13:Int) (y4:(Int × (Int × Int))) (y6:((List Int) × Int)):SL:=⟨[(7,(.val T2 y4.1)),(8,(.val T2 y4.2.1)),(9,(.val T2 y4.2.2)),(10,(.val .own (0:Nat))),(11,(.val T2 y6.2)),(12,(.val T2 o13))],[(0,.row T2 y6.1 3)]⟩
noncomputable def tourlaw2_RayShapes.c2q (o:Bool):SL:=(fun v=>⟨[(6,(.val T4 v))],[]⟩) o
noncomputable def tourlaw2_RayShapes.c2x (o:Bool):Ex:=(fun _=>.normal) o
noncomputable def tourlaw2_RayShapes.c2n (o:Bool):Nat:=(fun _=>0) o
theorem tourlaw2_RayShapes.c2_ok (k:Nat) (o13:Int) (y4:(Int × (Int × Int))) (y6:((List Int) × Int)):Owp (tourlaw2_RayShapes.c2 k o13 y4 y6) fun o=>Triple PR (tourlaw2_RayShapes.cx k) (sub tourlaw2_RayShapes.code [1,1,1,1,1,1,0,1,0,0]) 1 (tourlaw2_RayShapes.c2p o13 y4 y6) (tourlaw2_RayShapes.c2x o) (tourlaw2_RayShapes.c2n o) (tourlaw2_RayShapes.c2q o):=by
  unfold tourlaw2_RayShapes.c2; exact
   Owp.bif (fun e16 =>
   Owp.bif (fun e17 =>
   Owp.bif (fun e18 =>
   Owp.bif (fun e19 =>
   Owp.some (triple_way (tourlaw2_RayShapes.cok k) hmix [tT,tT,tT,tT,tT,tT,tT,tT,tT,tT,tT,tT,tT,tT] [] [] (via (finP (aI (aI (aI (aI (aI (aI (aI (aI (aI (aI (aI (aI (aI (aI trivial e16) e16) e16) e16) e17) e17) e17) e18) e18) e18) e19) e19) e19) e19) .normal [] (tourlaw2_RayShapes.c2q (ieq (len y6.1) (0:Int)))) (by kernel_rfl)))) (fun e19 =>
   Owp.some (triple_way (tourlaw2_RayShapes.cok k) hmix [tT,tT,tT,tT,tT,tT,tT,tT,tT,tT,fF,fF,fF,fF] [] [] (via (finP (aI (aI (aI (aI (aI (aI (aI (aI (aI (aI (aI (aI (aI (aI trivial e16) e16) e16) e16) e17) e17) e17) e18) e18) e18) e19) e19) e19) e19) .normal [] (tourlaw2_RayShapes.c2q false)) (by kernel_rfl))))) (fun e18 =>
   Owp.some (triple_way (tourlaw2_RayShapes.cok k) hmix [tT,tT,tT,tT,tT,tT,tT,fF,fF,fF,fF,fF,fF,fF] [] [] (via (finP (aI (aI (aI (aI (aI (aI (aI (aI (aI (aI (aI (aI (aI (aI trivial e16) e16) e16) e16) e17) e17) e17) e18) e18) e18) ff) ff) ff) ff) .normal [] (tourlaw2_RayShapes.c2q false)) (by kernel_rfl))))) (fun e17 =>
   Owp.some (triple_way (tourlaw2_RayShapes.cok k) hmix [tT,tT,tT,tT,fF,fF,fF,fF,fF,fF,fF,fF,fF,fF] [] [] (via (finP (aI (aI (aI (aI (aI (aI (aI (aI (aI (aI (aI (aI (aI (aI trivial e16) e16) e16) e16) e17) e17) e17) ff) ff) ff) ff) ff) ff) ff) .normal [] (tourlaw2_RayShapes.c2q false)) (by kernel_rfl))))) (fun e16 =>
   Owp.some (triple_way (tourlaw2_RayShapes.cok k) hmix [fF,fF,fF,fF,fF,fF,fF,fF,fF,fF,fF,fF,fF,fF] [] [] (via (finP (aI (aI (aI (aI (aI (aI (aI (aI (aI (aI (aI (aI (aI (aI trivial e16) e16) e16) e16) ff) ff) ff) ff) ff) ff) ff) ff) ff) ff) .normal [] (tourlaw2_RayShapes.c2q false)) (by kernel_rfl))))
noncomputable def tourlaw2_RayShapes.c3p (a0:(List V67)) (a1:(List V27)) (a2:V27) (y4:(Int × (Int × Int))) (y6:((List Int) × Int)) (v22:Int) (v23:(List Int)):SL:=⟨[(0,(.val (.slice T67) a0)),(4,(.val .ptr ⟨0,0,(0:Int),0,0⟩)),(5,(.val .ptr ⟨1,0,(0:Int),0,0⟩)),(7,(.val T2 y4.1)),(8,(.val T2 y4.2.1)),(9,(.val T2 y4.2.2)),(10,(.val .own (2:Nat))),(11,(.val T2 y6.2)),(13,(.val .own (3:Nat))),(64,(.val (.slice T67) a0)),(65,(.val T2 (len a0))),(66,(.val T2 v22))],[(0,.cells T22 a1),(1,.cells T27 a2),(2,.row T2 y6.1 3),(3,.row T2 v23 3)]⟩
noncomputable def tourlaw2_RayShapes.c3q (a0:(List V67)) (a1:(List V27)) (a2:V27) (y4:(Int × (Int × Int))) (y6:((List Int) × Int)) (o:(List Int)):SL:=(fun v=>⟨[(0,(.val (.slice T67) a0)),(4,(.val .ptr ⟨0,0,(0:Int),0,0⟩)),(5,(.val .ptr ⟨1,0,(0:Int),0,0⟩)),(7,(.val T2 y4.1)),(8,(.val T2 y4.2.1)),(9,(.val T2 y4.2.2)),(10,(.val .own (2:Nat))),(11,(.val T2 y6.2)),(13,(.val .own (3:Nat)))],[(0,.cells T22 a1),(1,.cells T27 a2),(2,.row T2 y6.1 3),(3,.row T2 v 3)]⟩) o
noncomputable def tourlaw2_RayShapes.c3x (o:(List Int)):Ex:=(fun _=>(.exit 0)) o
noncomputable def tourlaw2_RayShapes.c3n (o:(List Int)):Nat:=(fun _=>4) o
theorem tourlaw2_RayShapes.c3_ok (k:Nat) (a0:(List V67)) (a1:(List V27)) (a2:V27) (y4:(Int × (Int × Int))) (y6:((List Int) × Int)):∀ (n:Nat) (v22:Int) (v23:(List Int)),Owp (tourlaw2_RayShapes.c3 k a0 a1 n v22 v23) fun o=>LTriple PR (tourlaw2_RayShapes.cx k) (sub tourlaw2_RayShapes.code [1,1,1,1,1,1,1,1,0,1,0,0]) 4 (tourlaw2_RayShapes.c3p a0 a1 a2 y4 y6 v22 v23) (tourlaw2_RayShapes.c3x o) (tourlaw2_RayShapes.c3n o) (tourlaw2_RayShapes.c3q a0 a1 a2 y4 y6 o)
  | 0,_,_=>fun _ h=>nomatch h
  | n+1,v22,v23=>Owp.of (tourlaw2_RayShapes.c3.eq_2 ..) (
   Owp.bif (fun e24 =>
   Owp.req fun h25 =>
   Owp.bnd fun y26 e27 =>
   Owp.bnd fun y28 e29 =>
   Owp.bif (fun e30 =>
   Owp.req fun h31 =>
   fun y hy=>loop_back (tourlaw2_RayShapes.cok k) hmix 4 (tourlaw2_RayShapes.c3p a0 a1 a2 y4 y6 (iadd .i64 v22 (1:Int)) (v23 ++ [v22])) [tT,.res (.one (.ow T27 28)) y26,rS T4 y28,tT,tT] [] [(0,0),(1,1),(2,2),(3,18)] (via (finP (aI (aI (aI (aI (aI (aI trivial e24) h25) e27) e29) e30) h31) .normal [(0,0),(1,1),(2,2),(3,18)] (tourlaw2_RayShapes.c3p a0 a1 a2 y4 y6 (iadd .i64 v22 (1:Int)) (v23 ++ [v22]))) (by kernel_rfl)) ((tourlaw2_RayShapes.c3_ok k a0 a1 a2 y4 y6 n (iadd .i64 v22 (1:Int)) (v23 ++ [v22])).ap hy)) (fun e30 =>
   fun y hy=>loop_back (tourlaw2_RayShapes.cok k) hmix 4 (tourlaw2_RayShapes.c3p a0 a1 a2 y4 y6 (iadd .i64 v22 (1:Int)) v23) [tT,.res (.one (.ow T27 28)) y26,rS T4 y28,fF] [] [(0,0),(1,1),(2,2),(3,3)] (via (finP (aI (aI (aI (aI (aI trivial e24) h25) e27) e29) e30) .normal [(0,0),(1,1),(2,2),(3,3)] (tourlaw2_RayShapes.c3p a0 a1 a2 y4 y6 (iadd .i64 v22 (1:Int)) v23)) (by kernel_rfl)) ((tourlaw2_RayShapes.c3_ok k a0 a1 a2 y4 y6 n (iadd .i64 v22 (1:Int)) v23).ap hy))) (fun e24 =>
   Owp.some (loop_exit (tourlaw2_RayShapes.cok k) hmix [fF] [] [(0,0),(1,1),(2,2),(3,3)] (exne 0) (via (finP (aI trivial e24) (.exit 0) [(0,0),(1,1),(2,2),(3,3)] (tourlaw2_RayShapes.c3q a0 a1 a2 y4 y6 v23)) (by kernel_rfl)))))
noncomputable def tourlaw2_RayShapes.c4p (a0:(List V67)) (a1:(List V27)) (a2:V27) (o32:(List Int)) (y4:(Int × (Int × Int))) (y6:((List Int) × Int)):SL:=⟨[(0,(.val (.slice T67) a0)),(4,(.val .ptr ⟨0,0,(0:Int),0,0⟩)),(5,(.val .ptr ⟨1,0,(0:Int),0,0⟩)),(7,(.val T2 y4.1)),(8,(.val T2 y4.2.1)),(9,(.val T2 y4.2.2)),(10,(.val .own (2:Nat))),(11,(.val T2 y6.2)),(13,(.val .own (3:Nat)))],[(0,.cells T22 a1),(1,.cells T27 a2),(2,.row T2 y6.1 3),(3,.row T2 o32 3)]⟩
noncomputable def tourlaw2_RayShapes.c4q (a0:(List V67)) (a1:(List V27)) (a2:V27) (y4:(Int × (Int × Int))) (o:Bool):SL:=(fun v=>⟨[(0,(.val (.slice T67) a0)),(4,(.val .ptr ⟨0,0,(0:Int),0,0⟩)),(5,(.val .ptr ⟨1,0,(0:Int),0,0⟩)),(7,(.val T2 y4.1)),(8,(.val T2 y4.2.1)),(9,(.val T2 y4.2.2)),(87,(.val T4 v))],[(0,.cells T22 a1),(1,.cells T27 a2)]⟩) o
noncomputable def tourlaw2_RayShapes.c4x (o:Bool):Ex:=(fun _=>.normal) o
noncomputable def tourlaw2_RayShapes.c4n (o:Bool):Nat:=(fun _=>2) o
theorem tourlaw2_RayShapes.c4_ok (k:Nat) (a0:(List V67)) (a1:(List V27)) (a2:V27) (o32:(List Int)) (y4:(Int × (Int × Int))) (y6:((List Int) × Int)):Owp (tourlaw2_RayShapes.c4 k o32 y6) fun o=>Triple PR (tourlaw2_RayShapes.cx k) (sub tourlaw2_RayShapes.code [1,1,1,1,1,1,1,1,1,0,0]) 4 (tourlaw2_RayShapes.c4p a0 a1 a2 o32 y4 y6) (tourlaw2_RayShapes.c4x o) (tourlaw2_RayShapes.c4n o) (tourlaw2_RayShapes.c4q a0 a1 a2 y4 o):=by
  unfold tourlaw2_RayShapes.c4; exact
   Owp.bif (fun e34 =>
   Owp.some (triple_way (tourlaw2_RayShapes.cok k) hmix [tT,tT,tT,tT,tT,tT] [] [(0,0),(1,1)] (via (finP (aI (aI (aI (aI (aI trivial e34) e34) e34) e34) e34) .normal [(0,0),(1,1)] (tourlaw2_RayShapes.c4q a0 a1 a2 y4 true)) (by kernel_rfl)))) (fun e34 =>
   Owp.bnd fun y35 e36 =>
   Owp.some (triple_way (tourlaw2_RayShapes.cok k) hmix [fF,fF,fF,rS T4 y35,fF,fF] [] [(0,0),(1,1)] (via (finP (aI (aI (aI (aI (aI trivial e34) e34) (aI e34 e36)) e34) e34) .normal [(0,0),(1,1)] (tourlaw2_RayShapes.c4q a0 a1 a2 y4 (!y35))) (by kernel_rfl))))
noncomputable def tourlaw2_RayShapes.c5p (y4:(Int × (Int × Int))):SL:=⟨[(7,(.val T2 y4.1)),(8,(.val T2 y4.2.1)),(9,(.val T2 y4.2.2))],[]⟩
noncomputable def tourlaw2_RayShapes.c5q (o:Bool):SL:=(fun v=>⟨[(6,(.val T4 v))],[]⟩) o
noncomputable def tourlaw2_RayShapes.c5x (o:Bool):Ex:=(fun _=>.normal) o
noncomputable def tourlaw2_RayShapes.c5n (o:Bool):Nat:=(fun _=>0) o
theorem tourlaw2_RayShapes.c5_ok (k:Nat) (y4:(Int × (Int × Int))):Owp (tourlaw2_RayShapes.c5 k y4) fun o=>Triple PR (tourlaw2_RayShapes.cx k) (sub tourlaw2_RayShapes.code [1,1,1,1,1,1,1,1,1,1,0,1,0,0]) 0 (tourlaw2_RayShapes.c5p y4) (tourlaw2_RayShapes.c5x o) (tourlaw2_RayShapes.c5n o) (tourlaw2_RayShapes.c5q o):=by
  unfold tourlaw2_RayShapes.c5; exact
   Owp.bif (fun e47 =>
   Owp.bif (fun e48 =>
   Owp.some (triple_way (tourlaw2_RayShapes.cok k) hmix [tT,tT,tT,tT,tT,tT] [] [] (via (finP (aI (aI (aI (aI (aI (aI trivial e47) e47) e47) e48) e48) e48) .normal [] (tourlaw2_RayShapes.c5q (ieq y4.2.1 (0:Int)))) (by kernel_rfl)))) (fun e48 =>
   Owp.some (triple_way (tourlaw2_RayShapes.cok k) hmix [tT,tT,tT,fF,fF,fF] [] [] (via (finP (aI (aI (aI (aI (aI (aI trivial e47) e47) e47) e48) e48) e48) .normal [] (tourlaw2_RayShapes.c5q false)) (by kernel_rfl))))) (fun e47 =>
   Owp.some (triple_way (tourlaw2_RayShapes.cok k) hmix [fF,fF,fF,fF,fF,fF] [] [] (via (finP (aI (aI (aI (aI (aI (aI trivial e47) e47) e47) ff) ff) ff) .normal [] (tourlaw2_RayShapes.c5q false)) (by kernel_rfl))))
theorem tourlaw2_RayShapes.way (k:Nat) (a0:(List V67)) (a1:(List V27)) (a2:V27):Owp (tourlaw2_RayShapes k a0 a1 a2) fun y=>∃ w c0,exec PR (tourlaw2_RayShapes.cx k) tourlaw2_RayShapes.code 0 (entry (.pair (.slice T67) (.pair T22 (.pair T27 .unit))) (a0,a1,a2,())).st w (Ret (tourlaw2_RayShapes.cx k) Try.f10 c0 (.one (.dp T4)) y):=by
  unfold tourlaw2_RayShapes; exact
   Owp.bnd fun y1 e2 =>
   Owp.bif (fun e3 =>
   Owp.bnd fun y4 e5 =>
   Owp.bnd fun y6 e7 =>
   Owp.bnd fun y8 e9 =>
   Owp.bnd fun o13 e14 =>
   Owp.bif (fun e15 =>
   Owp.bnd fun o20 e21 =>
   Owp.some (⟨[rS T4 y1,fF,.res (.more (.dp T2) (.more (.dp T2) (.one (.dp T2)))) y4,.res (.more (.ow T2 3) (.one (.dp T2))) y6,rS T2 y8,.cut ⟨[],[(0,0),(1,1),(2,18)],(tourlaw2_RayShapes.c1p a0 a1 a2 y4 y6 y8),3,.normal,(tourlaw2_RayShapes.c1q a0 a1 a2 y4 y6 o13),3⟩,tT,.cutR 9 ⟨[],[(0,2)],(tourlaw2_RayShapes.c2p o13 y4 y6),1,.normal,(tourlaw2_RayShapes.c2q o20),0⟩],[],via (cutP (aI (aI (aI (aI (aI trivial e2) (congrArg not e3)) e5) e7) e9) [(0,0),(1,1),(2,18)] (tourlaw2_RayShapes.c1p a0 a1 a2 y4 y6 y8) (((tourlaw2_RayShapes.c1_ok k a0 a1 a2 y4 y6 y8).ap e14)) (cutP (aI trivial e15) [(0,2)] (tourlaw2_RayShapes.c2p o13 y4 y6) (((tourlaw2_RayShapes.c2_ok k o13 y4 y6).ap e21)) (retP trivial (.one (.dp T4)) (o20:Bool)))) (by kernel_rfl)⟩)) (fun e15 =>
   Owp.bnd fun o32 e33 =>
   Owp.bnd fun o37 e38 =>
   Owp.bif (fun e39 =>
   Owp.some (⟨[rS T4 y1,fF,.res (.more (.dp T2) (.more (.dp T2) (.one (.dp T2)))) y4,.res (.more (.ow T2 3) (.one (.dp T2))) y6,rS T2 y8,.cut ⟨[],[(0,0),(1,1),(2,18)],(tourlaw2_RayShapes.c1p a0 a1 a2 y4 y6 y8),3,.normal,(tourlaw2_RayShapes.c1q a0 a1 a2 y4 y6 o13),3⟩,fF,.cut ⟨[.own 13 T2 3],[(0,0),(1,1),(2,2),(3,9)],(tourlaw2_RayShapes.c3p a0 a1 a2 y4 y6 (0:Int) []),4,(.exit 0),(tourlaw2_RayShapes.c3q a0 a1 a2 y4 y6 o32),4⟩,.cutR 17 ⟨[],[(0,0),(1,1),(2,2),(3,3)],(tourlaw2_RayShapes.c4p a0 a1 a2 o32 y4 y6),4,.normal,(tourlaw2_RayShapes.c4q a0 a1 a2 y4 o37),2⟩,tT],[],via (cutP (aI (aI (aI (aI (aI trivial e2) (congrArg not e3)) e5) e7) e9) [(0,0),(1,1),(2,18)] (tourlaw2_RayShapes.c1p a0 a1 a2 y4 y6 y8) (((tourlaw2_RayShapes.c1_ok k a0 a1 a2 y4 y6 y8).ap e14)) (cutP (aI trivial e15) [(0,0),(1,1),(2,2),(3,9)] (tourlaw2_RayShapes.c3p a0 a1 a2 y4 y6 (0:Int) []) (((tourlaw2_RayShapes.c3_ok k a0 a1 a2 y4 y6 k (0:Int) []).ap e33).triple) (cutP trivial [(0,0),(1,1),(2,2),(3,3)] (tourlaw2_RayShapes.c4p a0 a1 a2 o32 y4 y6) (((tourlaw2_RayShapes.c4_ok k a0 a1 a2 o32 y4 y6).ap e38)) (retP (aI trivial e39) (.one (.dp T4)) (false:Bool))))) (by kernel_rfl)⟩)) (fun e39 =>
   Owp.bnd fun y40 e41 =>
   Owp.bif (fun e42 =>
   Owp.bnd fun y43 e44 =>
   Owp.bif (fun e45 =>
   Owp.bif (fun e46 =>
   Owp.some (⟨[rS T4 y1,fF,.res (.more (.dp T2) (.more (.dp T2) (.one (.dp T2)))) y4,.res (.more (.ow T2 3) (.one (.dp T2))) y6,rS T2 y8,.cut ⟨[],[(0,0),(1,1),(2,18)],(tourlaw2_RayShapes.c1p a0 a1 a2 y4 y6 y8),3,.normal,(tourlaw2_RayShapes.c1q a0 a1 a2 y4 y6 o13),3⟩,fF,.cut ⟨[.own 13 T2 3],[(0,0),(1,1),(2,2),(3,9)],(tourlaw2_RayShapes.c3p a0 a1 a2 y4 y6 (0:Int) []),4,(.exit 0),(tourlaw2_RayShapes.c3q a0 a1 a2 y4 y6 o32),4⟩,.cutR 17 ⟨[],[(0,0),(1,1),(2,2),(3,3)],(tourlaw2_RayShapes.c4p a0 a1 a2 o32 y4 y6),4,.normal,(tourlaw2_RayShapes.c4q a0 a1 a2 y4 o37),2⟩,fF,rS T4 y40,fF,.res (.more (.dp T2) (.more (.dp T2) (.one (.dp T2)))) y43,tT,tT,tT,tT,tT,tT,tT,tT],[],via (cutP (aI (aI (aI (aI (aI trivial e2) (congrArg not e3)) e5) e7) e9) [(0,0),(1,1),(2,18)] (tourlaw2_RayShapes.c1p a0 a1 a2 y4 y6 y8) (((tourlaw2_RayShapes.c1_ok k a0 a1 a2 y4 y6 y8).ap e14)) (cutP (aI trivial e15) [(0,0),(1,1),(2,2),(3,9)] (tourlaw2_RayShapes.c3p a0 a1 a2 y4 y6 (0:Int) []) (((tourlaw2_RayShapes.c3_ok k a0 a1 a2 y4 y6 k (0:Int) []).ap e33).triple) (cutP trivial [(0,0),(1,1),(2,2),(3,3)] (tourlaw2_RayShapes.c4p a0 a1 a2 o32 y4 y6) (((tourlaw2_RayShapes.c4_ok k a0 a1 a2 o32 y4 y6).ap e38)) (retP (aI (aI (aI (aI (aI (aI (aI (aI (aI (aI (aI (aI trivial e39) e41) (congrArg not e42)) e44) e45) e45) e45) e45) e46) e46) e46) e46) (.one (.dp T4)) ((ieq y4.2.2 y43.2.2):Bool))))) (by kernel_rfl)⟩)) (fun e46 =>
   Owp.some (⟨[rS T4 y1,fF,.res (.more (.dp T2) (.more (.dp T2) (.one (.dp T2)))) y4,.res (.more (.ow T2 3) (.one (.dp T2))) y6,rS T2 y8,.cut ⟨[],[(0,0),(1,1),(2,18)],(tourlaw2_RayShapes.c1p a0 a1 a2 y4 y6 y8),3,.normal,(tourlaw2_RayShapes.c1q a0 a1 a2 y4 y6 o13),3⟩,fF,.cut ⟨[.own 13 T2 3],[(0,0),(1,1),(2,2),(3,9)],(tourlaw2_RayShapes.c3p a0 a1 a2 y4 y6 (0:Int) []),4,(.exit 0),(tourlaw2_RayShapes.c3q a0 a1 a2 y4 y6 o32),4⟩,.cutR 17 ⟨[],[(0,0),(1,1),(2,2),(3,3)],(tourlaw2_RayShapes.c4p a0 a1 a2 o32 y4 y6),4,.normal,(tourlaw2_RayShapes.c4q a0 a1 a2 y4 o37),2⟩,fF,rS T4 y40,fF,.res (.more (.dp T2) (.more (.dp T2) (.one (.dp T2)))) y43,tT,tT,tT,tT,fF,fF,fF,fF],[],via (cutP (aI (aI (aI (aI (aI trivial e2) (congrArg not e3)) e5) e7) e9) [(0,0),(1,1),(2,18)] (tourlaw2_RayShapes.c1p a0 a1 a2 y4 y6 y8) (((tourlaw2_RayShapes.c1_ok k a0 a1 a2 y4 y6 y8).ap e14)) (cutP (aI trivial e15) [(0,0),(1,1),(2,2),(3,9)] (tourlaw2_RayShapes.c3p a0 a1 a2 y4 y6 (0:Int) []) (((tourlaw2_RayShapes.c3_ok k a0 a1 a2 y4 y6 k (0:Int) []).ap e33).triple) (cutP trivial [(0,0),(1,1),(2,2),(3,3)] (tourlaw2_RayShapes.c4p a0 a1 a2 o32 y4 y6) (((tourlaw2_RayShapes.c4_ok k a0 a1 a2 o32 y4 y6).ap e38)) (retP (aI (aI (aI (aI (aI (aI (aI (aI (aI (aI (aI (aI trivial e39) e41) (congrArg not e42)) e44) e45) e45) e45) e45) e46) e46) e46) e46) (.one (.dp T4)) (false:Bool))))) (by kernel_rfl)⟩))) (fun e45 =>
   Owp.some (⟨[rS T4 y1,fF,.res (.more (.dp T2) (.more (.dp T2) (.one (.dp T2)))) y4,.res (.more (.ow T2 3) (.one (.dp T2))) y6,rS T2 y8,.cut ⟨[],[(0,0),(1,1),(2,18)],(tourlaw2_RayShapes.c1p a0 a1 a2 y4 y6 y8),3,.normal,(tourlaw2_RayShapes.c1q a0 a1 a2 y4 y6 o13),3⟩,fF,.cut ⟨[.own 13 T2 3],[(0,0),(1,1),(2,2),(3,9)],(tourlaw2_RayShapes.c3p a0 a1 a2 y4 y6 (0:Int) []),4,(.exit 0),(tourlaw2_RayShapes.c3q a0 a1 a2 y4 y6 o32),4⟩,.cutR 17 ⟨[],[(0,0),(1,1),(2,2),(3,3)],(tourlaw2_RayShapes.c4p a0 a1 a2 o32 y4 y6),4,.normal,(tourlaw2_RayShapes.c4q a0 a1 a2 y4 o37),2⟩,fF,rS T4 y40,fF,.res (.more (.dp T2) (.more (.dp T2) (.one (.dp T2)))) y43,fF,fF,fF,fF,fF,fF,fF,fF],[],via (cutP (aI (aI (aI (aI (aI trivial e2) (congrArg not e3)) e5) e7) e9) [(0,0),(1,1),(2,18)] (tourlaw2_RayShapes.c1p a0 a1 a2 y4 y6 y8) (((tourlaw2_RayShapes.c1_ok k a0 a1 a2 y4 y6 y8).ap e14)) (cutP (aI trivial e15) [(0,0),(1,1),(2,2),(3,9)] (tourlaw2_RayShapes.c3p a0 a1 a2 y4 y6 (0:Int) []) (((tourlaw2_RayShapes.c3_ok k a0 a1 a2 y4 y6 k (0:Int) []).ap e33).triple) (cutP trivial [(0,0),(1,1),(2,2),(3,3)] (tourlaw2_RayShapes.c4p a0 a1 a2 o32 y4 y6) (((tourlaw2_RayShapes.c4_ok k a0 a1 a2 o32 y4 y6).ap e38)) (retP (aI (aI (aI (aI (aI (aI (aI (aI (aI (aI (aI (aI trivial e39) e41) (congrArg not e42)) e44) e45) e45) e45) e45) ff) ff) ff) ff) (.one (.dp T4)) (false:Bool))))) (by kernel_rfl)⟩))) (fun e42 =>
   Owp.bnd fun o49 e50 =>
   Owp.some (⟨[rS T4 y1,fF,.res (.more (.dp T2) (.more (.dp T2) (.one (.dp T2)))) y4,.res (.more (.ow T2 3) (.one (.dp T2))) y6,rS T2 y8,.cut ⟨[],[(0,0),(1,1),(2,18)],(tourlaw2_RayShapes.c1p a0 a1 a2 y4 y6 y8),3,.normal,(tourlaw2_RayShapes.c1q a0 a1 a2 y4 y6 o13),3⟩,fF,.cut ⟨[.own 13 T2 3],[(0,0),(1,1),(2,2),(3,9)],(tourlaw2_RayShapes.c3p a0 a1 a2 y4 y6 (0:Int) []),4,(.exit 0),(tourlaw2_RayShapes.c3q a0 a1 a2 y4 y6 o32),4⟩,.cutR 17 ⟨[],[(0,0),(1,1),(2,2),(3,3)],(tourlaw2_RayShapes.c4p a0 a1 a2 o32 y4 y6),4,.normal,(tourlaw2_RayShapes.c4q a0 a1 a2 y4 o37),2⟩,fF,rS T4 y40,tT,.cutR 20 ⟨[],[],(tourlaw2_RayShapes.c5p y4),0,.normal,(tourlaw2_RayShapes.c5q o49),0⟩],[],via (cutP (aI (aI (aI (aI (aI trivial e2) (congrArg not e3)) e5) e7) e9) [(0,0),(1,1),(2,18)] (tourlaw2_RayShapes.c1p a0 a1 a2 y4 y6 y8) (((tourlaw2_RayShapes.c1_ok k a0 a1 a2 y4 y6 y8).ap e14)) (cutP (aI trivial e15) [(0,0),(1,1),(2,2),(3,9)] (tourlaw2_RayShapes.c3p a0 a1 a2 y4 y6 (0:Int) []) (((tourlaw2_RayShapes.c3_ok k a0 a1 a2 y4 y6 k (0:Int) []).ap e33).triple) (cutP trivial [(0,0),(1,1),(2,2),(3,3)] (tourlaw2_RayShapes.c4p a0 a1 a2 o32 y4 y6) (((tourlaw2_RayShapes.c4_ok k a0 a1 a2 o32 y4 y6).ap e38)) (cutP (aI (aI (aI trivial e39) e41) (congrArg not e42)) [] (tourlaw2_RayShapes.c5p y4) (((tourlaw2_RayShapes.c5_ok k y4).ap e50)) (retP trivial (.one (.dp T4)) (o49:Bool)))))) (by kernel_rfl)⟩))))) (fun e3 =>
   Owp.some (⟨[rS T4 y1,tT],[],via (retP (aI (aI trivial e2) (congrArg not e3)) (.one (.dp T4)) (false:Bool)) (by kernel_rfl)⟩))
theorem tourlaw2_RayShapes.ok (k:Nat):FnOk PR 10 (tourlaw2_RayShapes.sp k) :=
  fn_ok (tourlaw2_RayShapes.cok k) hmix Try.func10 (code:=tourlaw2_RayShapes.code) (by kernel_rfl) (by kernel_rfl) (by kernel_rfl) rfl rfl (by kernel_rfl) (by kernel_rfl) (by kernel_rfl) (fun x=>Nat.le_of_ble_eq_true (by kernel_rfl)) fun x y hy=>(tourlaw2_RayShapes.way k x.1 x.2.1 x.2.2.1).ap hy
end Go.Proofs.T1
