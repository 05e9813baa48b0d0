import Derived.Test.YthpbadopmihmpaaGreatG0
import Derived.Test.YthpbadopmihmpaaGreatG1
import Derived.Test.YthpbadopmihmpaaGreatG2
namespace Go.Proofs.T1
open Go Go.Sx Go.Proofs
set_option maxRecDepth 100000
set_option linter.unusedVariables false
noncomputable def mass_Of.code:Code:=Func.cd Tryz.f49
def mass_Of.c1 (k:Nat) (a0:(List V26)):Nat→Int→Option (Unit ⊕ Unit)
 | 0,_=>none
 | n+1,v4 =>
  bif' (ilt v4 (len a0))
  (req (inL v4 a0) <|bif' (igt (imax (imax (imax (el Z26 a0 v4).1 (ineg .i64 (el Z26 a0 v4).1)) (el Z26 a0 v4).2.1) (ineg .i64 (el Z26 a0 v4).2.1)) 2097152)
  (some (.inl ()))
  (mass_Of.c1 k a0 n (iadd .i64 v4 1)))
  (some (.inr ()))
def mass_Of.c2 (k:Nat) (a1:Int):Option (Bool) :=
 bif' (ilt a1 1)
 (some true)
 (some (igt a1 1048576))
def mass_Of.c3 (k:Nat) (a0:(List V26)) (y18:V26):Nat→Int→V94→Option (V94)
 | 0,_,_=>none
 | n+1,v20,v21 =>
  bif' (ilt v20 (len a0))
  (req (inL v20 a0) <|req (nz (len a0)) <|req (inL (irem (iadd .i64 v20 1) (len a0)) a0) <|bnd (mass_cross k ((isub .i64 (el Z26 a0 v20).1 y18.1),(isub .i64 (el Z26 a0 v20).2.1 y18.2.1),()) ((isub .i64 (el Z26 a0 (irem (iadd .i64 v20 1) (len a0))).1 y18.1),(isub .i64 (el Z26 a0 (irem (iadd .i64 v20 1) (len a0))).2.1 y18.2.1),())) fun y26 =>
  bnd (poly_Times k y26 (iadd .i64 (iadd .i64 (iadd .i64 (iadd .i64 (iadd .i64 (imul .i64 (isub .i64 (el Z26 a0 v20).1 y18.1) (isub .i64 (el Z26 a0 v20).1 y18.1)) (imul .i64 (isub .i64 (el Z26 a0 v20).1 y18.1) (isub .i64 (el Z26 a0 (irem (iadd .i64 v20 1) (len a0))).1 y18.1))) (imul .i64 (isub .i64 (el Z26 a0 (irem (iadd .i64 v20 1) (len a0))).1 y18.1) (isub .i64 (el Z26 a0 (irem (iadd .i64 v20 1) (len a0))).1 y18.1))) (imul .i64 (isub .i64 (el Z26 a0 v20).2.1 y18.2.1) (isub .i64 (el Z26 a0 v20).2.1 y18.2.1))) (imul .i64 (isub .i64 (el Z26 a0 v20).2.1 y18.2.1) (isub .i64 (el Z26 a0 (irem (iadd .i64 v20 1) (len a0))).2.1 y18.2.1))) (imul .i64 (isub .i64 (el Z26 a0 (irem (iadd .i64 v20 1) (len a0))).2.1 y18.2.1) (isub .i64 (el Z26 a0 (irem (iadd .i64 v20 1) (len a0))).2.1 y18.2.1)))) fun y28 =>
  bnd (poly_Wide_Plus k v21 y28) fun y30 =>
  mass_Of.c3 k a0 y18 n (iadd .i64 v20 1) y30)
  (some v21)
def mass_Of.c4 (k:Nat) (y36 y38:Int):Option (Bool) :=
 bif' (ieq y36 0)
 (some true)
 (some (ieq y38 0))
def mass_Of.c5 (k:Nat) (y36 y38:Int):Option (Bool) :=
 bif' (igt y36 1099511627776)
 (some true)
 (some (igt y38 1099511627776))
def mass_Of (k:Nat) (a0:(List V26)) (a1:Int):Option (Int × (Int × (V26 × Int))) :=
 bnd (poly_Area k a0) fun y1 =>
 bif' (ine y1.2 0)
 (some (0,0,(0,0,()),y1.2))
 (bnd (mass_Of.c1 k a0 k 0) fun o8 =>
  two o8 (fun y10 =>
  some (0,0,(0,0,()),1)) (fun y12 =>
  bnd (mass_Of.c2 k a1) fun o15 =>
  bif' o15
  (some (0,0,(0,0,()),1))
  (bnd (mass_centre k a0 y1.1) fun y18 =>
  bnd (mass_Of.c3 k a0 y18 k 0 (0,0,())) fun o32 =>
  bnd (poly_Wide_Over k o32 51539607552) fun y34 =>
  bnd (mass_times k y1.1 a1 8589934592) fun y36 =>
  bnd (mass_times k y34.1 a1 4294967296) fun y38 =>
  bnd (mass_Of.c4 k y36 y38) fun o41 =>
  bif' o41
  (some (0,0,(0,0,()),17))
  (bnd (mass_Of.c5 k y36 y38) fun o45 =>
  bif' o45
  (some (0,0,(0,0,()),2))
  (some (y36,y38,y18,0))))))
noncomputable def mass_Of.sp (k:Nat):Go.Sx.Spec:=⟨(.pair T36 (.pair T2 .unit)),(.more (.dp T2) (.more (.dp T2) (.more (.dp T26) (.one (.dp T2))))),fun x=>mass_Of k x.1 x.2.1,false⟩
noncomputable def mass_Of.cx (k:Nat):Go.Sx.Ctx:=⟨tys,[(87,poly_Area.sp k),(88,mass_centre.sp k),(90,mass_cross.sp k),(55,poly_Times.sp k),(89,poly_Wide_Plus.sp k),(91,poly_Wide_Over.sp k),(92,mass_times.sp k)],eqs,173,0,[],false⟩
theorem mass_Of.cok (k:Nat):CtxOk PR (mass_Of.cx k):=ctx_ok tysOk eqsOk (fC (poly_Area.ok k) (fC (mass_centre.ok k) (fC (mass_cross.ok k) (fC (poly_Times.ok k) (fC (poly_Wide_Plus.ok k) (fC (poly_Wide_Over.ok k) (fC (mass_times.ok k) FnsOk.nil))))))) HsOk.nil
noncomputable def mass_Of.c1p (a0:(List V26)) (a1:Int) (y1:(Int × Int)) (v4:Int):SL:=⟨[(0,(.val T36 a0)),(1,(.val T2 a1)),(6,(.val .ptr ⟨0,0,(0:Int),0,0⟩)),(8,(.val T2 y1.1)),(31,(.val T36 a0)),(32,(.val T2 (len a0))),(33,(.val T2 v4))],[(0,.cells T26 ((0:Int),(0:Int),()))]⟩
noncomputable def mass_Of.c1q (a0:(List V26)) (a1:Int) (y1:(Int × Int)) (o:Unit ⊕ Unit):SL:=(fun o=>two o (fun v=>⟨[(4,(.val T2 (0:Int))),(5,(.val T2 (0:Int))),(6,(.val .ptr ⟨0,0,(0:Int),0,0⟩)),(7,(.val T2 (1:Int)))],[(0,.cells T26 ((0:Int),(0:Int),()))]⟩) (fun v=>⟨[(0,(.val T36 a0)),(1,(.val T2 a1)),(6,(.val .ptr ⟨0,0,(0:Int),0,0⟩)),(8,(.val T2 y1.1))],[(0,.cells T26 ((0:Int),(0:Int),()))]⟩)) o
noncomputable def mass_Of.c1x (o:Unit ⊕ Unit):Ex:=(fun o=>two o (fun _=>.ret) (fun _=>(.exit 0))) o
noncomputable def mass_Of.c1n (o:Unit ⊕ Unit):Nat:=(fun o=>two o (fun _=>1) (fun _=>1)) o
theorem mass_Of.c1_ok (k:Nat) (a0:(List V26)) (a1:Int) (y1:(Int × Int)):∀ (n:Nat) (v4:Int),Owp (mass_Of.c1 k a0 n v4) fun o=>LTriple PR (mass_Of.cx k) (sub mass_Of.code [1,1,1,0,1,0,0]) 1 (mass_Of.c1p a0 a1 y1 v4) (mass_Of.c1x o) (mass_Of.c1n o) (mass_Of.c1q a0 a1 y1 o)
 | 0,_=>fun _ h=>nomatch h
 | n+1,v4=>Owp.of (mass_Of.c1.eq_2 ..) (
  oF (fun e5 =>
  oR fun h6 =>
  oF (fun e7 =>
  oS (loop_exit (mass_Of.cok k) hmix [tT,tT] [] [(0,0)] exne_ret (via (finP (aI (aI (aI tv0 e5) h6) e7) .ret [(0,0)] (mass_Of.c1q a0 a1 y1 (.inl ()))) (by kernel_rfl)))) (fun e7 =>
  fun y hy=>loop_back (mass_Of.cok k) hmix 1 (mass_Of.c1p a0 a1 y1 (iadd .i64 v4 (1:Int))) [tT,fF] [] [(0,0)] (via (finP (aI (aI (aI tv0 e5) h6) e7) .normal [(0,0)] (mass_Of.c1p a0 a1 y1 (iadd .i64 v4 (1:Int)))) (by kernel_rfl)) ((mass_Of.c1_ok k a0 a1 y1 n (iadd .i64 v4 (1:Int))).ap hy))) (fun e5 =>
  oS (loop_exit (mass_Of.cok k) hmix [fF] [] [(0,0)] (exne 0) (via (finP (aI tv0 e5) (.exit 0) [(0,0)] (mass_Of.c1q a0 a1 y1 (.inr ()))) (by kernel_rfl)))))
noncomputable def mass_Of.c2p (a0:(List V26)) (a1:Int) (y1:(Int × Int)):SL:=⟨[(0,(.val T36 a0)),(1,(.val T2 a1)),(6,(.val .ptr ⟨0,0,(0:Int),0,0⟩)),(8,(.val T2 y1.1))],[(0,.cells T26 ((0:Int),(0:Int),()))]⟩
noncomputable def mass_Of.c2q (a0:(List V26)) (a1:Int) (y1:(Int × Int)) (o:Bool):SL:=(fun v=>⟨[(0,(.val T36 a0)),(1,(.val T2 a1)),(6,(.val .ptr ⟨0,0,(0:Int),0,0⟩)),(8,(.val T2 y1.1)),(56,(.val T4 v))],[(0,.cells T26 ((0:Int),(0:Int),()))]⟩) o
noncomputable def mass_Of.c2x (o:Bool):Ex:=(fun _=>.normal) o
noncomputable def mass_Of.c2n (o:Bool):Nat:=(fun _=>1) o
theorem mass_Of.c2_ok (k:Nat) (a0:(List V26)) (a1:Int) (y1:(Int × Int)):Owp (mass_Of.c2 k a1) fun o=>Triple PR (mass_Of.cx k) (sub mass_Of.code [1,1,1,1,0,0]) 1 (mass_Of.c2p a0 a1 y1) (mass_Of.c2x o) (mass_Of.c2n o) (mass_Of.c2q a0 a1 y1 o):=by
 unfold mass_Of.c2; exact
  oF (fun e14 =>
  oS (tW (mass_Of.cok k) hmix [tT,tT,tT] [] [(0,0)] (via (finP (aI (aI (aI tv0 e14) e14) e14) .normal [(0,0)] (mass_Of.c2q a0 a1 y1 true)) (by kernel_rfl)))) (fun e14 =>
  oS (tW (mass_Of.cok k) hmix [fF,fF,fF] [] [(0,0)] (via (finP (aI (aI (aI tv0 e14) e14) e14) .normal [(0,0)] (mass_Of.c2q a0 a1 y1 (igt a1 (1048576:Int)))) (by kernel_rfl))))
noncomputable def mass_Of.c3p (a0:(List V26)) (a1:Int) (y1:(Int × Int)) (y18:V26) (v20:Int) (v21:V94):SL:=⟨[(0,(.val T36 a0)),(1,(.val T2 a1)),(6,(.val .ptr ⟨0,0,(0:Int),0,0⟩)),(8,(.val T2 y1.1)),(12,(.val .ptr ⟨1,0,(0:Int),0,0⟩)),(13,(.val .ptr ⟨2,0,(0:Int),0,0⟩)),(62,(.val T2 (len a0))),(63,(.val T2 v20))],[(0,.cells T26 ((0:Int),(0:Int),())),(1,.cells T26 y18),(2,.cells T94 v21)]⟩
noncomputable def mass_Of.c3q (a1:Int) (y1:(Int × Int)) (y18:V26) (o:V94):SL:=(fun v=>⟨[(1,(.val T2 a1)),(6,(.val .ptr ⟨0,0,(0:Int),0,0⟩)),(8,(.val T2 y1.1)),(12,(.val .ptr ⟨1,0,(0:Int),0,0⟩)),(13,(.val .ptr ⟨2,0,(0:Int),0,0⟩))],[(0,.cells T26 ((0:Int),(0:Int),())),(1,.cells T26 y18),(2,.cells T94 v)]⟩) o
noncomputable def mass_Of.c3x (o:V94):Ex:=(fun _=>(.exit 2)) o
noncomputable def mass_Of.c3n (o:V94):Nat:=(fun _=>3) o
theorem mass_Of.c3_ok (k:Nat) (a0:(List V26)) (a1:Int) (y1:(Int × Int)) (y18:V26):∀ (n:Nat) (v20:Int) (v21:V94),Owp (mass_Of.c3 k a0 y18 n v20 v21) fun o=>LTriple PR (mass_Of.cx k) (sub mass_Of.code [1,1,1,1,1,1,1,0,1,0,0]) 3 (mass_Of.c3p a0 a1 y1 y18 v20 v21) (mass_Of.c3x o) (mass_Of.c3n o) (mass_Of.c3q a1 y1 y18 o)
 | 0,_,_=>fun _ h=>nomatch h
 | n+1,v20,v21=>Owp.of (mass_Of.c3.eq_2 ..) (
  oF (fun e22 =>
  oR fun h23 =>
  oR fun h24 =>
  oR fun h25 =>
  oB fun y26 e27 =>
  oB fun y28 e29 =>
  oB fun y30 e31 =>
  fun y hy=>loop_back (mass_Of.cok k) hmix 3 (mass_Of.c3p a0 a1 y1 y18 (iadd .i64 v20 (1:Int)) y30) [tT,rS T2 y26,rS T94 y28,rS T94 y30] [] [(0,0),(1,1),(2,2)] (via (finP (aI (aI (aI (aI (aI (aI (aI tv0 e22) h23) h24) h25) e27) e29) e31) .normal [(0,0),(1,1),(2,2)] (mass_Of.c3p a0 a1 y1 y18 (iadd .i64 v20 (1:Int)) y30)) (by kernel_rfl)) ((mass_Of.c3_ok k a0 a1 y1 y18 n (iadd .i64 v20 (1:Int)) y30).ap hy)) (fun e22 =>
  oS (loop_exit (mass_Of.cok k) hmix [fF] [] [(0,0),(1,1),(2,2)] (exne 2) (via (finP (aI tv0 e22) (.exit 2) [(0,0),(1,1),(2,2)] (mass_Of.c3q a1 y1 y18 v21)) (by kernel_rfl)))))
noncomputable def mass_Of.c4p (y18:V26) (y36 y38:Int):SL:=⟨[(6,(.val .ptr ⟨0,0,(0:Int),0,0⟩)),(12,(.val .ptr ⟨1,0,(0:Int),0,0⟩)),(20,(.val T2 y36)),(21,(.val T2 y38))],[(0,.cells T26 ((0:Int),(0:Int),())),(1,.cells T26 y18)]⟩
noncomputable def mass_Of.c4q (y18:V26) (y36 y38:Int) (o:Bool):SL:=(fun v=>⟨[(6,(.val .ptr ⟨0,0,(0:Int),0,0⟩)),(12,(.val .ptr ⟨1,0,(0:Int),0,0⟩)),(20,(.val T2 y36)),(21,(.val T2 y38)),(154,(.val T4 v))],[(0,.cells T26 ((0:Int),(0:Int),())),(1,.cells T26 y18)]⟩) o
noncomputable def mass_Of.c4x (o:Bool):Ex:=(fun _=>.normal) o
noncomputable def mass_Of.c4n (o:Bool):Nat:=(fun _=>2) o
theorem mass_Of.c4_ok (k:Nat) (y18:V26) (y36 y38:Int):Owp (mass_Of.c4 k y36 y38) fun o=>Triple PR (mass_Of.cx k) (sub mass_Of.code [1,1,1,1,1,1,1,1,1,1,0,0,0]) 2 (mass_Of.c4p y18 y36 y38) (mass_Of.c4x o) (mass_Of.c4n o) (mass_Of.c4q y18 y36 y38 o):=by
 unfold mass_Of.c4; exact
  oF (fun e40 =>
  oS (tW (mass_Of.cok k) hmix [tT,tT,tT] [] [(0,0),(1,1)] (via (finP (aI (aI (aI tv0 e40) e40) e40) .normal [(0,0),(1,1)] (mass_Of.c4q y18 y36 y38 true)) (by kernel_rfl)))) (fun e40 =>
  oS (tW (mass_Of.cok k) hmix [fF,fF,fF] [] [(0,0),(1,1)] (via (finP (aI (aI (aI tv0 e40) e40) e40) .normal [(0,0),(1,1)] (mass_Of.c4q y18 y36 y38 (ieq y38 (0:Int)))) (by kernel_rfl))))
noncomputable def mass_Of.c5p (y18:V26) (y36 y38:Int):SL:=⟨[(6,(.val .ptr ⟨0,0,(0:Int),0,0⟩)),(12,(.val .ptr ⟨1,0,(0:Int),0,0⟩)),(20,(.val T2 y36)),(21,(.val T2 y38))],[(0,.cells T26 ((0:Int),(0:Int),())),(1,.cells T26 y18)]⟩
noncomputable def mass_Of.c5q (y18:V26) (y36 y38:Int) (o:Bool):SL:=(fun v=>⟨[(6,(.val .ptr ⟨0,0,(0:Int),0,0⟩)),(12,(.val .ptr ⟨1,0,(0:Int),0,0⟩)),(20,(.val T2 y36)),(21,(.val T2 y38)),(162,(.val T4 v))],[(0,.cells T26 ((0:Int),(0:Int),())),(1,.cells T26 y18)]⟩) o
noncomputable def mass_Of.c5x (o:Bool):Ex:=(fun _=>.normal) o
noncomputable def mass_Of.c5n (o:Bool):Nat:=(fun _=>2) o
theorem mass_Of.c5_ok (k:Nat) (y18:V26) (y36 y38:Int):Owp (mass_Of.c5 k y36 y38) fun o=>Triple PR (mass_Of.cx k) (sub mass_Of.code [1,1,1,1,1,1,1,1,1,1,0,0,1,1,0]) 2 (mass_Of.c5p y18 y36 y38) (mass_Of.c5x o) (mass_Of.c5n o) (mass_Of.c5q y18 y36 y38 o):=by
 unfold mass_Of.c5; exact
  oF (fun e44 =>
  oS (tW (mass_Of.cok k) hmix [tT,tT,tT] [] [(0,0),(1,1)] (via (finP (aI (aI (aI tv0 e44) e44) e44) .normal [(0,0),(1,1)] (mass_Of.c5q y18 y36 y38 true)) (by kernel_rfl)))) (fun e44 =>
  oS (tW (mass_Of.cok k) hmix [fF,fF,fF] [] [(0,0),(1,1)] (via (finP (aI (aI (aI tv0 e44) e44) e44) .normal [(0,0),(1,1)] (mass_Of.c5q y18 y36 y38 (igt y38 (1099511627776:Int)))) (by kernel_rfl))))
theorem mass_Of.way (k:Nat) (a0:(List V26)) (a1:Int):Owp (mass_Of k a0 a1) fun y=>∃ w c0,exec PR (mass_Of.cx k) mass_Of.code 0 (entry (.pair T36 (.pair T2 .unit)) (a0,a1,())).st w (Ret (mass_Of.cx k) Tryz.f49 c0 (.more (.dp T2) (.more (.dp T2) (.more (.dp T26) (.one (.dp T2))))) y):=by
 unfold mass_Of; exact
  oB fun y1 e2 =>
  oF (fun e3 =>
  oS (⟨[.res (.more (.dp T2) (.one (.dp T2))) y1,tT],[],via (retP (aI (aI tv0 e2) e3) (.more (.dp T2) (.more (.dp T2) (.more (.dp T26) (.one (.dp T2))))) (((0:Int),(0:Int),((0:Int),(0:Int),()),y1.2):(Int × (Int × (V26 × Int))))) (by kernel_rfl)⟩)) (fun e3 =>
  oB fun o8 e9 =>
  Owp.two (fun y10 e11 =>
  oS (⟨[.res (.more (.dp T2) (.one (.dp T2))) y1,fF,.cut ⟨[],[(0,2)],(mass_Of.c1p a0 a1 y1 (0:Int)),1,.ret,(mass_Of.c1q a0 a1 y1 (.inl ())),1⟩],[],via (cutP (aI (aI tv0 e2) e3) [(0,2)] (mass_Of.c1p a0 a1 y1 (0:Int)) (((mass_Of.c1_ok k a0 a1 y1 k (0:Int)).ap (e9.trans (congrArg some e11))).triple) (retP tv0 (.more (.dp T2) (.more (.dp T2) (.more (.dp T26) (.one (.dp T2))))) (((0:Int),(0:Int),((0:Int),(0:Int),()),(1:Int)):(Int × (Int × (V26 × Int)))))) (by kernel_rfl)⟩)) (fun y12 e13 =>
  oB fun o15 e16 =>
  oF (fun e17 =>
  oS (⟨[.res (.more (.dp T2) (.one (.dp T2))) y1,fF,.cut ⟨[],[(0,2)],(mass_Of.c1p a0 a1 y1 (0:Int)),1,(.exit 0),(mass_Of.c1q a0 a1 y1 (.inr ())),1⟩,.cutR 10 ⟨[],[(0,0)],(mass_Of.c2p a0 a1 y1),1,.normal,(mass_Of.c2q a0 a1 y1 o15),1⟩,tT],[],via (cutP (aI (aI tv0 e2) e3) [(0,2)] (mass_Of.c1p a0 a1 y1 (0:Int)) (((mass_Of.c1_ok k a0 a1 y1 k (0:Int)).ap (e9.trans (congrArg some e13))).triple) (cutP tv0 [(0,0)] (mass_Of.c2p a0 a1 y1) (((mass_Of.c2_ok k a0 a1 y1).ap e16)) (retP (aI tv0 e17) (.more (.dp T2) (.more (.dp T2) (.more (.dp T26) (.one (.dp T2))))) (((0:Int),(0:Int),((0:Int),(0:Int),()),(1:Int)):(Int × (Int × (V26 × Int))))))) (by kernel_rfl)⟩)) (fun e17 =>
  oB fun y18 e19 =>
  oB fun o32 e33 =>
  oB fun y34 e35 =>
  oB fun y36 e37 =>
  oB fun y38 e39 =>
  oB fun o41 e42 =>
  oF (fun e43 =>
  oS (⟨[.res (.more (.dp T2) (.one (.dp T2))) y1,fF,.cut ⟨[],[(0,2)],(mass_Of.c1p a0 a1 y1 (0:Int)),1,(.exit 0),(mass_Of.c1q a0 a1 y1 (.inr ())),1⟩,.cutR 10 ⟨[],[(0,0)],(mass_Of.c2p a0 a1 y1),1,.normal,(mass_Of.c2q a0 a1 y1 o15),1⟩,fF,rS T26 y18,.cut ⟨[],[(0,0),(1,4),(2,6)],(mass_Of.c3p a0 a1 y1 y18 (0:Int) ((0:Int),(0:Int),())),3,(.exit 2),(mass_Of.c3q a1 y1 y18 o32),3⟩,.res (.more (.dp T2) (.one (.dp T2))) y34,rS T2 y36,rS T2 y38,.cutR 24 ⟨[],[(0,0),(1,1)],(mass_Of.c4p y18 y36 y38),2,.normal,(mass_Of.c4q y18 y36 y38 o41),2⟩,tT],[],via (cutP (aI (aI tv0 e2) e3) [(0,2)] (mass_Of.c1p a0 a1 y1 (0:Int)) (((mass_Of.c1_ok k a0 a1 y1 k (0:Int)).ap (e9.trans (congrArg some e13))).triple) (cutP tv0 [(0,0)] (mass_Of.c2p a0 a1 y1) (((mass_Of.c2_ok k a0 a1 y1).ap e16)) (cutP (aI (aI tv0 e17) e19) [(0,0),(1,4),(2,6)] (mass_Of.c3p a0 a1 y1 y18 (0:Int) ((0:Int),(0:Int),())) (((mass_Of.c3_ok k a0 a1 y1 y18 k (0:Int) ((0:Int),(0:Int),())).ap e33).triple) (cutP (aI (aI (aI tv0 e35) e37) e39) [(0,0),(1,1)] (mass_Of.c4p y18 y36 y38) (((mass_Of.c4_ok k y18 y36 y38).ap e42)) (retP (aI tv0 e43) (.more (.dp T2) (.more (.dp T2) (.more (.dp T26) (.one (.dp T2))))) (((0:Int),(0:Int),((0:Int),(0:Int),()),(17:Int)):(Int × (Int × (V26 × Int))))))))) (by kernel_rfl)⟩)) (fun e43 =>
  oB fun o45 e46 =>
  oF (fun e47 =>
  oS (⟨[.res (.more (.dp T2) (.one (.dp T2))) y1,fF,.cut ⟨[],[(0,2)],(mass_Of.c1p a0 a1 y1 (0:Int)),1,(.exit 0),(mass_Of.c1q a0 a1 y1 (.inr ())),1⟩,.cutR 10 ⟨[],[(0,0)],(mass_Of.c2p a0 a1 y1),1,.normal,(mass_Of.c2q a0 a1 y1 o15),1⟩,fF,rS T26 y18,.cut ⟨[],[(0,0),(1,4),(2,6)],(mass_Of.c3p a0 a1 y1 y18 (0:Int) ((0:Int),(0:Int),())),3,(.exit 2),(mass_Of.c3q a1 y1 y18 o32),3⟩,.res (.more (.dp T2) (.one (.dp T2))) y34,rS T2 y36,rS T2 y38,.cutR 24 ⟨[],[(0,0),(1,1)],(mass_Of.c4p y18 y36 y38),2,.normal,(mass_Of.c4q y18 y36 y38 o41),2⟩,fF,.cutR 26 ⟨[],[(0,0),(1,1)],(mass_Of.c5p y18 y36 y38),2,.normal,(mass_Of.c5q y18 y36 y38 o45),2⟩,tT],[],via (cutP (aI (aI tv0 e2) e3) [(0,2)] (mass_Of.c1p a0 a1 y1 (0:Int)) (((mass_Of.c1_ok k a0 a1 y1 k (0:Int)).ap (e9.trans (congrArg some e13))).triple) (cutP tv0 [(0,0)] (mass_Of.c2p a0 a1 y1) (((mass_Of.c2_ok k a0 a1 y1).ap e16)) (cutP (aI (aI tv0 e17) e19) [(0,0),(1,4),(2,6)] (mass_Of.c3p a0 a1 y1 y18 (0:Int) ((0:Int),(0:Int),())) (((mass_Of.c3_ok k a0 a1 y1 y18 k (0:Int) ((0:Int),(0:Int),())).ap e33).triple) (cutP (aI (aI (aI tv0 e35) e37) e39) [(0,0),(1,1)] (mass_Of.c4p y18 y36 y38) (((mass_Of.c4_ok k y18 y36 y38).ap e42)) (cutP (aI tv0 e43) [(0,0),(1,1)] (mass_Of.c5p y18 y36 y38) (((mass_Of.c5_ok k y18 y36 y38).ap e46)) (retP (aI tv0 e47) (.more (.dp T2) (.more (.dp T2) (.more (.dp T26) (.one (.dp T2))))) (((0:Int),(0:Int),((0:Int),(0:Int),()),(2:Int)):(Int × (Int × (V26 × Int)))))))))) (by kernel_rfl)⟩)) (fun e47 =>
  oS (⟨[.res (.more (.dp T2) (.one (.dp T2))) y1,fF,.cut ⟨[],[(0,2)],(mass_Of.c1p a0 a1 y1 (0:Int)),1,(.exit 0),(mass_Of.c1q a0 a1 y1 (.inr ())),1⟩,.cutR 10 ⟨[],[(0,0)],(mass_Of.c2p a0 a1 y1),1,.normal,(mass_Of.c2q a0 a1 y1 o15),1⟩,fF,rS T26 y18,.cut ⟨[],[(0,0),(1,4),(2,6)],(mass_Of.c3p a0 a1 y1 y18 (0:Int) ((0:Int),(0:Int),())),3,(.exit 2),(mass_Of.c3q a1 y1 y18 o32),3⟩,.res (.more (.dp T2) (.one (.dp T2))) y34,rS T2 y36,rS T2 y38,.cutR 24 ⟨[],[(0,0),(1,1)],(mass_Of.c4p y18 y36 y38),2,.normal,(mass_Of.c4q y18 y36 y38 o41),2⟩,fF,.cutR 26 ⟨[],[(0,0),(1,1)],(mass_Of.c5p y18 y36 y38),2,.normal,(mass_Of.c5q y18 y36 y38 o45),2⟩,fF],[],via (cutP (aI (aI tv0 e2) e3) [(0,2)] (mass_Of.c1p a0 a1 y1 (0:Int)) (((mass_Of.c1_ok k a0 a1 y1 k (0:Int)).ap (e9.trans (congrArg some e13))).triple) (cutP tv0 [(0,0)] (mass_Of.c2p a0 a1 y1) (((mass_Of.c2_ok k a0 a1 y1).ap e16)) (cutP (aI (aI tv0 e17) e19) [(0,0),(1,4),(2,6)] (mass_Of.c3p a0 a1 y1 y18 (0:Int) ((0:Int),(0:Int),())) (((mass_Of.c3_ok k a0 a1 y1 y18 k (0:Int) ((0:Int),(0:Int),())).ap e33).triple) (cutP (aI (aI (aI tv0 e35) e37) e39) [(0,0),(1,1)] (mass_Of.c4p y18 y36 y38) (((mass_Of.c4_ok k y18 y36 y38).ap e42)) (cutP (aI tv0 e43) [(0,0),(1,1)] (mass_Of.c5p y18 y36 y38) (((mass_Of.c5_ok k y18 y36 y38).ap e46)) (retP (aI tv0 e47) (.more (.dp T2) (.more (.dp T2) (.more (.dp T26) (.one (.dp T2))))) ((y36,y38,y18,(0:Int)):(Int × (Int × (V26 × Int)))))))))) (by kernel_rfl)⟩))))))
theorem mass_Of.ok (k:Nat):FnOk PR 49 (mass_Of.sp k) :=
 fn_ok (mass_Of.cok k) hmix Tryz.func49 (code:=mass_Of.code) (by kernel_rfl) (by kernel_rfl) (by kernel_rfl) rfl rfl (by kernel_rfl) (by kernel_rfl) (by kernel_rfl) (fun x=>Nat.le_of_ble_eq_true (by kernel_rfl)) fun x y hy=>(mass_Of.way k x.1 x.2.1).ap hy
noncomputable def slices_Clone_66.code:Code:=Func.cd Tryz.f66
def slices_Clone_66 (k:Nat) (a0:(List V26)):Option (List V26) :=
 req (room0 16 a0) <|some a0
noncomputable def slices_Clone_66.sp (k:Nat):Go.Sx.Spec:=⟨(.pair T36 .unit),(.one (.ow T26 27)),fun x=>slices_Clone_66 k x.1,false⟩
noncomputable def slices_Clone_66.cx (k:Nat):Go.Sx.Ctx:=⟨tys,[],eqs,8,0,[],false⟩
theorem slices_Clone_66.cok (k:Nat):CtxOk PR (slices_Clone_66.cx k):=ctx_ok tysOk eqsOk FnsOk.nil HsOk.nil
theorem slices_Clone_66.way (k:Nat) (a0:(List V26)):Owp (slices_Clone_66 k a0) fun y=>∃ w c0,exec PR (slices_Clone_66.cx k) slices_Clone_66.code 0 (entry (.pair T36 .unit) (a0,())).st w (Ret (slices_Clone_66.cx k) Tryz.f66 c0 (.one (.ow T26 27)) y):=by
 unfold slices_Clone_66; exact
  oR fun h1=>match a0,h1 with
  | [],h1=>oS (⟨[.fork [] [tT]],[.own 2 T26 27],via (show (True→(True∧(True∧some (Blk.row T26 ([]:(List V26)) 27)=some (Blk.row T26 ([]:(List V26)) 27))))∧((True∧room0 16 ([]:(List V26)))∧(True∧some (Blk.row T26 ([]:(List V26)) 27)=some (Blk.row T26 ([]:(List V26)) 27))) from ⟨fun _=>⟨tv0,tv0,rfl⟩,⟨tv0,h1⟩,tv0,rfl⟩) (by kernel_rfl)⟩)
  | a :: l,h1=>oS (⟨[fF,tT],[.own 2 T26 27],via (show ((True∧false=false)∧room0 16 (a :: l))∧(True∧some (Blk.row T26 (a :: l:(List V26)) 27)=some (Blk.row T26 (a :: l:(List V26)) 27)) from ⟨⟨⟨tv0,rfl⟩,h1⟩,tv0,rfl⟩) (by kernel_rfl)⟩)
theorem slices_Clone_66.ok (k:Nat):FnOk PR 66 (slices_Clone_66.sp k) :=
 fn_ok (slices_Clone_66.cok k) hmix Tryz.func66 (code:=slices_Clone_66.code) (by kernel_rfl) (by kernel_rfl) (by kernel_rfl) rfl rfl (by kernel_rfl) (by kernel_rfl) (by kernel_rfl) (fun x=>Nat.le_of_ble_eq_true (by kernel_rfl)) fun x y hy=>(slices_Clone_66.way k x.1).ap hy
noncomputable def slices_Clone_72.code:Code:=Func.cd Tryz.f72
def slices_Clone_72 (k:Nat) (a0:(List V102)):Option (List V102) :=
 req (room0 80 a0) <|some a0
noncomputable def slices_Clone_72.sp (k:Nat):Go.Sx.Spec:=⟨(.pair (.slice T102) .unit),(.one (.ow T102 103)),fun x=>slices_Clone_72 k x.1,false⟩
noncomputable def slices_Clone_72.cx (k:Nat):Go.Sx.Ctx:=⟨tys,[],eqs,8,0,[],false⟩
theorem slices_Clone_72.cok (k:Nat):CtxOk PR (slices_Clone_72.cx k):=ctx_ok tysOk eqsOk FnsOk.nil HsOk.nil
theorem slices_Clone_72.way (k:Nat) (a0:(List V102)):Owp (slices_Clone_72 k a0) fun y=>∃ w c0,exec PR (slices_Clone_72.cx k) slices_Clone_72.code 0 (entry (.pair (.slice T102) .unit) (a0,())).st w (Ret (slices_Clone_72.cx k) Tryz.f72 c0 (.one (.ow T102 103)) y):=by
 unfold slices_Clone_72; exact
  oR fun h1=>match a0,h1 with
  | [],h1=>oS (⟨[.fork [] [tT]],[.own 2 T102 103],via (show (True→(True∧(True∧some (Blk.row T102 ([]:(List V102)) 103)=some (Blk.row T102 ([]:(List V102)) 103))))∧((True∧room0 80 ([]:(List V102)))∧(True∧some (Blk.row T102 ([]:(List V102)) 103)=some (Blk.row T102 ([]:(List V102)) 103))) from ⟨fun _=>⟨tv0,tv0,rfl⟩,⟨tv0,h1⟩,tv0,rfl⟩) (by kernel_rfl)⟩)
  | a :: l,h1=>oS (⟨[fF,tT],[.own 2 T102 103],via (show ((True∧false=false)∧room0 80 (a :: l))∧(True∧some (Blk.row T102 (a :: l:(List V102)) 103)=some (Blk.row T102 (a :: l:(List V102)) 103)) from ⟨⟨⟨tv0,rfl⟩,h1⟩,tv0,rfl⟩) (by kernel_rfl)⟩)
theorem slices_Clone_72.ok (k:Nat):FnOk PR 72 (slices_Clone_72.sp k) :=
 fn_ok (slices_Clone_72.cok k) hmix Tryz.func72 (code:=slices_Clone_72.code) (by kernel_rfl) (by kernel_rfl) (by kernel_rfl) rfl rfl (by kernel_rfl) (by kernel_rfl) (by kernel_rfl) (fun x=>Nat.le_of_ble_eq_true (by kernel_rfl)) fun x y hy=>(slices_Clone_72.way k x.1).ap hy
end Go.Proofs.T1
