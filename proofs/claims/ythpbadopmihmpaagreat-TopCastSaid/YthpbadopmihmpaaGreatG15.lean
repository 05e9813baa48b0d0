import Derived.Test.YthpbadopmihmpaaGreatG0
import Derived.Test.YthpbadopmihmpaaGreatG2
import Derived.Test.YthpbadopmihmpaaGreatG3
import Derived.Test.YthpbadopmihmpaaGreatG9
import Derived.Test.YthpbadopmihmpaaGreatG11
import Derived.Test.YthpbadopmihmpaaGreatG14
namespace Go.Proofs.T1
open Go Go.Sx Go.Proofs
set_option maxRecDepth 100000
set_option linter.unusedVariables false
noncomputable def tourtop_TopCast_1.code:Code:=Func.cd Tryz.f5
noncomputable def tourtop_TopCast_1 (k:Nat) (a0 a1:Int):Option V26 :=
 bnd (tourmake_Below k a0 1572864) fun y1 =>
 bnd (tourmake_Below k a1 1572864) fun y3 =>
 some ((isub .i64 y1 786432),(isub .i64 y3 786432),())
noncomputable def tourtop_TopCast_1.sp (k:Nat):Go.Sx.Spec:=⟨T26,(.one (.dp T26)),fun x=>tourtop_TopCast_1 k x.1 x.2.1,false⟩
noncomputable def tourtop_TopCast_1.cx (k:Nat):Go.Sx.Ctx:=⟨tys,[(6,tourmake_Below.sp k)],eqs,12,0,[],false⟩
theorem tourtop_TopCast_1.cok (k:Nat):CtxOk PR (tourtop_TopCast_1.cx k):=ctx_ok tysOk eqsOk (fC (tourmake_Below.ok k) FnsOk.nil) HsOk.nil
theorem tourtop_TopCast_1.way (k:Nat) (a0 a1:Int):Owp (tourtop_TopCast_1 k a0 a1) fun y=>∃ w c0,exec PR (tourtop_TopCast_1.cx k) tourtop_TopCast_1.code 0 (entry T26 (a0,a1,())).st w (Ret (tourtop_TopCast_1.cx k) Tryz.f5 c0 (.one (.dp T26)) y):=by
 unfold tourtop_TopCast_1; exact
  oB fun y1 e2 =>
  oB fun y3 e4 =>
  oS (⟨[rS T2 y1,rS T2 y3],[],via (retP (aI (aI tv0 e2) e4) (.one (.dp T26)) (((isub .i64 y1 (786432:Int)),(isub .i64 y3 (786432:Int)),()):V26)) (by kernel_rfl)⟩)
theorem tourtop_TopCast_1.ok (k:Nat):FnOk PR 5 (tourtop_TopCast_1.sp k) :=
 fn_ok (tourtop_TopCast_1.cok k) hmix Tryz.func5 (code:=tourtop_TopCast_1.code) (by kernel_rfl) (by kernel_rfl) (by kernel_rfl) rfl rfl (by kernel_rfl) (by kernel_rfl) (by kernel_rfl) (fun x=>Nat.le_of_ble_eq_true (by kernel_rfl)) fun x y hy=>(tourtop_TopCast_1.way k x.1 x.2.1).ap hy
noncomputable def tourtop_h7box.code:Code:=Func.cd Tryz.f22
noncomputable def tourtop_h7box (k:Nat) (a0 a1 a2 a3:Int) (a4:Bool):Option V45 :=
 bif' a4
 (bnd (mass_Of k [((ineg .i64 (imul .i64 a2 65536)),(ineg .i64 (imul .i64 a3 65536)),()),((imul .i64 a2 65536),(ineg .i64 (imul .i64 a3 65536)),()),((imul .i64 a2 65536),(imul .i64 a3 65536),()),((ineg .i64 (imul .i64 a2 65536)),(imul .i64 a3 65536),())] 65536) fun y2 =>
  some (((imul .i64 a0 65536),(imul .i64 a1 65536),()),(0,0,()),0,0,y2.1,y2.2.1,0,0,[((ineg .i64 (imul .i64 a2 65536)),(ineg .i64 (imul .i64 a3 65536)),()),((imul .i64 a2 65536),(ineg .i64 (imul .i64 a3 65536)),()),((imul .i64 a2 65536),(imul .i64 a3 65536),()),((ineg .i64 (imul .i64 a2 65536)),(imul .i64 a3 65536),())],false,0,()))
 (some (((imul .i64 a0 65536),(imul .i64 a1 65536),()),(0,0,()),0,0,0,0,0,0,[((ineg .i64 (imul .i64 a2 65536)),(ineg .i64 (imul .i64 a3 65536)),()),((imul .i64 a2 65536),(ineg .i64 (imul .i64 a3 65536)),()),((imul .i64 a2 65536),(imul .i64 a3 65536),()),((ineg .i64 (imul .i64 a2 65536)),(imul .i64 a3 65536),())],false,0,()))
noncomputable def tourtop_h7box.sp (k:Nat):Go.Sx.Spec:=⟨(.pair T2 (.pair T2 (.pair T2 (.pair T2 (.pair T4 .unit))))),(.one (.dp T45)),fun x=>tourtop_h7box k x.1 x.2.1 x.2.2.1 x.2.2.2.1 x.2.2.2.2.1,false⟩
noncomputable def tourtop_h7box.cx (k:Nat):Go.Sx.Ctx:=⟨tys,[(49,mass_Of.sp k)],eqs,51,0,[],false⟩
theorem tourtop_h7box.cok (k:Nat):CtxOk PR (tourtop_h7box.cx k):=ctx_ok tysOk eqsOk (fC (mass_Of.ok k) FnsOk.nil) HsOk.nil
theorem tourtop_h7box.way (k:Nat) (a0 a1 a2 a3:Int) (a4:Bool):Owp (tourtop_h7box k a0 a1 a2 a3 a4) fun y=>∃ w c0,exec PR (tourtop_h7box.cx k) tourtop_h7box.code 0 (entry (.pair T2 (.pair T2 (.pair T2 (.pair T2 (.pair T4 .unit))))) (a0,a1,a2,a3,a4,())).st w (Ret (tourtop_h7box.cx k) Tryz.f22 c0 (.one (.dp T45)) y):=by
 unfold tourtop_h7box; exact
  oF (fun e1 =>
  oB fun y2 e3 =>
  oS (⟨[fF,tT,.res (.more (.dp T2) (.more (.dp T2) (.more (.dp T26) (.one (.dp T2))))) y2],[],via (retP (aI (aI tv0 e1) e3) (.one (.dp T45)) ((((imul .i64 a0 (65536:Int)),(imul .i64 a1 (65536:Int)),()),((0:Int),(0:Int),()),(0:Int),(0:Int),y2.1,y2.2.1,(0:Int),(0:Int),[((ineg .i64 (imul .i64 a2 (65536:Int))),(ineg .i64 (imul .i64 a3 (65536:Int))),()),((imul .i64 a2 (65536:Int)),(ineg .i64 (imul .i64 a3 (65536:Int))),()),((imul .i64 a2 (65536:Int)),(imul .i64 a3 (65536:Int)),()),((ineg .i64 (imul .i64 a2 (65536:Int))),(imul .i64 a3 (65536:Int)),())],false,(0:Int),()):V45)) (by kernel_rfl)⟩)) (fun e1 =>
  oS (⟨[fF,fF],[],via (retP (aI tv0 e1) (.one (.dp T45)) ((((imul .i64 a0 (65536:Int)),(imul .i64 a1 (65536:Int)),()),((0:Int),(0:Int),()),(0:Int),(0:Int),(0:Int),(0:Int),(0:Int),(0:Int),[((ineg .i64 (imul .i64 a2 (65536:Int))),(ineg .i64 (imul .i64 a3 (65536:Int))),()),((imul .i64 a2 (65536:Int)),(ineg .i64 (imul .i64 a3 (65536:Int))),()),((imul .i64 a2 (65536:Int)),(imul .i64 a3 (65536:Int)),()),((ineg .i64 (imul .i64 a2 (65536:Int))),(imul .i64 a3 (65536:Int)),())],false,(0:Int),()):V45)) (by kernel_rfl)⟩))
theorem tourtop_h7box.ok (k:Nat):FnOk PR 22 (tourtop_h7box.sp k) :=
 fn_ok (tourtop_h7box.cok k) hmix Tryz.func22 (code:=tourtop_h7box.code) (by kernel_rfl) (by kernel_rfl) (by kernel_rfl) rfl rfl (by kernel_rfl) (by kernel_rfl) (by kernel_rfl) (fun x=>Nat.le_of_ble_eq_true (by kernel_rfl)) fun x y hy=>(tourtop_h7box.way k x.1 x.2.1 x.2.2.1 x.2.2.2.1 x.2.2.2.2.1).ap hy
noncomputable def tourtop_h7begun.code:Code:=Func.cd Tryz.f9
noncomputable def tourtop_h7begun (k:Nat):Option Bool :=
 bnd (tourtop_h7box k 0 5 1 1 true) fun y1 =>
 bnd (phys_Step k ([y1],[],[],(0,(-655360),()),1024,())) fun y3 =>
 bnd (tourtop_h7box k 0 0 1 1 false) fun y5 =>
 bnd (ray_Cast k [y5] ((-262144),0,()) (524288,0,())) fun y7 =>
 bif' (ieq y3.2 0)
 (bif' (ieq y7.2.2 0)
  (bif' (ieq (len y3.1.1) 1)
  (req (inL 0 y3.1.1) <|bif' (ieq (el Z45 y3.1.1 0).2.1.2.1 (-10240))
  (bif' (ieq y7.1 0)
  (some (ieq y7.2.1 24576))
  (some false))
  (some false))
  (some false))
  (some false))
 (some false)
noncomputable def tourtop_h7begun.sp (k:Nat):Go.Sx.Spec:=⟨.unit,(.one (.dp T4)),fun x=>tourtop_h7begun k,false⟩
noncomputable def tourtop_h7begun.cx (k:Nat):Go.Sx.Ctx:=⟨tys,[(22,tourtop_h7box.sp k),(21,phys_Step.sp k),(7,ray_Cast.sp k)],eqs,52,0,[],false⟩
theorem tourtop_h7begun.cok (k:Nat):CtxOk PR (tourtop_h7begun.cx k):=ctx_ok tysOk eqsOk (fC (tourtop_h7box.ok k) (fC (phys_Step.ok k) (fC (ray_Cast.ok k) FnsOk.nil))) HsOk.nil
theorem tourtop_h7begun.way (k:Nat):Owp (tourtop_h7begun k) fun y=>∃ w c0,exec PR (tourtop_h7begun.cx k) tourtop_h7begun.code 0 (entry .unit ()).st w (Ret (tourtop_h7begun.cx k) Tryz.f9 c0 (.one (.dp T4)) y):=by
 unfold tourtop_h7begun; exact
  oB fun y1 e2 =>
  oB fun y3 e4 =>
  oB fun y5 e6 =>
  oB fun y7 e8 =>
  oF (fun e9 =>
  oF (fun e10 =>
  oF (fun e11 =>
  oR fun h12 =>
  oF (fun e13 =>
  oF (fun e14 =>
  oS (⟨[rS T45 y1,fF,.res (.more (.dp T28) (.one (.dp T2))) y3,rS T45 y5,tT,.res (.more (.dp T2) (.more (.dp T2) (.one (.dp T2)))) y7,tT,tT,tT,tT,tT,tT,tT,tT,tT,tT,tT,tT,tT,tT,tT,tT,tT,tT,tT,tT,tT,tT],[],via (retP (aI (aI (aI (aI (aI (aI (aI (aI (aI (aI (aI (aI (aI (aI (aI (aI (aI (aI (aI (aI (aI (aI (aI (aI (aI (aI tv0 e2) e4) e6) e8) e9) e9) e9) e10) e10) e10) e10) e10) e11) e11) (aI e11 h12)) e11) e11) e11) e11) e11) e13) e13) e13) e14) e14) e14) (.one (.dp T4)) ((ieq y7.2.1 (24576:Int)):Bool)) (by kernel_rfl)⟩)) (fun e14 =>
  oS (⟨[rS T45 y1,fF,.res (.more (.dp T28) (.one (.dp T2))) y3,rS T45 y5,tT,.res (.more (.dp T2) (.more (.dp T2) (.one (.dp T2)))) y7,tT,tT,tT,tT,tT,tT,tT,tT,tT,tT,tT,tT,tT,tT,tT,tT,tT,tT,tT,fF,fF,fF],[],via (retP (aI (aI (aI (aI (aI (aI (aI (aI (aI (aI (aI (aI (aI (aI (aI (aI (aI (aI (aI (aI (aI (aI (aI (aI (aI (aI tv0 e2) e4) e6) e8) e9) e9) e9) e10) e10) e10) e10) e10) e11) e11) (aI e11 h12)) e11) e11) e11) e11) e11) e13) e13) e13) e14) e14) e14) (.one (.dp T4)) (false:Bool)) (by kernel_rfl)⟩))) (fun e13 =>
  oS (⟨[rS T45 y1,fF,.res (.more (.dp T28) (.one (.dp T2))) y3,rS T45 y5,tT,.res (.more (.dp T2) (.more (.dp T2) (.one (.dp T2)))) y7,tT,tT,tT,tT,tT,tT,tT,tT,tT,tT,tT,tT,tT,tT,tT,tT,fF,fF,fF,fF,fF,fF],[],via (retP (aI (aI (aI (aI (aI (aI (aI (aI (aI (aI (aI (aI (aI (aI (aI (aI (aI (aI (aI (aI (aI (aI (aI (aI (aI (aI tv0 e2) e4) e6) e8) e9) e9) e9) e10) e10) e10) e10) e10) e11) e11) (aI e11 h12)) e11) e11) e11) e11) e11) e13) e13) e13) ff) ff) ff) (.one (.dp T4)) (false:Bool)) (by kernel_rfl)⟩))) (fun e11 =>
  oS (⟨[rS T45 y1,fF,.res (.more (.dp T28) (.one (.dp T2))) y3,rS T45 y5,tT,.res (.more (.dp T2) (.more (.dp T2) (.one (.dp T2)))) y7,tT,tT,tT,tT,tT,tT,tT,tT,fF,fF,fF,fF,fF,fF,fF,fF,fF,fF,fF,fF,fF,fF],[],via (retP (aI (aI (aI (aI (aI (aI (aI (aI (aI (aI (aI (aI (aI (aI (aI (aI (aI (aI (aI (aI (aI (aI (aI (aI (aI (aI tv0 e2) e4) e6) e8) e9) e9) e9) e10) e10) e10) e10) e10) e11) e11) e11) e11) e11) e11) e11) e11) ff) ff) ff) ff) ff) ff) (.one (.dp T4)) (false:Bool)) (by kernel_rfl)⟩))) (fun e10 =>
  oS (⟨[rS T45 y1,fF,.res (.more (.dp T28) (.one (.dp T2))) y3,rS T45 y5,tT,.res (.more (.dp T2) (.more (.dp T2) (.one (.dp T2)))) y7,tT,tT,tT,fF,fF,fF,fF,fF,fF,fF,fF,fF,fF,fF,fF,fF,fF,fF,fF,fF,fF,fF],[],via (retP (aI (aI (aI (aI (aI (aI (aI (aI (aI (aI (aI (aI (aI (aI (aI (aI (aI (aI (aI (aI (aI (aI (aI (aI (aI (aI tv0 e2) e4) e6) e8) e9) e9) e9) e10) e10) e10) e10) e10) ff) ff) ff) ff) ff) ff) ff) ff) ff) ff) ff) ff) ff) ff) (.one (.dp T4)) (false:Bool)) (by kernel_rfl)⟩))) (fun e9 =>
  oS (⟨[rS T45 y1,fF,.res (.more (.dp T28) (.one (.dp T2))) y3,rS T45 y5,tT,.res (.more (.dp T2) (.more (.dp T2) (.one (.dp T2)))) y7,fF,fF,fF,fF,fF,fF,fF,fF,fF,fF,fF,fF,fF,fF,fF,fF,fF,fF,fF,fF,fF,fF],[],via (retP (aI (aI (aI (aI (aI (aI (aI (aI (aI (aI (aI (aI (aI (aI (aI (aI (aI (aI (aI (aI (aI (aI (aI (aI (aI (aI tv0 e2) e4) e6) e8) e9) e9) e9) ff) ff) ff) ff) ff) ff) ff) ff) ff) ff) ff) ff) ff) ff) ff) ff) ff) ff) ff) (.one (.dp T4)) (false:Bool)) (by kernel_rfl)⟩))
theorem tourtop_h7begun.ok (k:Nat):FnOk PR 9 (tourtop_h7begun.sp k) :=
 fn_ok (tourtop_h7begun.cok k) hmix Tryz.func9 (code:=tourtop_h7begun.code) (by kernel_rfl) (by kernel_rfl) (by kernel_rfl) rfl rfl (by kernel_rfl) (by kernel_rfl) (by kernel_rfl) (fun x=>Nat.le_of_ble_eq_true (by kernel_rfl)) fun x y hy=>(tourtop_h7begun.way k).ap hy
noncomputable def tourtop_TopCast.code:Code:=Func.cd Tryz.f3
noncomputable def tourtop_TopCast.c1 (k:Nat) (y7:(Int × (Int × Int))):Option (Bool) :=
 bnd (tourtop_h7begun k) fun y11 =>
 bif' y11
 (bif' (ine y7.2.2 0)
  (some (ine y7.2.2 4))
  (some false))
 (some true)
noncomputable def tourtop_TopCast.c2 (k:Nat) (y1:V28) (y7:(Int × (Int × Int))) (y9:(Int × (Int × Int))):Option (Bool) :=
 bif' (ilt y7.1 0)
 (some true)
 (bif' (ige y7.1 (len y1.1))
  (some true)
  (bif' (ine y9.2.2 0)
  (some true)
  (some (igt y9.2.1 y7.2.1))))
noncomputable def tourtop_TopCast (k:Nat) (a0:(List Int)) (a1 a2 a3 a4:Int):Option Bool :=
 bnd (tourmake_Scene k a0) fun y1 =>
 bnd (tourtop_TopCast_1 k a1 a2) fun y3 =>
 bnd (tourtop_TopCast_1 k a3 a4) fun y5 =>
 bnd (ray_Cast k y1.1 y3 y5) fun y7 =>
 bnd (ray_Shape k y1.1 [((isub .i64 y3.1 8),(isub .i64 y3.2.1 8),()),((iadd .i64 y3.1 8),(isub .i64 y3.2.1 8),()),((iadd .i64 y3.1 8),(iadd .i64 y3.2.1 8),()),((isub .i64 y3.1 8),(iadd .i64 y3.2.1 8),())] y5) fun y9 =>
 bnd (tourtop_TopCast.c1 k y7) fun o15 =>
 bif' o15
 (some false)
 (bif' (ine y7.2.2 0)
  (some true)
  (bnd (tourtop_TopCast.c2 k y1 y7 y9) fun o22 =>
  bif' o22
  (some false)
  (req (cutOk y1.1 y7.1 (iadd .i64 y7.1 1)) <|bnd (vec_Add k y3 y5) fun y26 =>
  bnd (ray_Cast k (cut y1.1 y7.1 (iadd .i64 y7.1 1)) y26 ((ineg .i64 y5.1),(ineg .i64 y5.2.1),())) fun y28 =>
  bif' (ieq y28.2.2 0)
  (some (ile y28.2.1 (isub .i64 65536 y7.2.1)))
  (some false))))
noncomputable def tourtop_TopCast.sp (k:Nat):Go.Sx.Spec:=⟨(.pair T22 (.pair T2 (.pair T2 T26))),(.one (.dp T4)),fun x=>tourtop_TopCast k x.1 x.2.1 x.2.2.1 x.2.2.2.1 x.2.2.2.2.1,false⟩
noncomputable def tourtop_TopCast.cx (k:Nat):Go.Sx.Ctx:=⟨tys,[(4,tourmake_Scene.sp k),(5,tourtop_TopCast_1.sp k),(7,ray_Cast.sp k),(8,ray_Shape.sp k),(9,tourtop_h7begun.sp k),(10,vec_Add.sp k)],eqs,138,0,[],false⟩
theorem tourtop_TopCast.cok (k:Nat):CtxOk PR (tourtop_TopCast.cx k):=ctx_ok tysOk eqsOk (fC (tourmake_Scene.ok k) (fC (tourtop_TopCast_1.ok k) (fC (ray_Cast.ok k) (fC (ray_Shape.ok k) (fC (tourtop_h7begun.ok k) (fC (vec_Add.ok k) FnsOk.nil)))))) HsOk.nil
noncomputable def tourtop_TopCast.c1p (y1:V28) (y3 y5:V26) (y7:(Int × (Int × Int))) (y9:(Int × (Int × Int))):SL:=⟨[(11,(.val (.slice T45) y1.1)),(13,(.val .ptr ⟨0,0,(0:Int),0,0⟩)),(14,(.val .ptr ⟨1,0,(0:Int),0,0⟩)),(15,(.val T2 y7.1)),(16,(.val T2 y7.2.1)),(17,(.val T2 y7.2.2)),(20,(.val T2 y9.2.1)),(21,(.val T2 y9.2.2))],[(0,.cells T26 y3),(1,.cells T26 y5)]⟩
noncomputable def tourtop_TopCast.c1q (y1:V28) (y3 y5:V26) (y7:(Int × (Int × Int))) (y9:(Int × (Int × Int))) (o:Bool):SL:=(fun v=>⟨[(11,(.val (.slice T45) y1.1)),(13,(.val .ptr ⟨0,0,(0:Int),0,0⟩)),(14,(.val .ptr ⟨1,0,(0:Int),0,0⟩)),(15,(.val T2 y7.1)),(16,(.val T2 y7.2.1)),(17,(.val T2 y7.2.2)),(20,(.val T2 y9.2.1)),(21,(.val T2 y9.2.2)),(90,(.val T4 v))],[(0,.cells T26 y3),(1,.cells T26 y5)]⟩) o
noncomputable def tourtop_TopCast.c1x (o:Bool):Ex:=(fun _=>.normal) o
noncomputable def tourtop_TopCast.c1n (o:Bool):Nat:=(fun _=>2) o
theorem tourtop_TopCast.c1_ok (k:Nat) (y1:V28) (y3 y5:V26) (y7:(Int × (Int × Int))) (y9:(Int × (Int × Int))):Owp (tourtop_TopCast.c1 k y7) fun o=>Triple PR (tourtop_TopCast.cx k) (sub tourtop_TopCast.code [1,1,1,1,1,1,1,0,0]) 2 (tourtop_TopCast.c1p y1 y3 y5 y7 y9) (tourtop_TopCast.c1x o) (tourtop_TopCast.c1n o) (tourtop_TopCast.c1q y1 y3 y5 y7 y9 o):=by
 unfold tourtop_TopCast.c1; exact
  oB fun y11 e12 =>
  oF (fun e13 =>
  oF (fun e14 =>
  oS (tW (tourtop_TopCast.cok k) hmix [rS T4 y11,fF,fF,fF,tT,tT,fF,tT,fF] [] [(0,0),(1,1)] (via (finP (aI (aI (aI (aI (aI (aI (aI (aI tv0 e12) (congrArg not e13)) (congrArg not e13)) (congrArg not e13)) e14) e14) (aI (congrArg not e13) e14)) (congrArg not e13)) .normal [(0,0),(1,1)] (tourtop_TopCast.c1q y1 y3 y5 y7 y9 (ine y7.2.2 (4:Int)))) (by kernel_rfl)))) (fun e14 =>
  oS (tW (tourtop_TopCast.cok k) hmix [rS T4 y11,fF,fF,fF,fF,fF,fF,fF,fF] [] [(0,0),(1,1)] (via (finP (aI (aI (aI (aI (aI (aI (aI (aI tv0 e12) (congrArg not e13)) (congrArg not e13)) (congrArg not e13)) e14) e14) (aI (congrArg not e13) e14)) (congrArg not e13)) .normal [(0,0),(1,1)] (tourtop_TopCast.c1q y1 y3 y5 y7 y9 false)) (by kernel_rfl))))) (fun e13 =>
  oS (tW (tourtop_TopCast.cok k) hmix [rS T4 y11,tT,tT,tT,tT,tT,tT,tT,tT] [] [(0,0),(1,1)] (via (finP (aI (aI (aI (aI (aI (aI tv0 e12) (congrArg not e13)) (congrArg not e13)) (congrArg not e13)) (congrArg not e13)) (congrArg not e13)) .normal [(0,0),(1,1)] (tourtop_TopCast.c1q y1 y3 y5 y7 y9 true)) (by kernel_rfl))))
noncomputable def tourtop_TopCast.c2p (y1:V28) (y3 y5:V26) (y7:(Int × (Int × Int))) (y9:(Int × (Int × Int))):SL:=⟨[(11,(.val (.slice T45) y1.1)),(13,(.val .ptr ⟨0,0,(0:Int),0,0⟩)),(14,(.val .ptr ⟨1,0,(0:Int),0,0⟩)),(15,(.val T2 y7.1)),(16,(.val T2 y7.2.1)),(20,(.val T2 y9.2.1)),(21,(.val T2 y9.2.2))],[(0,.cells T26 y3),(1,.cells T26 y5)]⟩
noncomputable def tourtop_TopCast.c2q (y1:V28) (y3 y5:V26) (y7:(Int × (Int × Int))) (o:Bool):SL:=(fun v=>⟨[(11,(.val (.slice T45) y1.1)),(13,(.val .ptr ⟨0,0,(0:Int),0,0⟩)),(14,(.val .ptr ⟨1,0,(0:Int),0,0⟩)),(15,(.val T2 y7.1)),(16,(.val T2 y7.2.1)),(109,(.val T4 v))],[(0,.cells T26 y3),(1,.cells T26 y5)]⟩) o
noncomputable def tourtop_TopCast.c2x (o:Bool):Ex:=(fun _=>.normal) o
noncomputable def tourtop_TopCast.c2n (o:Bool):Nat:=(fun _=>2) o
theorem tourtop_TopCast.c2_ok (k:Nat) (y1:V28) (y3 y5:V26) (y7:(Int × (Int × Int))) (y9:(Int × (Int × Int))):Owp (tourtop_TopCast.c2 k y1 y7 y9) fun o=>Triple PR (tourtop_TopCast.cx k) (sub tourtop_TopCast.code [1,1,1,1,1,1,1,1,1,0,0]) 2 (tourtop_TopCast.c2p y1 y3 y5 y7 y9) (tourtop_TopCast.c2x o) (tourtop_TopCast.c2n o) (tourtop_TopCast.c2q y1 y3 y5 y7 o):=by
 unfold tourtop_TopCast.c2; exact
  oF (fun e19 =>
  oS (tW (tourtop_TopCast.cok k) hmix [tT,tT,tT,tT,tT,tT,tT,tT,tT,tT,tT,tT] [] [(0,0),(1,1)] (via (finP (aI (aI (aI (aI (aI (aI (aI (aI (aI (aI (aI (aI tv0 e19) e19) e19) e19) e19) tt) tt) tt) tt) tt) tt) tt) .normal [(0,0),(1,1)] (tourtop_TopCast.c2q y1 y3 y5 y7 true)) (by kernel_rfl)))) (fun e19 =>
  oF (fun e20 =>
  oS (tW (tourtop_TopCast.cok k) hmix [fF,fF,fF,fF,fF,tT,tT,tT,tT,tT,tT,tT] [] [(0,0),(1,1)] (via (finP (aI (aI (aI (aI (aI (aI (aI (aI (aI (aI (aI (aI tv0 e19) e19) e19) e19) e19) e20) e20) e20) tt) tt) tt) tt) .normal [(0,0),(1,1)] (tourtop_TopCast.c2q y1 y3 y5 y7 true)) (by kernel_rfl)))) (fun e20 =>
  oF (fun e21 =>
  oS (tW (tourtop_TopCast.cok k) hmix [fF,fF,fF,fF,fF,fF,fF,fF,tT,tT,tT,tT] [] [(0,0),(1,1)] (via (finP (aI (aI (aI (aI (aI (aI (aI (aI (aI (aI (aI (aI tv0 e19) e19) e19) e19) e19) e20) e20) e20) e21) e21) e21) e21) .normal [(0,0),(1,1)] (tourtop_TopCast.c2q y1 y3 y5 y7 true)) (by kernel_rfl)))) (fun e21 =>
  oS (tW (tourtop_TopCast.cok k) hmix [fF,fF,fF,fF,fF,fF,fF,fF,fF,fF,fF,fF] [] [(0,0),(1,1)] (via (finP (aI (aI (aI (aI (aI (aI (aI (aI (aI (aI (aI (aI tv0 e19) e19) e19) e19) e19) e20) e20) e20) e21) e21) e21) e21) .normal [(0,0),(1,1)] (tourtop_TopCast.c2q y1 y3 y5 y7 (igt y9.2.1 y7.2.1))) (by kernel_rfl))))))
theorem tourtop_TopCast.way (k:Nat) (a0:(List Int)) (a1 a2 a3 a4:Int):Owp (tourtop_TopCast k a0 a1 a2 a3 a4) fun y=>∃ w c0,exec PR (tourtop_TopCast.cx k) tourtop_TopCast.code 0 (entry (.pair T22 (.pair T2 (.pair T2 T26))) (a0,a1,a2,a3,a4,())).st w (Ret (tourtop_TopCast.cx k) Tryz.f3 c0 (.one (.dp T4)) y):=by
 unfold tourtop_TopCast; exact
  oB fun y1 e2 =>
  oB fun y3 e4 =>
  oB fun y5 e6 =>
  oB fun y7 e8 =>
  oB fun y9 e10 =>
  oB fun o15 e16 =>
  oF (fun e17 =>
  oS (⟨[rS T28 y1,rS T26 y3,rS T26 y5,.res (.more (.dp T2) (.more (.dp T2) (.one (.dp T2)))) y7,tT,.res (.more (.dp T2) (.more (.dp T2) (.one (.dp T2)))) y9,.cutR 7 ⟨[],[(0,14),(1,15)],(tourtop_TopCast.c1p y1 y3 y5 y7 y9),2,.normal,(tourtop_TopCast.c1q y1 y3 y5 y7 y9 o15),2⟩,tT],[],via (cutP (aI (aI (aI (aI (aI tv0 e2) e4) e6) e8) e10) [(0,14),(1,15)] (tourtop_TopCast.c1p y1 y3 y5 y7 y9) (((tourtop_TopCast.c1_ok k y1 y3 y5 y7 y9).ap e16)) (retP (aI tv0 e17) (.one (.dp T4)) (false:Bool))) (by kernel_rfl)⟩)) (fun e17 =>
  oF (fun e18 =>
  oS (⟨[rS T28 y1,rS T26 y3,rS T26 y5,.res (.more (.dp T2) (.more (.dp T2) (.one (.dp T2)))) y7,tT,.res (.more (.dp T2) (.more (.dp T2) (.one (.dp T2)))) y9,.cutR 7 ⟨[],[(0,14),(1,15)],(tourtop_TopCast.c1p y1 y3 y5 y7 y9),2,.normal,(tourtop_TopCast.c1q y1 y3 y5 y7 y9 o15),2⟩,fF,tT],[],via (cutP (aI (aI (aI (aI (aI tv0 e2) e4) e6) e8) e10) [(0,14),(1,15)] (tourtop_TopCast.c1p y1 y3 y5 y7 y9) (((tourtop_TopCast.c1_ok k y1 y3 y5 y7 y9).ap e16)) (retP (aI (aI tv0 e17) e18) (.one (.dp T4)) (true:Bool))) (by kernel_rfl)⟩)) (fun e18 =>
  oB fun o22 e23 =>
  oF (fun e24 =>
  oS (⟨[rS T28 y1,rS T26 y3,rS T26 y5,.res (.more (.dp T2) (.more (.dp T2) (.one (.dp T2)))) y7,tT,.res (.more (.dp T2) (.more (.dp T2) (.one (.dp T2)))) y9,.cutR 7 ⟨[],[(0,14),(1,15)],(tourtop_TopCast.c1p y1 y3 y5 y7 y9),2,.normal,(tourtop_TopCast.c1q y1 y3 y5 y7 y9 o15),2⟩,fF,fF,.cutR 11 ⟨[],[(0,0),(1,1)],(tourtop_TopCast.c2p y1 y3 y5 y7 y9),2,.normal,(tourtop_TopCast.c2q y1 y3 y5 y7 o22),2⟩,tT],[],via (cutP (aI (aI (aI (aI (aI tv0 e2) e4) e6) e8) e10) [(0,14),(1,15)] (tourtop_TopCast.c1p y1 y3 y5 y7 y9) (((tourtop_TopCast.c1_ok k y1 y3 y5 y7 y9).ap e16)) (cutP (aI (aI tv0 e17) e18) [(0,0),(1,1)] (tourtop_TopCast.c2p y1 y3 y5 y7 y9) (((tourtop_TopCast.c2_ok k y1 y3 y5 y7 y9).ap e23)) (retP (aI tv0 e24) (.one (.dp T4)) (false:Bool)))) (by kernel_rfl)⟩)) (fun e24 =>
  oR fun h25 =>
  oB fun y26 e27 =>
  oB fun y28 e29 =>
  oF (fun e30 =>
  oS (⟨[rS T28 y1,rS T26 y3,rS T26 y5,.res (.more (.dp T2) (.more (.dp T2) (.one (.dp T2)))) y7,tT,.res (.more (.dp T2) (.more (.dp T2) (.one (.dp T2)))) y9,.cutR 7 ⟨[],[(0,14),(1,15)],(tourtop_TopCast.c1p y1 y3 y5 y7 y9),2,.normal,(tourtop_TopCast.c1q y1 y3 y5 y7 y9 o15),2⟩,fF,fF,.cutR 11 ⟨[],[(0,0),(1,1)],(tourtop_TopCast.c2p y1 y3 y5 y7 y9),2,.normal,(tourtop_TopCast.c2q y1 y3 y5 y7 o22),2⟩,fF,rS T26 y26,.res (.more (.dp T2) (.more (.dp T2) (.one (.dp T2)))) y28,tT,tT,tT,tT,tT],[],via (cutP (aI (aI (aI (aI (aI tv0 e2) e4) e6) e8) e10) [(0,14),(1,15)] (tourtop_TopCast.c1p y1 y3 y5 y7 y9) (((tourtop_TopCast.c1_ok k y1 y3 y5 y7 y9).ap e16)) (cutP (aI (aI tv0 e17) e18) [(0,0),(1,1)] (tourtop_TopCast.c2p y1 y3 y5 y7 y9) (((tourtop_TopCast.c2_ok k y1 y3 y5 y7 y9).ap e23)) (retP (aI (aI (aI (aI (aI (aI (aI (aI (aI tv0 e24) h25) e27) e29) e30) e30) e30) e30) e30) (.one (.dp T4)) ((ile y28.2.1 (isub .i64 (65536:Int) y7.2.1)):Bool)))) (by kernel_rfl)⟩)) (fun e30 =>
  oS (⟨[rS T28 y1,rS T26 y3,rS T26 y5,.res (.more (.dp T2) (.more (.dp T2) (.one (.dp T2)))) y7,tT,.res (.more (.dp T2) (.more (.dp T2) (.one (.dp T2)))) y9,.cutR 7 ⟨[],[(0,14),(1,15)],(tourtop_TopCast.c1p y1 y3 y5 y7 y9),2,.normal,(tourtop_TopCast.c1q y1 y3 y5 y7 y9 o15),2⟩,fF,fF,.cutR 11 ⟨[],[(0,0),(1,1)],(tourtop_TopCast.c2p y1 y3 y5 y7 y9),2,.normal,(tourtop_TopCast.c2q y1 y3 y5 y7 o22),2⟩,fF,rS T26 y26,.res (.more (.dp T2) (.more (.dp T2) (.one (.dp T2)))) y28,fF,fF,fF,fF,fF],[],via (cutP (aI (aI (aI (aI (aI tv0 e2) e4) e6) e8) e10) [(0,14),(1,15)] (tourtop_TopCast.c1p y1 y3 y5 y7 y9) (((tourtop_TopCast.c1_ok k y1 y3 y5 y7 y9).ap e16)) (cutP (aI (aI tv0 e17) e18) [(0,0),(1,1)] (tourtop_TopCast.c2p y1 y3 y5 y7 y9) (((tourtop_TopCast.c2_ok k y1 y3 y5 y7 y9).ap e23)) (retP (aI (aI (aI (aI (aI (aI (aI (aI (aI tv0 e24) h25) e27) e29) e30) e30) e30) e30) e30) (.one (.dp T4)) (false:Bool)))) (by kernel_rfl)⟩)))))
theorem tourtop_TopCast.ok (k:Nat):FnOk PR 3 (tourtop_TopCast.sp k) :=
 fn_ok (tourtop_TopCast.cok k) hmix Tryz.func3 (code:=tourtop_TopCast.code) (by kernel_rfl) (by kernel_rfl) (by kernel_rfl) rfl rfl (by kernel_rfl) (by kernel_rfl) (by kernel_rfl) (fun x=>Nat.le_of_ble_eq_true (by kernel_rfl)) fun x y hy=>(tourtop_TopCast.way k x.1 x.2.1 x.2.2.1 x.2.2.2.1 x.2.2.2.2.1).ap hy
end Go.Proofs.T1
