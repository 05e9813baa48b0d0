import Derived.Test.YtipddonkkhjegaaGreatG0
import Derived.Test.YtipddonkkhjegaaGreatG2
import Derived.Test.YtipddonkkhjegaaGreatG3
import Derived.Test.YtipddonkkhjegaaGreatG11
import Derived.Test.YtipddonkkhjegaaGreatG12
import Derived.Test.YtipddonkkhjegaaGreatG13
import Derived.Test.YtipddonkkhjegaaGreatG14
import Derived.Test.YtipddonkkhjegaaGreatG16
namespace Go.Proofs.T1
open Go Go.Sx Go.Proofs
set_option maxRecDepth 100000
set_option linter.unusedVariables false
noncomputable def tourkeep2_solves.code:Code:=Func.cd Tryz.f26
noncomputable def tourkeep2_solves (k:Nat):Option Bool :=
 bnd (tourkeep2_block k 0 0 1 false) fun y1 =>
 bnd (tourkeep2_block k 0 2 1 true) fun y3 =>
 req (inL 1 [y1,y3]) <|bnd (solve_Run_h_2 k [(0,1,0,(0,65536,()),(0,65536,()),0,0,0,())] 8192 1 (st [y1,y3] 1 ((el Z57 [y1,y3] 1).1,((el Z57 [y1,y3] 1).2.1.1,(-131072),()),(el Z57 [y1,y3] 1).2.2))) fun y6 =>
 bif' (ieq y6.2.2 0)
 (bif' (ieq (len y6.1) 2)
  (bif' (ieq (len y6.2.1) 1)
  (req (inL 0 y6.2.1) <|bif' (ieq (el Z39 y6.2.1 0).2.2.2.2.2.2.1 131072)
  (req (inL 1 y6.1) <|some (ieq (el Z57 y6.1 1).2.1.2.1 0))
  (some false))
  (some false))
  (some false))
 (some false)
noncomputable def tourkeep2_solves.sp (k:Nat):Go.Sx.Spec:=⟨.unit,(.one (.dp T4)),fun x=>tourkeep2_solves k,false⟩
noncomputable def tourkeep2_solves.cx (k:Nat):Go.Sx.Ctx:=⟨tys,[(37,tourkeep2_block.sp k)],eqs,49,0,[(25,solve_Run_h_2.h k)],false⟩
theorem tourkeep2_solves.cok (k:Nat):CtxOk PR (tourkeep2_solves.cx k):=ctx_ok tysOk eqsOk (fC (tourkeep2_block.ok k) FnsOk.nil) (HsOk.cons (solve_Run_h_2.ok k) HsOk.nil)
theorem tourkeep2_solves.way (k:Nat):Owp (tourkeep2_solves k) fun y=>∃ w c0,exec PR (tourkeep2_solves.cx k) tourkeep2_solves.code 0 (entry .unit ()).st w (Ret (tourkeep2_solves.cx k) Tryz.f26 c0 (.one (.dp T4)) y):=by
 unfold tourkeep2_solves; exact
  oB fun y1 e2 =>
  oB fun y3 e4 =>
  oR fun h5 =>
  oB fun y6 e7 =>
  oF (fun e8 =>
  oF (fun e9 =>
  oF (fun e10 =>
  oR fun h11 =>
  oF (fun e12 =>
  oR fun h13 =>
  oS (⟨[rS T57 y1,rS T57 y3,tT,fF,.hres [(0,3)] (.pair (.slice T39) (.pair T2 (.pair T2 (.pair (.slice T57) .unit)))) ([((0:Int),(1:Int),(0:Int),((0:Int),(65536:Int),()),((0:Int),(65536:Int),()),(0:Int),(0:Int),(0:Int),())],(8192:Int),(1:Int),(st [y1,y3] (1:Int) ((el Z57 [y1,y3] (1:Int)).1,((el Z57 [y1,y3] (1:Int)).2.1.1,(-131072:Int),()),(el Z57 [y1,y3] (1:Int)).2.2)),()) (.pair (.slice T57) (.pair (.slice T39) T2)) y6,tT,tT,tT,tT,tT,tT,tT,tT,tT,tT,tT,tT,tT,tT,tT,tT,tT,tT,tT,tT,tT],[],via (retP (aI (aI (aI (aI (aI (aI (aI (aI (aI (aI (aI (aI (aI (aI (aI (aI (aI (aI (aI (aI (aI (aI (aI (aI (aI (aI tv0 e2) e4) h5) h5) (callHP (solve_Run_h_2.h k) [(0,3)] ([((0:Int),(1:Int),(0:Int),((0:Int),(65536:Int),()),((0:Int),(65536:Int),()),(0:Int),(0:Int),(0:Int),())],(8192:Int),(1:Int),(st [y1,y3] (1:Int) ((el Z57 [y1,y3] (1:Int)).1,((el Z57 [y1,y3] (1:Int)).2.1.1,(-131072:Int),()),(el Z57 [y1,y3] (1:Int)).2.2)),()) e7)) e8) e8) e8) e8) e9) e9) e9) e9) e10) (aI e10 h11)) e10) e10) e10) e10) e12) (aI e12 h13)) e12) e12) e12) e12) e12) (.one (.dp T4)) ((ieq (el Z57 y6.1 (1:Int)).2.1.2.1 (0:Int)):Bool)) (by kernel_rfl)⟩)) (fun e12 =>
  oS (⟨[rS T57 y1,rS T57 y3,tT,fF,.hres [(0,3)] (.pair (.slice T39) (.pair T2 (.pair T2 (.pair (.slice T57) .unit)))) ([((0:Int),(1:Int),(0:Int),((0:Int),(65536:Int),()),((0:Int),(65536:Int),()),(0:Int),(0:Int),(0:Int),())],(8192:Int),(1:Int),(st [y1,y3] (1:Int) ((el Z57 [y1,y3] (1:Int)).1,((el Z57 [y1,y3] (1:Int)).2.1.1,(-131072:Int),()),(el Z57 [y1,y3] (1:Int)).2.2)),()) (.pair (.slice T57) (.pair (.slice T39) T2)) y6,tT,tT,tT,tT,tT,tT,tT,tT,tT,tT,tT,tT,tT,tT,fF,fF,fF,fF,fF,fF,fF],[],via (retP (aI (aI (aI (aI (aI (aI (aI (aI (aI (aI (aI (aI (aI (aI (aI (aI (aI (aI (aI (aI (aI (aI (aI (aI (aI (aI tv0 e2) e4) h5) h5) (callHP (solve_Run_h_2.h k) [(0,3)] ([((0:Int),(1:Int),(0:Int),((0:Int),(65536:Int),()),((0:Int),(65536:Int),()),(0:Int),(0:Int),(0:Int),())],(8192:Int),(1:Int),(st [y1,y3] (1:Int) ((el Z57 [y1,y3] (1:Int)).1,((el Z57 [y1,y3] (1:Int)).2.1.1,(-131072:Int),()),(el Z57 [y1,y3] (1:Int)).2.2)),()) e7)) e8) e8) e8) e8) e9) e9) e9) e9) e10) (aI e10 h11)) e10) e10) e10) e10) e12) e12) e12) e12) e12) e12) e12) (.one (.dp T4)) (false:Bool)) (by kernel_rfl)⟩))) (fun e10 =>
  oS (⟨[rS T57 y1,rS T57 y3,tT,fF,.hres [(0,3)] (.pair (.slice T39) (.pair T2 (.pair T2 (.pair (.slice T57) .unit)))) ([((0:Int),(1:Int),(0:Int),((0:Int),(65536:Int),()),((0:Int),(65536:Int),()),(0:Int),(0:Int),(0:Int),())],(8192:Int),(1:Int),(st [y1,y3] (1:Int) ((el Z57 [y1,y3] (1:Int)).1,((el Z57 [y1,y3] (1:Int)).2.1.1,(-131072:Int),()),(el Z57 [y1,y3] (1:Int)).2.2)),()) (.pair (.slice T57) (.pair (.slice T39) T2)) y6,tT,tT,tT,tT,tT,tT,tT,tT,fF,fF,fF,fF,fF,fF,fF,fF,fF,fF,fF,fF,fF],[],via (retP (aI (aI (aI (aI (aI (aI (aI (aI (aI (aI (aI (aI (aI (aI (aI (aI (aI (aI (aI (aI (aI (aI (aI (aI (aI (aI tv0 e2) e4) h5) h5) (callHP (solve_Run_h_2.h k) [(0,3)] ([((0:Int),(1:Int),(0:Int),((0:Int),(65536:Int),()),((0:Int),(65536:Int),()),(0:Int),(0:Int),(0:Int),())],(8192:Int),(1:Int),(st [y1,y3] (1:Int) ((el Z57 [y1,y3] (1:Int)).1,((el Z57 [y1,y3] (1:Int)).2.1.1,(-131072:Int),()),(el Z57 [y1,y3] (1:Int)).2.2)),()) e7)) e8) e8) e8) e8) e9) e9) e9) e9) e10) e10) e10) e10) e10) e10) ff) ff) ff) ff) ff) ff) ff) (.one (.dp T4)) (false:Bool)) (by kernel_rfl)⟩))) (fun e9 =>
  oS (⟨[rS T57 y1,rS T57 y3,tT,fF,.hres [(0,3)] (.pair (.slice T39) (.pair T2 (.pair T2 (.pair (.slice T57) .unit)))) ([((0:Int),(1:Int),(0:Int),((0:Int),(65536:Int),()),((0:Int),(65536:Int),()),(0:Int),(0:Int),(0:Int),())],(8192:Int),(1:Int),(st [y1,y3] (1:Int) ((el Z57 [y1,y3] (1:Int)).1,((el Z57 [y1,y3] (1:Int)).2.1.1,(-131072:Int),()),(el Z57 [y1,y3] (1:Int)).2.2)),()) (.pair (.slice T57) (.pair (.slice T39) T2)) y6,tT,tT,tT,tT,fF,fF,fF,fF,fF,fF,fF,fF,fF,fF,fF,fF,fF,fF,fF,fF,fF],[],via (retP (aI (aI (aI (aI (aI (aI (aI (aI (aI (aI (aI (aI (aI (aI (aI (aI (aI (aI (aI (aI (aI (aI (aI (aI (aI (aI tv0 e2) e4) h5) h5) (callHP (solve_Run_h_2.h k) [(0,3)] ([((0:Int),(1:Int),(0:Int),((0:Int),(65536:Int),()),((0:Int),(65536:Int),()),(0:Int),(0:Int),(0:Int),())],(8192:Int),(1:Int),(st [y1,y3] (1:Int) ((el Z57 [y1,y3] (1:Int)).1,((el Z57 [y1,y3] (1:Int)).2.1.1,(-131072:Int),()),(el Z57 [y1,y3] (1:Int)).2.2)),()) e7)) e8) e8) e8) e8) e9) e9) e9) e9) ff) ff) ff) ff) ff) ff) ff) ff) ff) ff) ff) ff) ff) (.one (.dp T4)) (false:Bool)) (by kernel_rfl)⟩))) (fun e8 =>
  oS (⟨[rS T57 y1,rS T57 y3,tT,fF,.hres [(0,3)] (.pair (.slice T39) (.pair T2 (.pair T2 (.pair (.slice T57) .unit)))) ([((0:Int),(1:Int),(0:Int),((0:Int),(65536:Int),()),((0:Int),(65536:Int),()),(0:Int),(0:Int),(0:Int),())],(8192:Int),(1:Int),(st [y1,y3] (1:Int) ((el Z57 [y1,y3] (1:Int)).1,((el Z57 [y1,y3] (1:Int)).2.1.1,(-131072:Int),()),(el Z57 [y1,y3] (1:Int)).2.2)),()) (.pair (.slice T57) (.pair (.slice T39) T2)) y6,fF,fF,fF,fF,fF,fF,fF,fF,fF,fF,fF,fF,fF,fF,fF,fF,fF,fF,fF,fF,fF],[],via (retP (aI (aI (aI (aI (aI (aI (aI (aI (aI (aI (aI (aI (aI (aI (aI (aI (aI (aI (aI (aI (aI (aI (aI (aI (aI (aI tv0 e2) e4) h5) h5) (callHP (solve_Run_h_2.h k) [(0,3)] ([((0:Int),(1:Int),(0:Int),((0:Int),(65536:Int),()),((0:Int),(65536:Int),()),(0:Int),(0:Int),(0:Int),())],(8192:Int),(1:Int),(st [y1,y3] (1:Int) ((el Z57 [y1,y3] (1:Int)).1,((el Z57 [y1,y3] (1:Int)).2.1.1,(-131072:Int),()),(el Z57 [y1,y3] (1:Int)).2.2)),()) e7)) e8) e8) e8) e8) ff) ff) ff) ff) ff) ff) ff) ff) ff) ff) ff) ff) ff) ff) ff) ff) ff) (.one (.dp T4)) (false:Bool)) (by kernel_rfl)⟩))
theorem tourkeep2_solves.ok (k:Nat):FnOk PR 26 (tourkeep2_solves.sp k) :=
 fn_ok (tourkeep2_solves.cok k) hmix Tryz.func26 (code:=tourkeep2_solves.code) (by kernel_rfl) (by kernel_rfl) (by kernel_rfl) rfl rfl (by kernel_rfl) (by kernel_rfl) (by kernel_rfl) (fun x=>Nat.le_of_ble_eq_true (by kernel_rfl)) fun x y hy=>(tourkeep2_solves.way k).ap hy
noncomputable def tourkeep2_SolveSmooth.code:Code:=Func.cd Tryz.f5
noncomputable def tourkeep2_SolveSmooth.c1 (k:Nat) (y3:((List V39) × Int)) (y7:((List V57) × ((List V39) × Int))):Option (Bool) :=
 bnd (tourkeep2_solves k) fun y9 =>
 bif' y9
 (bif' (ine y7.2.2 0)
  (some true)
  (some (ine (len y7.2.1) (len y3.1))))
 (some true)
noncomputable def tourkeep2_SolveSmooth.c3 (k:Nat) (v16:Int) (y1:V28) (y7:((List V57) × ((List V39) × Int))):Option (Bool) :=
 bif' (ilt (el Z39 y7.2.1 v16).2.2.2.2.2.2.1 0)
 (some true)
 (bif' (ilt (el Z39 y7.2.1 v16).1 0)
  (some true)
  (bif' (ige (el Z39 y7.2.1 v16).1 (el Z39 y7.2.1 v16).2.1)
  (some true)
  (bif' (ige (el Z39 y7.2.1 v16).2.1 (len y1.1))
  (some true)
  (req (inL (el Z39 y7.2.1 v16).1 y1.1) <|req (inL (el Z39 y7.2.1 v16).2.1 y1.1) <|bif' (ieq (imin (el Z57 y1.1 (el Z39 y7.2.1 v16).1).2.2.2.2.2.2.2.1 (el Z57 y1.1 (el Z39 y7.2.1 v16).2.1).2.2.2.2.2.2.2.1) 0)
  (some (ine (el Z39 y7.2.1 v16).2.2.2.2.2.2.2.1 0))
  (some false)))))
noncomputable def tourkeep2_SolveSmooth.c2 (k:Nat) (y1:V28) (y7:((List V57) × ((List V39) × Int))):Nat→Int→Option (Unit ⊕ Unit)
 | 0,_=>none
 | n+1,v16 =>
  bif' (ilt v16 (len y7.2.1))
  (req (inL v16 y7.2.1) <|bnd (tourkeep2_SolveSmooth.c3 k v16 y1 y7) fun o26 =>
  bif' o26
  (some (.inl ()))
  (tourkeep2_SolveSmooth.c2 k y1 y7 n (iadd .i64 v16 1)))
  (some (.inr ()))
noncomputable def tourkeep2_SolveSmooth (k:Nat) (a0:(List Int)) (a1:Int):Option Bool :=
 bnd (tourmake_Scene k a0) fun y1 =>
 bnd (keep_Find k y1.1 []) fun y3 =>
 bnd (tourmake_Below k a1 33) fun y5 =>
 bnd (solve_Run_h k y1.1 y1.2.2.2.2.1 y5 y3.1) fun y7 =>
 bnd (tourkeep2_SolveSmooth.c1 k y3 y7) fun o13 =>
 bif' o13
 (some false)
 (bnd (tourkeep2_SolveSmooth.c2 k y1 y7 k 0) fun o29 =>
  two o29 (fun y31 =>
  some false) (fun y33 =>
  some true))
noncomputable def tourkeep2_SolveSmooth.sp (k:Nat):Go.Sx.Spec:=⟨(.pair T22 (.pair T2 .unit)),(.one (.dp T4)),fun x=>tourkeep2_SolveSmooth k x.1 x.2.1,false⟩
noncomputable def tourkeep2_SolveSmooth.cx (k:Nat):Go.Sx.Ctx:=⟨tys,[(7,tourmake_Scene.sp k),(8,keep_Find.sp k),(12,tourmake_Below.sp k),(26,tourkeep2_solves.sp k)],eqs,99,0,[(25,solve_Run_h.h k)],false⟩
theorem tourkeep2_SolveSmooth.cok (k:Nat):CtxOk PR (tourkeep2_SolveSmooth.cx k):=ctx_ok tysOk eqsOk (fC (tourmake_Scene.ok k) (fC (keep_Find.ok k) (fC (tourmake_Below.ok k) (fC (tourkeep2_solves.ok k) FnsOk.nil)))) (HsOk.cons (solve_Run_h.ok k) HsOk.nil)
noncomputable def tourkeep2_SolveSmooth.c1p (y1:V28) (y3:((List V39) × Int)) (y7:((List V57) × ((List V39) × Int))):SL:=⟨[(5,(.val .ptr ⟨0,0,(0:Int),0,0⟩)),(6,(.val .own (1:Nat))),(9,(.val (.slice T39) y7.2.1)),(10,(.val T2 y7.2.2))],[(0,.cells T28 y1),(1,.row T39 y3.1 40)]⟩
noncomputable def tourkeep2_SolveSmooth.c1q (y1:V28) (y7:((List V57) × ((List V39) × Int))) (o:Bool):SL:=(fun v=>⟨[(5,(.val .ptr ⟨0,0,(0:Int),0,0⟩)),(9,(.val (.slice T39) y7.2.1)),(45,(.val T4 v))],[(0,.cells T28 y1)]⟩) o
noncomputable def tourkeep2_SolveSmooth.c1x (o:Bool):Ex:=(fun _=>.normal) o
noncomputable def tourkeep2_SolveSmooth.c1n (o:Bool):Nat:=(fun _=>1) o
theorem tourkeep2_SolveSmooth.c1_ok (k:Nat) (y1:V28) (y3:((List V39) × Int)) (y7:((List V57) × ((List V39) × Int))):Owp (tourkeep2_SolveSmooth.c1 k y3 y7) fun o=>Triple PR (tourkeep2_SolveSmooth.cx k) (sub tourkeep2_SolveSmooth.code [1,1,1,1,0,0]) 2 (tourkeep2_SolveSmooth.c1p y1 y3 y7) (tourkeep2_SolveSmooth.c1x o) (tourkeep2_SolveSmooth.c1n o) (tourkeep2_SolveSmooth.c1q y1 y7 o):=by
 unfold tourkeep2_SolveSmooth.c1; exact
  oB fun y9 e10 =>
  oF (fun e11 =>
  oF (fun e12 =>
  oS (tW (tourkeep2_SolveSmooth.cok k) hmix [rS T4 y9,fF,fF,fF,tT,tT,tT,tT,tT,tT] [] [(0,0)] (via (finP (aI (aI (aI (aI (aI (aI (aI (aI (aI (aI tv0 e10) (congrArg not e11)) (congrArg not e11)) (congrArg not e11)) e12) e12) e12) e12) e12) e12) .normal [(0,0)] (tourkeep2_SolveSmooth.c1q y1 y7 true)) (by kernel_rfl)))) (fun e12 =>
  oS (tW (tourkeep2_SolveSmooth.cok k) hmix [rS T4 y9,fF,fF,fF,fF,fF,fF,fF,fF,fF] [] [(0,0)] (via (finP (aI (aI (aI (aI (aI (aI (aI (aI (aI (aI tv0 e10) (congrArg not e11)) (congrArg not e11)) (congrArg not e11)) e12) e12) e12) e12) e12) e12) .normal [(0,0)] (tourkeep2_SolveSmooth.c1q y1 y7 (ine (len y7.2.1) (len y3.1)))) (by kernel_rfl))))) (fun e11 =>
  oS (tW (tourkeep2_SolveSmooth.cok k) hmix [rS T4 y9,tT,tT,tT,tT,tT,tT,tT,tT,tT] [] [(0,0)] (via (finP (aI (aI (aI (aI (aI (aI (aI (aI (aI (aI tv0 e10) (congrArg not e11)) (congrArg not e11)) (congrArg not e11)) tt) tt) tt) tt) tt) tt) .normal [(0,0)] (tourkeep2_SolveSmooth.c1q y1 y7 true)) (by kernel_rfl))))
noncomputable def tourkeep2_SolveSmooth.c3p (v16:Int) (y1:V28) (y7:((List V57) × ((List V39) × Int))):SL:=⟨[(5,(.val .ptr ⟨0,0,(0:Int),0,0⟩)),(12,(.val .ptr ⟨1,0,(0:Int),0,0⟩)),(46,(.val (.slice T39) y7.2.1)),(47,(.val T2 (len y7.2.1))),(48,(.val T2 v16))],[(0,.cells T28 y1),(1,.cells T39 (el Z39 y7.2.1 v16))]⟩
noncomputable def tourkeep2_SolveSmooth.c3q (v16:Int) (y1:V28) (y7:((List V57) × ((List V39) × Int))) (o:Bool):SL:=(fun v=>⟨[(5,(.val .ptr ⟨0,0,(0:Int),0,0⟩)),(46,(.val (.slice T39) y7.2.1)),(47,(.val T2 (len y7.2.1))),(48,(.val T2 v16)),(97,(.val T4 v))],[(0,.cells T28 y1)]⟩) o
noncomputable def tourkeep2_SolveSmooth.c3x (o:Bool):Ex:=(fun _=>.normal) o
noncomputable def tourkeep2_SolveSmooth.c3n (o:Bool):Nat:=(fun _=>1) o
theorem tourkeep2_SolveSmooth.c3_ok (k:Nat) (v16:Int) (y1:V28) (y7:((List V57) × ((List V39) × Int))):Owp (tourkeep2_SolveSmooth.c3 k v16 y1 y7) fun o=>Triple PR (tourkeep2_SolveSmooth.cx k) (sub tourkeep2_SolveSmooth.code [1,1,1,1,1,0,1,0,0,1,1,0,0,1,0]) 2 (tourkeep2_SolveSmooth.c3p v16 y1 y7) (tourkeep2_SolveSmooth.c3x o) (tourkeep2_SolveSmooth.c3n o) (tourkeep2_SolveSmooth.c3q v16 y1 y7 o):=by
 unfold tourkeep2_SolveSmooth.c3; exact
  oF (fun e19 =>
  oS (tW (tourkeep2_SolveSmooth.cok k) hmix [tT,tT,tT,tT,tT,tT,tT,tT,tT,tT,tT,tT,tT,tT,tT,tT,tT,tT,tT,tT,tT,tT,tT,tT,tT,tT,tT,tT,tT,tT,tT,tT,tT,tT,tT,tT,tT,tT,tT,tT] [] [(0,0)] (via (finP (aI (aI (aI (aI (aI (aI (aI (aI (aI (aI (aI (aI (aI (aI (aI (aI (aI (aI (aI (aI (aI (aI (aI (aI (aI (aI (aI (aI (aI (aI (aI (aI (aI (aI (aI (aI tv0 e19) e19) e19) e19) tt) tt) tt) tt) tt) tt) tt) tt) tt) tt) tt) tt) tt) tt) tt) tt) tt) tt) tt) tt) tt) tt) tt) tt) tt) tt) tt) tt) tt) tt) tt) tt) .normal [(0,0)] (tourkeep2_SolveSmooth.c3q v16 y1 y7 true)) (by kernel_rfl)))) (fun e19 =>
  oF (fun e20 =>
  oS (tW (tourkeep2_SolveSmooth.cok k) hmix [fF,fF,fF,fF,tT,tT,tT,tT,tT,tT,tT,tT,tT,tT,tT,tT,tT,tT,tT,tT,tT,tT,tT,tT,tT,tT,tT,tT,tT,tT,tT,tT,tT,tT,tT,tT,tT,tT,tT,tT] [] [(0,0)] (via (finP (aI (aI (aI (aI (aI (aI (aI (aI (aI (aI (aI (aI (aI (aI (aI (aI (aI (aI (aI (aI (aI (aI (aI (aI (aI (aI (aI (aI (aI (aI (aI (aI (aI (aI (aI (aI tv0 e19) e19) e19) e19) e20) e20) e20) e20) e20) e20) tt) tt) tt) tt) tt) tt) tt) tt) tt) tt) tt) tt) tt) tt) tt) tt) tt) tt) tt) tt) tt) tt) tt) tt) tt) tt) .normal [(0,0)] (tourkeep2_SolveSmooth.c3q v16 y1 y7 true)) (by kernel_rfl)))) (fun e20 =>
  oF (fun e21 =>
  oS (tW (tourkeep2_SolveSmooth.cok k) hmix [fF,fF,fF,fF,fF,fF,fF,fF,fF,fF,tT,tT,tT,tT,tT,tT,tT,tT,tT,tT,tT,tT,tT,tT,tT,tT,tT,tT,tT,tT,tT,tT,tT,tT,tT,tT,tT,tT,tT,tT] [] [(0,0)] (via (finP (aI (aI (aI (aI (aI (aI (aI (aI (aI (aI (aI (aI (aI (aI (aI (aI (aI (aI (aI (aI (aI (aI (aI (aI (aI (aI (aI (aI (aI (aI (aI (aI (aI (aI (aI (aI tv0 e19) e19) e19) e19) e20) e20) e20) e20) e20) e20) e21) e21) e21) e21) e21) e21) e21) tt) tt) tt) tt) tt) tt) tt) tt) tt) tt) tt) tt) tt) tt) tt) tt) tt) tt) tt) .normal [(0,0)] (tourkeep2_SolveSmooth.c3q v16 y1 y7 true)) (by kernel_rfl)))) (fun e21 =>
  oF (fun e22 =>
  oS (tW (tourkeep2_SolveSmooth.cok k) hmix [fF,fF,fF,fF,fF,fF,fF,fF,fF,fF,fF,fF,fF,fF,fF,fF,fF,tT,tT,tT,tT,tT,tT,tT,tT,tT,tT,tT,tT,tT,tT,tT,tT,tT,tT,tT,tT,tT,tT,tT] [] [(0,0)] (via (finP (aI (aI (aI (aI (aI (aI (aI (aI (aI (aI (aI (aI (aI (aI (aI (aI (aI (aI (aI (aI (aI (aI (aI (aI (aI (aI (aI (aI (aI (aI (aI (aI (aI (aI (aI (aI tv0 e19) e19) e19) e19) e20) e20) e20) e20) e20) e20) e21) e21) e21) e21) e21) e21) e21) e22) e22) e22) e22) e22) e22) e22) e22) e22) e22) e22) e22) e22) e22) e22) e22) e22) e22) e22) .normal [(0,0)] (tourkeep2_SolveSmooth.c3q v16 y1 y7 true)) (by kernel_rfl)))) (fun e22 =>
  oR fun h23 =>
  oR fun h24 =>
  oF (fun e25 =>
  oS (tW (tourkeep2_SolveSmooth.cok k) hmix [fF,fF,fF,fF,fF,fF,fF,fF,fF,fF,fF,fF,fF,fF,fF,fF,fF,fF,fF,fF,fF,fF,fF,fF,fF,fF,fF,fF,fF,fF,fF,fF,fF,fF,tT,tT,tT,fF,tT,fF] [] [(0,0)] (via (finP (aI (aI (aI (aI (aI (aI (aI (aI (aI (aI (aI (aI (aI (aI (aI (aI (aI (aI (aI (aI (aI (aI (aI (aI (aI (aI (aI (aI (aI (aI (aI (aI (aI (aI (aI (aI (aI (aI (aI tv0 e19) e19) e19) e19) e20) e20) e20) e20) e20) e20) e21) e21) e21) e21) e21) e21) e21) e22) e22) e22) e22) (aI e22 h23)) e22) e22) e22) e22) e22) e22) (aI e22 h24)) e22) e22) e22) e22) e22) e25) e25) e25) (aI e22 e25)) e22) .normal [(0,0)] (tourkeep2_SolveSmooth.c3q v16 y1 y7 (ine (el Z39 y7.2.1 v16).2.2.2.2.2.2.2.1 (0:Int)))) (by kernel_rfl)))) (fun e25 =>
  oS (tW (tourkeep2_SolveSmooth.cok k) hmix [fF,fF,fF,fF,fF,fF,fF,fF,fF,fF,fF,fF,fF,fF,fF,fF,fF,fF,fF,fF,fF,fF,fF,fF,fF,fF,fF,fF,fF,fF,fF,fF,fF,fF,fF,fF,fF,fF,fF,fF] [] [(0,0)] (via (finP (aI (aI (aI (aI (aI (aI (aI (aI (aI (aI (aI (aI (aI (aI (aI (aI (aI (aI (aI (aI (aI (aI (aI (aI (aI (aI (aI (aI (aI (aI (aI (aI (aI (aI (aI (aI (aI (aI (aI tv0 e19) e19) e19) e19) e20) e20) e20) e20) e20) e20) e21) e21) e21) e21) e21) e21) e21) e22) e22) e22) e22) (aI e22 h23)) e22) e22) e22) e22) e22) e22) (aI e22 h24)) e22) e22) e22) e22) e22) e25) e25) e25) (aI e22 e25)) e22) .normal [(0,0)] (tourkeep2_SolveSmooth.c3q v16 y1 y7 false)) (by kernel_rfl))))))))
noncomputable def tourkeep2_SolveSmooth.c2p (y1:V28) (y7:((List V57) × ((List V39) × Int))) (v16:Int):SL:=⟨[(5,(.val .ptr ⟨0,0,(0:Int),0,0⟩)),(46,(.val (.slice T39) y7.2.1)),(47,(.val T2 (len y7.2.1))),(48,(.val T2 v16))],[(0,.cells T28 y1)]⟩
noncomputable def tourkeep2_SolveSmooth.c2q (o:Unit ⊕ Unit):SL:=(fun o=>two o (fun v=>⟨[(4,(.val T4 false))],[]⟩) (fun v=>⟨[],[]⟩)) o
noncomputable def tourkeep2_SolveSmooth.c2x (o:Unit ⊕ Unit):Ex:=(fun o=>two o (fun _=>.ret) (fun _=>(.exit 0))) o
noncomputable def tourkeep2_SolveSmooth.c2n (o:Unit ⊕ Unit):Nat:=(fun o=>two o (fun _=>0) (fun _=>0)) o
theorem tourkeep2_SolveSmooth.c2_ok (k:Nat) (y1:V28) (y7:((List V57) × ((List V39) × Int))):∀ (n:Nat) (v16:Int),Owp (tourkeep2_SolveSmooth.c2 k y1 y7 n v16) fun o=>LTriple PR (tourkeep2_SolveSmooth.cx k) (sub tourkeep2_SolveSmooth.code [1,1,1,1,1,0,1,0,0]) 1 (tourkeep2_SolveSmooth.c2p y1 y7 v16) (tourkeep2_SolveSmooth.c2x o) (tourkeep2_SolveSmooth.c2n o) (tourkeep2_SolveSmooth.c2q o)
 | 0,_=>fun _ h=>nomatch h
 | n+1,v16=>Owp.of (tourkeep2_SolveSmooth.c2.eq_2 ..) (
  oF (fun e17 =>
  oR fun h18 =>
  oB fun o26 e27 =>
  oF (fun e28 =>
  oS (loop_exit (tourkeep2_SolveSmooth.cok k) hmix [tT,.cutR 9 ⟨[],[(0,0),(1,4)],(tourkeep2_SolveSmooth.c3p v16 y1 y7),2,.normal,(tourkeep2_SolveSmooth.c3q v16 y1 y7 o26),1⟩,tT] [] [] exne_ret (via (cutP (aI (aI tv0 e17) h18) [(0,0),(1,4)] (tourkeep2_SolveSmooth.c3p v16 y1 y7) (((tourkeep2_SolveSmooth.c3_ok k v16 y1 y7).ap e27)) (finP (aI tv0 e28) .ret [] (tourkeep2_SolveSmooth.c2q (.inl ())))) (by kernel_rfl)))) (fun e28 =>
  fun y hy=>loop_back (tourkeep2_SolveSmooth.cok k) hmix 1 (tourkeep2_SolveSmooth.c2p y1 y7 (iadd .i64 v16 (1:Int))) [tT,.cutR 9 ⟨[],[(0,0),(1,4)],(tourkeep2_SolveSmooth.c3p v16 y1 y7),2,.normal,(tourkeep2_SolveSmooth.c3q v16 y1 y7 o26),1⟩,fF] [] [(0,0)] (via (cutP (aI (aI tv0 e17) h18) [(0,0),(1,4)] (tourkeep2_SolveSmooth.c3p v16 y1 y7) (((tourkeep2_SolveSmooth.c3_ok k v16 y1 y7).ap e27)) (finP (aI tv0 e28) .normal [(0,0)] (tourkeep2_SolveSmooth.c2p y1 y7 (iadd .i64 v16 (1:Int))))) (by kernel_rfl)) ((tourkeep2_SolveSmooth.c2_ok k y1 y7 n (iadd .i64 v16 (1:Int))).ap hy))) (fun e17 =>
  oS (loop_exit (tourkeep2_SolveSmooth.cok k) hmix [fF] [] [] (exne 0) (via (finP (aI tv0 e17) (.exit 0) [] (tourkeep2_SolveSmooth.c2q (.inr ()))) (by kernel_rfl)))))
theorem tourkeep2_SolveSmooth.way (k:Nat) (a0:(List Int)) (a1:Int):Owp (tourkeep2_SolveSmooth k a0 a1) fun y=>∃ w c0,exec PR (tourkeep2_SolveSmooth.cx k) tourkeep2_SolveSmooth.code 0 (entry (.pair T22 (.pair T2 .unit)) (a0,a1,())).st w (Ret (tourkeep2_SolveSmooth.cx k) Tryz.f5 c0 (.one (.dp T4)) y):=by
 unfold tourkeep2_SolveSmooth; exact
  oB fun y1 e2 =>
  oB fun y3 e4 =>
  oB fun y5 e6 =>
  oB fun y7 e8 =>
  oB fun o13 e14 =>
  oF (fun e15 =>
  oS (⟨[rS T28 y1,.res (.more (.ow T39 40) (.one (.dp T2))) y3,rS T2 y5,.hres [(0,7)] (.pair (.slice T57) (.pair T2 (.pair T2 (.pair (.slice T39) .unit)))) (y1.1,y1.2.2.2.2.1,y5,y3.1,()) (.pair (.slice T57) (.pair (.slice T39) T2)) y7,.cutR 4 ⟨[],[(0,3),(1,7)],(tourkeep2_SolveSmooth.c1p y1 y3 y7),2,.normal,(tourkeep2_SolveSmooth.c1q y1 y7 o13),1⟩,tT],[],via (cutP (aI (aI (aI (aI tv0 e2) e4) e6) (callHP (solve_Run_h.h k) [(0,7)] (y1.1,y1.2.2.2.2.1,y5,y3.1,()) e8)) [(0,3),(1,7)] (tourkeep2_SolveSmooth.c1p y1 y3 y7) (((tourkeep2_SolveSmooth.c1_ok k y1 y3 y7).ap e14)) (retP (aI tv0 e15) (.one (.dp T4)) (false:Bool))) (by kernel_rfl)⟩)) (fun e15 =>
  oB fun o29 e30 =>
  Owp.two (fun y31 e32 =>
  oS (⟨[rS T28 y1,.res (.more (.ow T39 40) (.one (.dp T2))) y3,rS T2 y5,.hres [(0,7)] (.pair (.slice T57) (.pair T2 (.pair T2 (.pair (.slice T39) .unit)))) (y1.1,y1.2.2.2.2.1,y5,y3.1,()) (.pair (.slice T57) (.pair (.slice T39) T2)) y7,.cutR 4 ⟨[],[(0,3),(1,7)],(tourkeep2_SolveSmooth.c1p y1 y3 y7),2,.normal,(tourkeep2_SolveSmooth.c1q y1 y7 o13),1⟩,fF,.cut ⟨[],[(0,0)],(tourkeep2_SolveSmooth.c2p y1 y7 (0:Int)),1,.ret,(tourkeep2_SolveSmooth.c2q (.inl ())),0⟩],[],via (cutP (aI (aI (aI (aI tv0 e2) e4) e6) (callHP (solve_Run_h.h k) [(0,7)] (y1.1,y1.2.2.2.2.1,y5,y3.1,()) e8)) [(0,3),(1,7)] (tourkeep2_SolveSmooth.c1p y1 y3 y7) (((tourkeep2_SolveSmooth.c1_ok k y1 y3 y7).ap e14)) (cutP (aI tv0 e15) [(0,0)] (tourkeep2_SolveSmooth.c2p y1 y7 (0:Int)) (((tourkeep2_SolveSmooth.c2_ok k y1 y7 k (0:Int)).ap (e30.trans (congrArg some e32))).triple) (retP tv0 (.one (.dp T4)) (false:Bool)))) (by kernel_rfl)⟩)) (fun y33 e34 =>
  oS (⟨[rS T28 y1,.res (.more (.ow T39 40) (.one (.dp T2))) y3,rS T2 y5,.hres [(0,7)] (.pair (.slice T57) (.pair T2 (.pair T2 (.pair (.slice T39) .unit)))) (y1.1,y1.2.2.2.2.1,y5,y3.1,()) (.pair (.slice T57) (.pair (.slice T39) T2)) y7,.cutR 4 ⟨[],[(0,3),(1,7)],(tourkeep2_SolveSmooth.c1p y1 y3 y7),2,.normal,(tourkeep2_SolveSmooth.c1q y1 y7 o13),1⟩,fF,.cut ⟨[],[(0,0)],(tourkeep2_SolveSmooth.c2p y1 y7 (0:Int)),1,(.exit 0),(tourkeep2_SolveSmooth.c2q (.inr ())),0⟩],[],via (cutP (aI (aI (aI (aI tv0 e2) e4) e6) (callHP (solve_Run_h.h k) [(0,7)] (y1.1,y1.2.2.2.2.1,y5,y3.1,()) e8)) [(0,3),(1,7)] (tourkeep2_SolveSmooth.c1p y1 y3 y7) (((tourkeep2_SolveSmooth.c1_ok k y1 y3 y7).ap e14)) (cutP (aI tv0 e15) [(0,0)] (tourkeep2_SolveSmooth.c2p y1 y7 (0:Int)) (((tourkeep2_SolveSmooth.c2_ok k y1 y7 k (0:Int)).ap (e30.trans (congrArg some e34))).triple) (retP tv0 (.one (.dp T4)) (true:Bool)))) (by kernel_rfl)⟩)))
theorem tourkeep2_SolveSmooth.ok (k:Nat):FnOk PR 5 (tourkeep2_SolveSmooth.sp k) :=
 fn_ok (tourkeep2_SolveSmooth.cok k) hmix Tryz.func5 (code:=tourkeep2_SolveSmooth.code) (by kernel_rfl) (by kernel_rfl) (by kernel_rfl) rfl rfl (by kernel_rfl) (by kernel_rfl) (by kernel_rfl) (fun x=>Nat.le_of_ble_eq_true (by kernel_rfl)) fun x y hy=>(tourkeep2_SolveSmooth.way k x.1 x.2.1).ap hy
noncomputable def tourkeep2_SolveNothing.code:Code:=Func.cd Tryz.f6
noncomputable def tourkeep2_SolveNothing (k:Nat) (a0:(List Int)) (a1:Int):Option Bool :=
 bnd (tourmake_Scene k a0) fun y1 =>
 bnd (keep_Find k y1.1 []) fun y3 =>
 bnd (solve_Run_h k y1.1 y1.2.2.2.2.1 0 y3.1) fun y5 =>
 bnd (tourmake_Below k a1 33) fun y7 =>
 bnd (solve_Run k y1.1 [] y1.2.2.2.2.1 y7) fun y9 =>
 bnd (tourkeep2_solves k) fun y11 =>
 bif' y11
 (bif' (ieq y5.2.2 0)
  (bif' (ieq y9.2.2 0)
  (bnd (slices_EqualFunc k y5.1 y1.1 (fun x:(V57 × (V57 × Unit))=>tourkeep2_same k (x.1) (x.2.1))) fun y16 =>
  bif' y16
  (bnd (slices_EqualFunc k y9.1 y1.1 (fun x:(V57 × (V57 × Unit))=>tourkeep2_same k (x.1) (x.2.1))) fun y19 =>
  bif' y19
  (bnd (slices_Equal k y3.1 y5.2.1) fun y22 =>
  some y22)
  (some false))
  (some false))
  (some false))
  (some false))
 (some false)
noncomputable def tourkeep2_SolveNothing.sp (k:Nat):Go.Sx.Spec:=⟨(.pair T22 (.pair T2 .unit)),(.one (.dp T4)),fun x=>tourkeep2_SolveNothing k x.1 x.2.1,false⟩
noncomputable def tourkeep2_SolveNothing.cx (k:Nat):Go.Sx.Ctx:=⟨tys,[(7,tourmake_Scene.sp k),(8,keep_Find.sp k),(25,solve_Run.sp k),(12,tourmake_Below.sp k),(26,tourkeep2_solves.sp k),(27,slices_EqualFunc.sp k),(28,tourkeep2_same.sp k),(15,slices_Equal.sp k)],eqs,69,0,[(25,solve_Run_h.h k)],false⟩
theorem tourkeep2_SolveNothing.cok (k:Nat):CtxOk PR (tourkeep2_SolveNothing.cx k):=ctx_ok tysOk eqsOk (fC (tourmake_Scene.ok k) (fC (keep_Find.ok k) (fC (solve_Run.ok k) (fC (tourmake_Below.ok k) (fC (tourkeep2_solves.ok k) (fC (slices_EqualFunc.ok k) (fC (tourkeep2_same.ok k) (fC (slices_Equal.ok k) FnsOk.nil)))))))) (HsOk.cons (solve_Run_h.ok k) HsOk.nil)
theorem tourkeep2_SolveNothing.way (k:Nat) (a0:(List Int)) (a1:Int):Owp (tourkeep2_SolveNothing k a0 a1) fun y=>∃ w c0,exec PR (tourkeep2_SolveNothing.cx k) tourkeep2_SolveNothing.code 0 (entry (.pair T22 (.pair T2 .unit)) (a0,a1,())).st w (Ret (tourkeep2_SolveNothing.cx k) Tryz.f6 c0 (.one (.dp T4)) y):=by
 unfold tourkeep2_SolveNothing; exact
  oB fun y1 e2 =>
  oB fun y3 e4 =>
  oB fun y5 e6 =>
  oB fun y7 e8 =>
  oB fun y9 e10 =>
  oB fun y11 e12 =>
  oF (fun e13 =>
  oF (fun e14 =>
  oF (fun e15 =>
  oB fun y16 e17 =>
  oF (fun e18 =>
  oB fun y19 e20 =>
  oF (fun e21 =>
  oB fun y22 e23 =>
  oS (⟨[rS T28 y1,.res (.more (.ow T39 40) (.one (.dp T2))) y3,.hres [(0,7)] (.pair (.slice T57) (.pair T2 (.pair T2 (.pair (.slice T39) .unit)))) (y1.1,y1.2.2.2.2.1,(0:Int),y3.1,()) (.pair (.slice T57) (.pair (.slice T39) T2)) y5,rS T2 y7,.res (.more (.ow T57 58) (.more (.dp (.slice T39)) (.one (.dp T2)))) y9,rS T4 y11,tT,tT,tT,tT,tT,tT,tT,tT,tT,tT,rS T4 y16,tT,tT,tT,tT,tT,rS T4 y19,tT,tT,tT,tT,rS T4 y22,tT],[],via (retP (aI (aI (aI (aI (aI (aI (aI (aI (aI (aI (aI (aI (aI (aI (aI (aI (aI (aI (aI (aI (aI (aI (aI (aI (aI (aI tv0 e2) e4) (callHP (solve_Run_h.h k) [(0,7)] (y1.1,y1.2.2.2.2.1,(0:Int),y3.1,()) e6)) e8) e10) e12) e13) e13) e13) e14) e14) e14) e15) e15) e15) (aI e15 e17)) e15) e18) e18) e18) (aI e18 e20)) e18) e21) e21) (aI e21 e23)) e21) (.one (.dp T4)) (y22:Bool)) (by kernel_rfl)⟩)) (fun e21 =>
  oS (⟨[rS T28 y1,.res (.more (.ow T39 40) (.one (.dp T2))) y3,.hres [(0,7)] (.pair (.slice T57) (.pair T2 (.pair T2 (.pair (.slice T39) .unit)))) (y1.1,y1.2.2.2.2.1,(0:Int),y3.1,()) (.pair (.slice T57) (.pair (.slice T39) T2)) y5,rS T2 y7,.res (.more (.ow T57 58) (.more (.dp (.slice T39)) (.one (.dp T2)))) y9,rS T4 y11,tT,tT,tT,tT,tT,tT,tT,tT,tT,tT,rS T4 y16,tT,tT,tT,tT,tT,rS T4 y19,tT,fF,fF,fF,tT,fF],[],via (retP (aI (aI (aI (aI (aI (aI (aI (aI (aI (aI (aI (aI (aI (aI (aI (aI (aI (aI (aI (aI (aI (aI (aI (aI (aI (aI tv0 e2) e4) (callHP (solve_Run_h.h k) [(0,7)] (y1.1,y1.2.2.2.2.1,(0:Int),y3.1,()) e6)) e8) e10) e12) e13) e13) e13) e14) e14) e14) e15) e15) e15) (aI e15 e17)) e15) e18) e18) e18) (aI e18 e20)) e18) e21) e21) e21) e21) (.one (.dp T4)) (false:Bool)) (by kernel_rfl)⟩))) (fun e18 =>
  oS (⟨[rS T28 y1,.res (.more (.ow T39 40) (.one (.dp T2))) y3,.hres [(0,7)] (.pair (.slice T57) (.pair T2 (.pair T2 (.pair (.slice T39) .unit)))) (y1.1,y1.2.2.2.2.1,(0:Int),y3.1,()) (.pair (.slice T57) (.pair (.slice T39) T2)) y5,rS T2 y7,.res (.more (.ow T57 58) (.more (.dp (.slice T39)) (.one (.dp T2)))) y9,rS T4 y11,tT,tT,tT,tT,tT,tT,tT,tT,tT,tT,rS T4 y16,tT,fF,fF,fF,fF,tT,fF,fF,fF,fF,tT,fF],[],via (retP (aI (aI (aI (aI (aI (aI (aI (aI (aI (aI (aI (aI (aI (aI (aI (aI (aI (aI (aI (aI (aI (aI (aI (aI (aI (aI tv0 e2) e4) (callHP (solve_Run_h.h k) [(0,7)] (y1.1,y1.2.2.2.2.1,(0:Int),y3.1,()) e6)) e8) e10) e12) e13) e13) e13) e14) e14) e14) e15) e15) e15) (aI e15 e17)) e15) e18) e18) e18) e18) e18) ff) ff) ff) ff) (.one (.dp T4)) (false:Bool)) (by kernel_rfl)⟩))) (fun e15 =>
  oS (⟨[rS T28 y1,.res (.more (.ow T39 40) (.one (.dp T2))) y3,.hres [(0,7)] (.pair (.slice T57) (.pair T2 (.pair T2 (.pair (.slice T39) .unit)))) (y1.1,y1.2.2.2.2.1,(0:Int),y3.1,()) (.pair (.slice T57) (.pair (.slice T39) T2)) y5,rS T2 y7,.res (.more (.ow T57 58) (.more (.dp (.slice T39)) (.one (.dp T2)))) y9,rS T4 y11,tT,tT,tT,tT,tT,tT,fF,fF,fF,fF,tT,fF,fF,fF,fF,fF,tT,fF,fF,fF,fF,tT,fF],[],via (retP (aI (aI (aI (aI (aI (aI (aI (aI (aI (aI (aI (aI (aI (aI (aI (aI (aI (aI (aI (aI (aI (aI (aI (aI (aI (aI tv0 e2) e4) (callHP (solve_Run_h.h k) [(0,7)] (y1.1,y1.2.2.2.2.1,(0:Int),y3.1,()) e6)) e8) e10) e12) e13) e13) e13) e14) e14) e14) e15) e15) e15) e15) e15) ff) ff) ff) ff) ff) ff) ff) ff) ff) (.one (.dp T4)) (false:Bool)) (by kernel_rfl)⟩))) (fun e14 =>
  oS (⟨[rS T28 y1,.res (.more (.ow T39 40) (.one (.dp T2))) y3,.hres [(0,7)] (.pair (.slice T57) (.pair T2 (.pair T2 (.pair (.slice T39) .unit)))) (y1.1,y1.2.2.2.2.1,(0:Int),y3.1,()) (.pair (.slice T57) (.pair (.slice T39) T2)) y5,rS T2 y7,.res (.more (.ow T57 58) (.more (.dp (.slice T39)) (.one (.dp T2)))) y9,rS T4 y11,tT,tT,tT,fF,fF,fF,fF,fF,fF,fF,tT,fF,fF,fF,fF,fF,tT,fF,fF,fF,fF,tT,fF],[],via (retP (aI (aI (aI (aI (aI (aI (aI (aI (aI (aI (aI (aI (aI (aI (aI (aI (aI (aI (aI (aI (aI (aI (aI (aI (aI (aI tv0 e2) e4) (callHP (solve_Run_h.h k) [(0,7)] (y1.1,y1.2.2.2.2.1,(0:Int),y3.1,()) e6)) e8) e10) e12) e13) e13) e13) e14) e14) e14) ff) ff) ff) ff) ff) ff) ff) ff) ff) ff) ff) ff) ff) ff) (.one (.dp T4)) (false:Bool)) (by kernel_rfl)⟩))) (fun e13 =>
  oS (⟨[rS T28 y1,.res (.more (.ow T39 40) (.one (.dp T2))) y3,.hres [(0,7)] (.pair (.slice T57) (.pair T2 (.pair T2 (.pair (.slice T39) .unit)))) (y1.1,y1.2.2.2.2.1,(0:Int),y3.1,()) (.pair (.slice T57) (.pair (.slice T39) T2)) y5,rS T2 y7,.res (.more (.ow T57 58) (.more (.dp (.slice T39)) (.one (.dp T2)))) y9,rS T4 y11,fF,fF,fF,fF,fF,fF,fF,fF,fF,fF,tT,fF,fF,fF,fF,fF,tT,fF,fF,fF,fF,tT,fF],[],via (retP (aI (aI (aI (aI (aI (aI (aI (aI (aI (aI (aI (aI (aI (aI (aI (aI (aI (aI (aI (aI (aI (aI (aI (aI (aI (aI tv0 e2) e4) (callHP (solve_Run_h.h k) [(0,7)] (y1.1,y1.2.2.2.2.1,(0:Int),y3.1,()) e6)) e8) e10) e12) e13) e13) e13) ff) ff) ff) ff) ff) ff) ff) ff) ff) ff) ff) ff) ff) ff) ff) ff) ff) (.one (.dp T4)) (false:Bool)) (by kernel_rfl)⟩))
theorem tourkeep2_SolveNothing.ok (k:Nat):FnOk PR 6 (tourkeep2_SolveNothing.sp k) :=
 fn_ok (tourkeep2_SolveNothing.cok k) hmix Tryz.func6 (code:=tourkeep2_SolveNothing.code) (by kernel_rfl) (by kernel_rfl) (by kernel_rfl) rfl rfl (by kernel_rfl) (by kernel_rfl) (by kernel_rfl) (fun x=>Nat.le_of_ble_eq_true (by kernel_rfl)) fun x y hy=>(tourkeep2_SolveNothing.way k x.1 x.2.1).ap hy
end Go.Proofs.T1
