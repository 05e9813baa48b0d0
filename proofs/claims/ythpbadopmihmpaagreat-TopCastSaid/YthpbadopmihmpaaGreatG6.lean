import Derived.Test.YthpbadopmihmpaaGreatG0
import Derived.Test.YthpbadopmihmpaaGreatG2
import Derived.Test.YthpbadopmihmpaaGreatG3
import Derived.Test.YthpbadopmihmpaaGreatG5
namespace Go.Proofs.T1
open Go Go.Sx Go.Proofs
set_option maxRecDepth 100000
set_option linter.unusedVariables false
noncomputable def body_own.code:Code:=Func.cd Tryz.f83
def body_own (k:Nat) (a0:V45):Option V45 :=
 bnd (slices_Clone_66 k a0.2.2.2.2.2.2.2.2.1) fun y1 =>
 some (a0.1,a0.2.1,a0.2.2.1,a0.2.2.2.1,a0.2.2.2.2.1,a0.2.2.2.2.2.1,a0.2.2.2.2.2.2.1,a0.2.2.2.2.2.2.2.1,y1,a0.2.2.2.2.2.2.2.2.2)
noncomputable def body_own.sp (k:Nat):Go.Sx.Spec:=⟨(.pair T45 .unit),(.one (.dp T45)),fun x=>body_own k x.1,false⟩
noncomputable def body_own.cx (k:Nat):Go.Sx.Ctx:=⟨tys,[(66,(slices_Clone_66.sp k).frz)],eqs,8,0,[],false⟩
theorem body_own.cok (k:Nat):CtxOk PR (body_own.cx k):=ctx_ok tysOk eqsOk (fC (FnOk.frz rfl (slices_Clone_66.ok k)) FnsOk.nil) HsOk.nil
theorem body_own.way (k:Nat) (a0:V45):Owp (body_own k a0) fun y=>∃ w c0,exec PR (body_own.cx k) body_own.code 0 (entry (.pair T45 .unit) (a0,())).st w (Ret (body_own.cx k) Tryz.f83 c0 (.one (.dp T45)) y):=by
 unfold body_own; exact
  oB fun y1 e2 =>
  oS (⟨[rS T36 y1],[],via (retP (aI tv0 e2) (.one (.dp T45)) ((a0.1,a0.2.1,a0.2.2.1,a0.2.2.2.1,a0.2.2.2.2.1,a0.2.2.2.2.2.1,a0.2.2.2.2.2.2.1,a0.2.2.2.2.2.2.2.1,y1,a0.2.2.2.2.2.2.2.2.2):V45)) (by kernel_rfl)⟩)
theorem body_own.ok (k:Nat):FnOk PR 83 (body_own.sp k) :=
 fn_ok (body_own.cok k) hmix Tryz.func83 (code:=body_own.code) (by kernel_rfl) (by kernel_rfl) (by kernel_rfl) rfl rfl (by kernel_rfl) (by kernel_rfl) (by kernel_rfl) (fun x=>Nat.le_of_ble_eq_true (by kernel_rfl)) fun x y hy=>(body_own.way k x.1).ap hy
noncomputable def body_clamp.code:Code:=Func.cd Tryz.f84
def body_clamp (k:Nat) (a0 a1:Int):Option Int :=
 some (imin (imax a0 (ineg .i64 a1)) a1)
noncomputable def body_clamp.sp (k:Nat):Go.Sx.Spec:=⟨T26,(.one (.dp T2)),fun x=>body_clamp k x.1 x.2.1,false⟩
noncomputable def body_clamp.cx (k:Nat):Go.Sx.Ctx:=⟨tys,[],eqs,11,0,[],false⟩
theorem body_clamp.cok (k:Nat):CtxOk PR (body_clamp.cx k):=ctx_ok tysOk eqsOk FnsOk.nil HsOk.nil
theorem body_clamp.way (k:Nat) (a0 a1:Int):Owp (body_clamp k a0 a1) fun y=>∃ w c0,exec PR (body_clamp.cx k) body_clamp.code 0 (entry T26 (a0,a1,())).st w (Ret (body_clamp.cx k) Tryz.f84 c0 (.one (.dp T2)) y):=by
 unfold body_clamp; exact
  oS (⟨[],[],via (retP tv0 (.one (.dp T2)) ((imin (imax a0 (ineg .i64 a1)) a1):Int)) (by kernel_rfl)⟩)
theorem body_clamp.ok (k:Nat):FnOk PR 84 (body_clamp.sp k) :=
 fn_ok (body_clamp.cok k) hmix Tryz.func84 (code:=body_clamp.code) (by kernel_rfl) (by kernel_rfl) (by kernel_rfl) rfl rfl (by kernel_rfl) (by kernel_rfl) (by kernel_rfl) (fun x=>Nat.le_of_ble_eq_true (by kernel_rfl)) fun x y hy=>(body_clamp.way k x.1 x.2.1).ap hy
noncomputable def body_Move.code:Code:=Func.cd Tryz.f46
def body_Move.c1 (k:Nat) (a1:Int) (y1:V45):Option (Bool) :=
 bnd (body_Check k y1) fun y3 =>
 bif' (ine y3 0)
 (some true)
 (bif' (ieq y1.2.2.2.2.1 0)
  (some true)
  (bif' y1.2.2.2.2.2.2.2.2.2.1
  (some true)
  (bif' (ilt a1 0)
  (some true)
  (some (igt a1 65536)))))
def body_Move (k:Nat) (a0:V45) (a1:Int):Option V45 :=
 bnd (body_own k a0) fun y1 =>
 bnd (body_Move.c1 k a1 y1) fun o9 =>
 bif' o9
 (some y1)
 (bnd (fix_Mul k y1.2.1.1 a1) fun y12 =>
  bnd (body_clamp k (iadd .i64 y1.1.1 y12) 58982400) fun y14 =>
  bnd (fix_Mul k y1.2.1.2.1 a1) fun y16 =>
  bnd (body_clamp k (iadd .i64 y1.1.2.1 y16) 58982400) fun y18 =>
  bnd (fix_Mul k y1.2.2.2.1 a1) fun y20 =>
  some ((y14,y18,()),y1.2.1,(irem (iadd .i64 (irem (iadd .i64 y1.2.2.1 y20) 65536) 65536) 65536),y1.2.2.2))
noncomputable def body_Move.sp (k:Nat):Go.Sx.Spec:=⟨(.pair T45 (.pair T2 .unit)),(.one (.dp T45)),fun x=>body_Move k x.1 x.2.1,false⟩
noncomputable def body_Move.cx (k:Nat):Go.Sx.Ctx:=⟨tys,[(83,body_own.sp k),(25,body_Check.sp k),(47,fix_Mul.sp k),(84,body_clamp.sp k)],eqs,64,0,[],false⟩
theorem body_Move.cok (k:Nat):CtxOk PR (body_Move.cx k):=ctx_ok tysOk eqsOk (fC (body_own.ok k) (fC (body_Check.ok k) (fC (fix_Mul.ok k) (fC (body_clamp.ok k) FnsOk.nil)))) HsOk.nil
noncomputable def body_Move.c1p (a1:Int) (y1:V45):SL:=⟨[(1,(.val T2 a1)),(2,(.val .ptr ⟨0,0,(0:Int),0,0⟩)),(4,(.val .ptr ⟨1,0,(0:Int),0,0⟩))],[(0,.cells T45 y1),(1,.cells T45 (((0:Int),(0:Int),()),((0:Int),(0:Int),()),(0:Int),(0:Int),(0:Int),(0:Int),(0:Int),(0:Int),[],false,(0:Int),()))]⟩
noncomputable def body_Move.c1q (a1:Int) (y1:V45) (o:Bool):SL:=(fun v=>⟨[(1,(.val T2 a1)),(2,(.val .ptr ⟨0,0,(0:Int),0,0⟩)),(4,(.val .ptr ⟨1,0,(0:Int),0,0⟩)),(26,(.val T4 v))],[(0,.cells T45 y1),(1,.cells T45 (((0:Int),(0:Int),()),((0:Int),(0:Int),()),(0:Int),(0:Int),(0:Int),(0:Int),(0:Int),(0:Int),[],false,(0:Int),()))]⟩) o
noncomputable def body_Move.c1x (o:Bool):Ex:=(fun _=>.normal) o
noncomputable def body_Move.c1n (o:Bool):Nat:=(fun _=>2) o
theorem body_Move.c1_ok (k:Nat) (a1:Int) (y1:V45):Owp (body_Move.c1 k a1 y1) fun o=>Triple PR (body_Move.cx k) (sub body_Move.code [1,1,0,0]) 2 (body_Move.c1p a1 y1) (body_Move.c1x o) (body_Move.c1n o) (body_Move.c1q a1 y1 o):=by
 unfold body_Move.c1; exact
  oB fun y3 e4 =>
  oF (fun e5 =>
  oS (tW (body_Move.cok k) hmix [rS T2 y3,tT,tT,tT,tT,tT,tT,tT,tT,tT,tT,tT,tT,tT] [] [(0,0),(1,1)] (via (finP (aI (aI (aI (aI (aI (aI (aI (aI (aI (aI (aI (aI (aI (aI tv0 e4) e5) e5) e5) e5) tt) tt) tt) tt) tt) tt) tt) tt) tt) .normal [(0,0),(1,1)] (body_Move.c1q a1 y1 true)) (by kernel_rfl)))) (fun e5 =>
  oF (fun e6 =>
  oS (tW (body_Move.cok k) hmix [rS T2 y3,fF,fF,fF,fF,tT,tT,tT,tT,tT,tT,tT,tT,tT] [] [(0,0),(1,1)] (via (finP (aI (aI (aI (aI (aI (aI (aI (aI (aI (aI (aI (aI (aI (aI tv0 e4) e5) e5) e5) e5) e6) e6) e6) tt) tt) tt) tt) tt) tt) .normal [(0,0),(1,1)] (body_Move.c1q a1 y1 true)) (by kernel_rfl)))) (fun e6 =>
  oF (fun e7 =>
  oS (tW (body_Move.cok k) hmix [rS T2 y3,fF,fF,fF,fF,fF,fF,fF,tT,tT,tT,tT,tT,tT] [] [(0,0),(1,1)] (via (finP (aI (aI (aI (aI (aI (aI (aI (aI (aI (aI (aI (aI (aI (aI tv0 e4) e5) e5) e5) e5) e6) e6) e6) e7) e7) e7) tt) tt) tt) .normal [(0,0),(1,1)] (body_Move.c1q a1 y1 true)) (by kernel_rfl)))) (fun e7 =>
  oF (fun e8 =>
  oS (tW (body_Move.cok k) hmix [rS T2 y3,fF,fF,fF,fF,fF,fF,fF,fF,fF,fF,tT,tT,tT] [] [(0,0),(1,1)] (via (finP (aI (aI (aI (aI (aI (aI (aI (aI (aI (aI (aI (aI (aI (aI tv0 e4) e5) e5) e5) e5) e6) e6) e6) e7) e7) e7) e8) e8) e8) .normal [(0,0),(1,1)] (body_Move.c1q a1 y1 true)) (by kernel_rfl)))) (fun e8 =>
  oS (tW (body_Move.cok k) hmix [rS T2 y3,fF,fF,fF,fF,fF,fF,fF,fF,fF,fF,fF,fF,fF] [] [(0,0),(1,1)] (via (finP (aI (aI (aI (aI (aI (aI (aI (aI (aI (aI (aI (aI (aI (aI tv0 e4) e5) e5) e5) e5) e6) e6) e6) e7) e7) e7) e8) e8) e8) .normal [(0,0),(1,1)] (body_Move.c1q a1 y1 (igt a1 (65536:Int)))) (by kernel_rfl)))))))
theorem body_Move.way (k:Nat) (a0:V45) (a1:Int):Owp (body_Move k a0 a1) fun y=>∃ w c0,exec PR (body_Move.cx k) body_Move.code 0 (entry (.pair T45 (.pair T2 .unit)) (a0,a1,())).st w (Ret (body_Move.cx k) Tryz.f46 c0 (.one (.dp T45)) y):=by
 unfold body_Move; exact
  oB fun y1 e2 =>
  oB fun o9 e10 =>
  oF (fun e11 =>
  oS (⟨[rS T45 y1,.cutR 2 ⟨[],[(0,0),(1,1)],(body_Move.c1p a1 y1),2,.normal,(body_Move.c1q a1 y1 o9),2⟩,tT],[],via (cutP (aI tv0 e2) [(0,0),(1,1)] (body_Move.c1p a1 y1) (((body_Move.c1_ok k a1 y1).ap e10)) (retP (aI tv0 e11) (.one (.dp T45)) (y1:V45))) (by kernel_rfl)⟩)) (fun e11 =>
  oB fun y12 e13 =>
  oB fun y14 e15 =>
  oB fun y16 e17 =>
  oB fun y18 e19 =>
  oB fun y20 e21 =>
  oS (⟨[rS T45 y1,.cutR 2 ⟨[],[(0,0),(1,1)],(body_Move.c1p a1 y1),2,.normal,(body_Move.c1q a1 y1 o9),2⟩,fF,rS T2 y12,rS T2 y14,rS T2 y16,rS T2 y18,rS T2 y20],[],via (cutP (aI tv0 e2) [(0,0),(1,1)] (body_Move.c1p a1 y1) (((body_Move.c1_ok k a1 y1).ap e10)) (retP (aI (aI (aI (aI (aI (aI (aI (aI tv0 e11) e13) e15) e17) e19) e21) (by decide:nz (65536:Int))) (by decide:nz (65536:Int))) (.one (.dp T45)) (((y14,y18,()),y1.2.1,(irem (iadd .i64 (irem (iadd .i64 y1.2.2.1 y20) (65536:Int)) (65536:Int)) (65536:Int)),y1.2.2.2):V45))) (by kernel_rfl)⟩))
theorem body_Move.ok (k:Nat):FnOk PR 46 (body_Move.sp k) :=
 fn_ok (body_Move.cok k) hmix Tryz.func46 (code:=body_Move.code) (by kernel_rfl) (by kernel_rfl) (by kernel_rfl) rfl rfl (by kernel_rfl) (by kernel_rfl) (by kernel_rfl) (fun x=>Nat.le_of_ble_eq_true (by kernel_rfl)) fun x y hy=>(body_Move.way k x.1 x.2.1).ap hy
noncomputable def body_Bounds.code:Code:=Func.cd Tryz.f79
def body_Bounds.c1 (k:Nat) (y5:(V26 × (List V26))):Nat→Int→V26→V26→Option ((V26 × V26))
 | 0,_,_,_=>none
 | n+1,v9,v10,v11 =>
  bif' (ilt v9 (len (cut (y5.1 :: y5.2) 1 (List.length (y5.1 :: y5.2):Int))))
  (req (inL v9 (cut (y5.1 :: y5.2) 1 (List.length (y5.1 :: y5.2):Int))) <|body_Bounds.c1 k y5 n (iadd .i64 v9 1) ((imin v10.1 (el Z26 (cut (y5.1 :: y5.2) 1 (List.length (y5.1 :: y5.2):Int)) v9).1),(imin v10.2.1 (el Z26 (cut (y5.1 :: y5.2) 1 (List.length (y5.1 :: y5.2):Int)) v9).2.1),()) ((imax v11.1 (el Z26 (cut (y5.1 :: y5.2) 1 (List.length (y5.1 :: y5.2):Int)) v9).1),(imax v11.2.1 (el Z26 (cut (y5.1 :: y5.2) 1 (List.length (y5.1 :: y5.2):Int)) v9).2.1),()))
  (some (v10,v11))
def body_Bounds (k:Nat) (a0:V45):Option V133 :=
 bnd (splitL (body_Place k a0)) fun s1 =>
 two s1 (fun y3 =>
 some ((0,0,()),(0,0,()),())) (fun y5 =>
 req (inL 0 (y5.1 :: y5.2)) <|req (cutOk (y5.1 :: y5.2) 1 (List.length (y5.1 :: y5.2):Int)) <|bnd (body_Bounds.c1 k y5 k 0 (el Z26 (y5.1 :: y5.2) 0) (el Z26 (y5.1 :: y5.2) 0)) fun o14 =>
  some (o14.1,o14.2,()))
noncomputable def body_Bounds.sp (k:Nat):Go.Sx.Spec:=⟨(.pair T45 .unit),(.one (.dp T133)),fun x=>body_Bounds k x.1,false⟩
noncomputable def body_Bounds.cx (k:Nat):Go.Sx.Ctx:=⟨tys,[(26,body_Place.sp k)],eqs,56,0,[],false⟩
theorem body_Bounds.cok (k:Nat):CtxOk PR (body_Bounds.cx k):=ctx_ok tysOk eqsOk (fC (body_Place.ok k) FnsOk.nil) HsOk.nil
noncomputable def body_Bounds.c1p (y5:(V26 × (List V26))) (v9:Int) (v10 v11:V26):SL:=⟨[(2,(.val .ptr ⟨0,0,(0:Int),0,0⟩)),(4,(.val .ptr ⟨1,0,(0:Int),0,0⟩)),(20,(.val T36 (cut (y5.1 :: y5.2) (1:Int) (List.length (y5.1 :: y5.2):Int)))),(21,(.val T2 (len (cut (y5.1 :: y5.2) (1:Int) (List.length (y5.1 :: y5.2):Int))))),(22,(.val T2 v9))],[(0,.cells T133 (((0:Int),(0:Int),()),((0:Int),(0:Int),()),())),(1,.cells T133 (v10,v11,()))]⟩
noncomputable def body_Bounds.c1q (o:(V26 × V26)):SL:=(fun v=>⟨[(2,(.val .ptr ⟨0,0,(0:Int),0,0⟩)),(4,(.val .ptr ⟨1,0,(0:Int),0,0⟩))],[(0,.cells T133 (((0:Int),(0:Int),()),((0:Int),(0:Int),()),())),(1,.cells T133 (v.1,v.2,()))]⟩) o
noncomputable def body_Bounds.c1x (o:(V26 × V26)):Ex:=(fun _=>(.exit 0)) o
noncomputable def body_Bounds.c1n (o:(V26 × V26)):Nat:=(fun _=>2) o
theorem body_Bounds.c1_ok (k:Nat) (y5:(V26 × (List V26))):∀ (n:Nat) (v9:Int) (v10 v11:V26),Owp (body_Bounds.c1 k y5 n v9 v10 v11) fun o=>LTriple PR (body_Bounds.cx k) (sub body_Bounds.code [1,1,1,1,0,1,0,0]) 2 (body_Bounds.c1p y5 v9 v10 v11) (body_Bounds.c1x o) (body_Bounds.c1n o) (body_Bounds.c1q o)
 | 0,_,_,_=>fun _ h=>nomatch h
 | n+1,v9,v10,v11=>Owp.of (body_Bounds.c1.eq_2 ..) (
  oF (fun e12 =>
  oR fun h13 =>
  fun y hy=>loop_back (body_Bounds.cok k) hmix 2 (body_Bounds.c1p y5 (iadd .i64 v9 (1:Int)) ((imin v10.1 (el Z26 (cut (y5.1 :: y5.2) (1:Int) (List.length (y5.1 :: y5.2):Int)) v9).1),(imin v10.2.1 (el Z26 (cut (y5.1 :: y5.2) (1:Int) (List.length (y5.1 :: y5.2):Int)) v9).2.1),()) ((imax v11.1 (el Z26 (cut (y5.1 :: y5.2) (1:Int) (List.length (y5.1 :: y5.2):Int)) v9).1),(imax v11.2.1 (el Z26 (cut (y5.1 :: y5.2) (1:Int) (List.length (y5.1 :: y5.2):Int)) v9).2.1),())) [tT] [] [(0,0),(1,1)] (via (finP (aI (aI tv0 e12) h13) .normal [(0,0),(1,1)] (body_Bounds.c1p y5 (iadd .i64 v9 (1:Int)) ((imin v10.1 (el Z26 (cut (y5.1 :: y5.2) (1:Int) (List.length (y5.1 :: y5.2):Int)) v9).1),(imin v10.2.1 (el Z26 (cut (y5.1 :: y5.2) (1:Int) (List.length (y5.1 :: y5.2):Int)) v9).2.1),()) ((imax v11.1 (el Z26 (cut (y5.1 :: y5.2) (1:Int) (List.length (y5.1 :: y5.2):Int)) v9).1),(imax v11.2.1 (el Z26 (cut (y5.1 :: y5.2) (1:Int) (List.length (y5.1 :: y5.2):Int)) v9).2.1),()))) (by kernel_rfl)) ((body_Bounds.c1_ok k y5 n (iadd .i64 v9 (1:Int)) ((imin v10.1 (el Z26 (cut (y5.1 :: y5.2) (1:Int) (List.length (y5.1 :: y5.2):Int)) v9).1),(imin v10.2.1 (el Z26 (cut (y5.1 :: y5.2) (1:Int) (List.length (y5.1 :: y5.2):Int)) v9).2.1),()) ((imax v11.1 (el Z26 (cut (y5.1 :: y5.2) (1:Int) (List.length (y5.1 :: y5.2):Int)) v9).1),(imax v11.2.1 (el Z26 (cut (y5.1 :: y5.2) (1:Int) (List.length (y5.1 :: y5.2):Int)) v9).2.1),())).ap hy)) (fun e12 =>
  oS (loop_exit (body_Bounds.cok k) hmix [fF] [] [(0,0),(1,1)] (exne 0) (via (finP (aI tv0 e12) (.exit 0) [(0,0),(1,1)] (body_Bounds.c1q (v10,v11))) (by kernel_rfl)))))
theorem body_Bounds.way (k:Nat) (a0:V45):Owp (body_Bounds k a0) fun y=>∃ w c0,exec PR (body_Bounds.cx k) body_Bounds.code 0 (entry (.pair T45 .unit) (a0,())).st w (Ret (body_Bounds.cx k) Tryz.f79 c0 (.one (.dp T133)) y):=by
 unfold body_Bounds; exact
  oB fun s1 e2 =>
  Owp.two (fun y3 e4 =>
  oS (⟨[.res (.one (.dn T26)) ([]:(List V26)),tT],[],via (retP (aI (aI tv0 (splitL_nil e2 e4)) tt) (.one (.dp T133)) ((((0:Int),(0:Int),()),((0:Int),(0:Int),()),()):V133)) (by kernel_rfl)⟩)) (fun y5 e6 =>
  oR fun h7 =>
  oR fun h8 =>
  oB fun o14 e15 =>
  oS (⟨[.res (.one (.dn T26)) (y5.1 :: y5.2),fF,.cut ⟨[],[(0,1),(1,14)],(body_Bounds.c1p y5 (0:Int) (el Z26 (y5.1 :: y5.2) (0:Int)) (el Z26 (y5.1 :: y5.2) (0:Int))),2,(.exit 0),(body_Bounds.c1q o14),2⟩],[],via (cutP (aI (aI (aI (aI (aI tv0 (splitL_cons e2 e6)) ff) h7) h7) h8) [(0,1),(1,14)] (body_Bounds.c1p y5 (0:Int) (el Z26 (y5.1 :: y5.2) (0:Int)) (el Z26 (y5.1 :: y5.2) (0:Int))) (((body_Bounds.c1_ok k y5 k (0:Int) (el Z26 (y5.1 :: y5.2) (0:Int)) (el Z26 (y5.1 :: y5.2) (0:Int))).ap e15).triple) (retP tv0 (.one (.dp T133)) ((o14.1,o14.2,()):V133))) (by kernel_rfl)⟩))
theorem body_Bounds.ok (k:Nat):FnOk PR 79 (body_Bounds.sp k) :=
 fn_ok (body_Bounds.cok k) hmix Tryz.func79 (code:=body_Bounds.code) (by kernel_rfl) (by kernel_rfl) (by kernel_rfl) rfl rfl (by kernel_rfl) (by kernel_rfl) (by kernel_rfl) (fun x=>Nat.le_of_ble_eq_true (by kernel_rfl)) fun x y hy=>(body_Bounds.way k x.1).ap hy
end Go.Proofs.T1
