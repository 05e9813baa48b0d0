import Derived.Test.YtipddonkkhjegaaGreatG0
import Derived.Test.YtipddonkkhjegaaGreatG2
import Derived.Test.YtipddonkkhjegaaGreatG3
import Derived.Test.YtipddonkkhjegaaGreatG5
namespace Go.Proofs.T1
open Go Go.Sx Go.Proofs
set_option maxRecDepth 100000
set_option linter.unusedVariables false
noncomputable def body_Bounds.code:Code:=Func.cd Tryz.f33
def body_Bounds.c1 (k:Nat) (y5:(V26 × (List V26))):Nat→Int→V26→V26→Option ((V26 × V26))
 | 0,_,_,_=>none
 | n+1,v9,v10,v11 =>
  bif' (ilt v9 (len (cut (y5.1 :: y5.2) 1 (List.length (y5.1 :: y5.2):Int))))
  (req (inL v9 (cut (y5.1 :: y5.2) 1 (List.length (y5.1 :: y5.2):Int))) <|body_Bounds.c1 k y5 n (iadd .i64 v9 1) ((imin v10.1 (el Z26 (cut (y5.1 :: y5.2) 1 (List.length (y5.1 :: y5.2):Int)) v9).1),(imin v10.2.1 (el Z26 (cut (y5.1 :: y5.2) 1 (List.length (y5.1 :: y5.2):Int)) v9).2.1),()) ((imax v11.1 (el Z26 (cut (y5.1 :: y5.2) 1 (List.length (y5.1 :: y5.2):Int)) v9).1),(imax v11.2.1 (el Z26 (cut (y5.1 :: y5.2) 1 (List.length (y5.1 :: y5.2):Int)) v9).2.1),()))
  (some (v10,v11))
def body_Bounds (k:Nat) (a0:V57):Option V74 :=
 bnd (splitL (body_Place k a0)) fun s1 =>
 two s1 (fun y3 =>
 some ((0,0,()),(0,0,()),())) (fun y5 =>
 req (inL 0 (y5.1 :: y5.2)) <|req (cutOk (y5.1 :: y5.2) 1 (List.length (y5.1 :: y5.2):Int)) <|bnd (body_Bounds.c1 k y5 k 0 (el Z26 (y5.1 :: y5.2) 0) (el Z26 (y5.1 :: y5.2) 0)) fun o14 =>
  some (o14.1,o14.2,()))
noncomputable def body_Bounds.sp (k:Nat):Go.Sx.Spec:=⟨(.pair T57 .unit),(.one (.dp T74)),fun x=>body_Bounds k x.1,false⟩
noncomputable def body_Bounds.cx (k:Nat):Go.Sx.Ctx:=⟨tys,[(32,body_Place.sp k)],eqs,56,0,[],false⟩
theorem body_Bounds.cok (k:Nat):CtxOk PR (body_Bounds.cx k):=ctx_ok tysOk eqsOk (fC (body_Place.ok k) FnsOk.nil) HsOk.nil
noncomputable def body_Bounds.c1p (y5:(V26 × (List V26))) (v9:Int) (v10 v11:V26):SL:=⟨[(2,(.val .ptr ⟨0,0,(0:Int),0,0⟩)),(4,(.val .ptr ⟨1,0,(0:Int),0,0⟩)),(20,(.val T56 (cut (y5.1 :: y5.2) (1:Int) (List.length (y5.1 :: y5.2):Int)))),(21,(.val T2 (len (cut (y5.1 :: y5.2) (1:Int) (List.length (y5.1 :: y5.2):Int))))),(22,(.val T2 v9))],[(0,.cells T74 (((0:Int),(0:Int),()),((0:Int),(0:Int),()),())),(1,.cells T74 (v10,v11,()))]⟩
noncomputable def body_Bounds.c1q (o:(V26 × V26)):SL:=(fun v=>⟨[(2,(.val .ptr ⟨0,0,(0:Int),0,0⟩)),(4,(.val .ptr ⟨1,0,(0:Int),0,0⟩))],[(0,.cells T74 (((0:Int),(0:Int),()),((0:Int),(0:Int),()),())),(1,.cells T74 (v.1,v.2,()))]⟩) o
noncomputable def body_Bounds.c1x (o:(V26 × V26)):Ex:=(fun _=>(.exit 0)) o
noncomputable def body_Bounds.c1n (o:(V26 × V26)):Nat:=(fun _=>2) o
theorem body_Bounds.c1_ok (k:Nat) (y5:(V26 × (List V26))):∀ (n:Nat) (v9:Int) (v10 v11:V26),Owp (body_Bounds.c1 k y5 n v9 v10 v11) fun o=>LTriple PR (body_Bounds.cx k) (sub body_Bounds.code [1,1,1,1,0,1,0,0]) 2 (body_Bounds.c1p y5 v9 v10 v11) (body_Bounds.c1x o) (body_Bounds.c1n o) (body_Bounds.c1q o)
 | 0,_,_,_=>fun _ h=>nomatch h
 | n+1,v9,v10,v11=>Owp.of (body_Bounds.c1.eq_2 ..) (
  oF (fun e12 =>
  oR fun h13 =>
  fun y hy=>loop_back (body_Bounds.cok k) hmix 2 (body_Bounds.c1p y5 (iadd .i64 v9 (1:Int)) ((imin v10.1 (el Z26 (cut (y5.1 :: y5.2) (1:Int) (List.length (y5.1 :: y5.2):Int)) v9).1),(imin v10.2.1 (el Z26 (cut (y5.1 :: y5.2) (1:Int) (List.length (y5.1 :: y5.2):Int)) v9).2.1),()) ((imax v11.1 (el Z26 (cut (y5.1 :: y5.2) (1:Int) (List.length (y5.1 :: y5.2):Int)) v9).1),(imax v11.2.1 (el Z26 (cut (y5.1 :: y5.2) (1:Int) (List.length (y5.1 :: y5.2):Int)) v9).2.1),())) [tT] [] [(0,0),(1,1)] (via (finP (aI (aI tv0 e12) h13) .normal [(0,0),(1,1)] (body_Bounds.c1p y5 (iadd .i64 v9 (1:Int)) ((imin v10.1 (el Z26 (cut (y5.1 :: y5.2) (1:Int) (List.length (y5.1 :: y5.2):Int)) v9).1),(imin v10.2.1 (el Z26 (cut (y5.1 :: y5.2) (1:Int) (List.length (y5.1 :: y5.2):Int)) v9).2.1),()) ((imax v11.1 (el Z26 (cut (y5.1 :: y5.2) (1:Int) (List.length (y5.1 :: y5.2):Int)) v9).1),(imax v11.2.1 (el Z26 (cut (y5.1 :: y5.2) (1:Int) (List.length (y5.1 :: y5.2):Int)) v9).2.1),()))) (by kernel_rfl)) ((body_Bounds.c1_ok k y5 n (iadd .i64 v9 (1:Int)) ((imin v10.1 (el Z26 (cut (y5.1 :: y5.2) (1:Int) (List.length (y5.1 :: y5.2):Int)) v9).1),(imin v10.2.1 (el Z26 (cut (y5.1 :: y5.2) (1:Int) (List.length (y5.1 :: y5.2):Int)) v9).2.1),()) ((imax v11.1 (el Z26 (cut (y5.1 :: y5.2) (1:Int) (List.length (y5.1 :: y5.2):Int)) v9).1),(imax v11.2.1 (el Z26 (cut (y5.1 :: y5.2) (1:Int) (List.length (y5.1 :: y5.2):Int)) v9).2.1),())).ap hy)) (fun e12 =>
  oS (loop_exit (body_Bounds.cok k) hmix [fF] [] [(0,0),(1,1)] (exne 0) (via (finP (aI tv0 e12) (.exit 0) [(0,0),(1,1)] (body_Bounds.c1q (v10,v11))) (by kernel_rfl)))))
theorem body_Bounds.way (k:Nat) (a0:V57):Owp (body_Bounds k a0) fun y=>∃ w c0,exec PR (body_Bounds.cx k) body_Bounds.code 0 (entry (.pair T57 .unit) (a0,())).st w (Ret (body_Bounds.cx k) Tryz.f33 c0 (.one (.dp T74)) y):=by
 unfold body_Bounds; exact
  oB fun s1 e2 =>
  Owp.two (fun y3 e4 =>
  oS (⟨[.res (.one (.dn T26)) ([]:(List V26)),tT],[],via (retP (aI (aI tv0 (splitL_nil e2 e4)) tt) (.one (.dp T74)) ((((0:Int),(0:Int),()),((0:Int),(0:Int),()),()):V74)) (by kernel_rfl)⟩)) (fun y5 e6 =>
  oR fun h7 =>
  oR fun h8 =>
  oB fun o14 e15 =>
  oS (⟨[.res (.one (.dn T26)) (y5.1 :: y5.2),fF,.cut ⟨[],[(0,1),(1,14)],(body_Bounds.c1p y5 (0:Int) (el Z26 (y5.1 :: y5.2) (0:Int)) (el Z26 (y5.1 :: y5.2) (0:Int))),2,(.exit 0),(body_Bounds.c1q o14),2⟩],[],via (cutP (aI (aI (aI (aI (aI tv0 (splitL_cons e2 e6)) ff) h7) h7) h8) [(0,1),(1,14)] (body_Bounds.c1p y5 (0:Int) (el Z26 (y5.1 :: y5.2) (0:Int)) (el Z26 (y5.1 :: y5.2) (0:Int))) (((body_Bounds.c1_ok k y5 k (0:Int) (el Z26 (y5.1 :: y5.2) (0:Int)) (el Z26 (y5.1 :: y5.2) (0:Int))).ap e15).triple) (retP tv0 (.one (.dp T74)) ((o14.1,o14.2,()):V74))) (by kernel_rfl)⟩))
theorem body_Bounds.ok (k:Nat):FnOk PR 33 (body_Bounds.sp k) :=
 fn_ok (body_Bounds.cok k) hmix Tryz.func33 (code:=body_Bounds.code) (by kernel_rfl) (by kernel_rfl) (by kernel_rfl) rfl rfl (by kernel_rfl) (by kernel_rfl) (by kernel_rfl) (fun x=>Nat.le_of_ble_eq_true (by kernel_rfl)) fun x y hy=>(body_Bounds.way k x.1).ap hy
noncomputable def body_over.code:Code:=Func.cd Tryz.f150
def body_over (k:Nat) (a0 a1:Int):Option Int :=
 bnd (fix_Div k a0 a1) fun y1 =>
 some y1.1
noncomputable def body_over.sp (k:Nat):Go.Sx.Spec:=⟨T26,(.one (.dp T2)),fun x=>body_over k x.1 x.2.1,false⟩
noncomputable def body_over.cx (k:Nat):Go.Sx.Ctx:=⟨tys,[(151,fix_Div.sp k)],eqs,14,0,[],false⟩
theorem body_over.cok (k:Nat):CtxOk PR (body_over.cx k):=ctx_ok tysOk eqsOk (fC (fix_Div.ok k) FnsOk.nil) HsOk.nil
theorem body_over.way (k:Nat) (a0 a1:Int):Owp (body_over k a0 a1) fun y=>∃ w c0,exec PR (body_over.cx k) body_over.code 0 (entry T26 (a0,a1,())).st w (Ret (body_over.cx k) Tryz.f150 c0 (.one (.dp T2)) y):=by
 unfold body_over; exact
  oB fun y1 e2 =>
  oS (⟨[.res (.more (.dp T2) (.one (.dp T2))) y1],[],via (retP (aI tv0 e2) (.one (.dp T2)) (y1.1:Int)) (by kernel_rfl)⟩)
theorem body_over.ok (k:Nat):FnOk PR 150 (body_over.sp k) :=
 fn_ok (body_over.cok k) hmix Tryz.func150 (code:=body_over.code) (by kernel_rfl) (by kernel_rfl) (by kernel_rfl) rfl rfl (by kernel_rfl) (by kernel_rfl) (by kernel_rfl) (fun x=>Nat.le_of_ble_eq_true (by kernel_rfl)) fun x y hy=>(body_over.way k x.1 x.2.1).ap hy
noncomputable def body_Ease.code:Code:=Func.cd Tryz.f106
def body_Ease.c1 (k:Nat) (a0:V57):Option (Bool) :=
 bnd (body_Check k a0) fun y1 =>
 bif' (ine y1 0)
 (some true)
 (bif' (ieq a0.2.2.2.2.1 0)
  (some true)
  (some a0.2.2.2.2.2.2.2.2.2.1))
def body_Ease (k:Nat) (a0:V57) (a1 a2:V26):Option Int :=
 bnd (body_Ease.c1 k a0) fun o5 =>
 bif' o5
 (some 0)
 (bnd (vec_Sub k a1 a0.1) fun y8 =>
  bnd (vec_Cross k y8 a2) fun y10 =>
  bnd (body_over k 65536 a0.2.2.2.2.1) fun y12 =>
  bnd (fix_Mul k y10 y10) fun y14 =>
  bnd (body_over k y14 a0.2.2.2.2.2.1) fun y16 =>
  bnd (fix_Add k y12 y16) fun y18 =>
  some y18)
noncomputable def body_Ease.sp (k:Nat):Go.Sx.Spec:=⟨(.pair T57 T74),(.one (.dp T2)),fun x=>body_Ease k x.1 x.2.1 x.2.2.1,false⟩
noncomputable def body_Ease.cx (k:Nat):Go.Sx.Ctx:=⟨tys,[(45,body_Check.sp k),(149,vec_Sub.sp k),(148,vec_Cross.sp k),(150,body_over.sp k),(108,fix_Mul.sp k),(105,fix_Add.sp k)],eqs,36,0,[],false⟩
theorem body_Ease.cok (k:Nat):CtxOk PR (body_Ease.cx k):=ctx_ok tysOk eqsOk (fC (body_Check.ok k) (fC (vec_Sub.ok k) (fC (vec_Cross.ok k) (fC (body_over.ok k) (fC (fix_Mul.ok k) (fC (fix_Add.ok k) FnsOk.nil)))))) HsOk.nil
noncomputable def body_Ease.c1p (a0:V57) (a1 a2:V26):SL:=⟨[(3,(.val .ptr ⟨0,0,(0:Int),0,0⟩)),(4,(.val .ptr ⟨1,0,(0:Int),0,0⟩)),(5,(.val .ptr ⟨2,0,(0:Int),0,0⟩))],[(0,.cells T57 a0),(1,.cells T26 a1),(2,.cells T26 a2)]⟩
noncomputable def body_Ease.c1q (a0:V57) (a1 a2:V26) (o:Bool):SL:=(fun v=>⟨[(3,(.val .ptr ⟨0,0,(0:Int),0,0⟩)),(4,(.val .ptr ⟨1,0,(0:Int),0,0⟩)),(5,(.val .ptr ⟨2,0,(0:Int),0,0⟩)),(19,(.val T4 v))],[(0,.cells T57 a0),(1,.cells T26 a1),(2,.cells T26 a2)]⟩) o
noncomputable def body_Ease.c1x (o:Bool):Ex:=(fun _=>.normal) o
noncomputable def body_Ease.c1n (o:Bool):Nat:=(fun _=>3) o
theorem body_Ease.c1_ok (k:Nat) (a0:V57) (a1 a2:V26):Owp (body_Ease.c1 k a0) fun o=>Triple PR (body_Ease.cx k) (sub body_Ease.code [1,0,0]) 3 (body_Ease.c1p a0 a1 a2) (body_Ease.c1x o) (body_Ease.c1n o) (body_Ease.c1q a0 a1 a2 o):=by
 unfold body_Ease.c1; exact
  oB fun y1 e2 =>
  oF (fun e3 =>
  oS (tW (body_Ease.cok k) hmix [rS T2 y1,tT,tT,tT,tT,tT,tT,tT] [] [(0,0),(1,1),(2,2)] (via (finP (aI (aI (aI (aI (aI (aI (aI (aI tv0 e2) e3) e3) e3) e3) tt) tt) tt) .normal [(0,0),(1,1),(2,2)] (body_Ease.c1q a0 a1 a2 true)) (by kernel_rfl)))) (fun e3 =>
  oF (fun e4 =>
  oS (tW (body_Ease.cok k) hmix [rS T2 y1,fF,fF,fF,fF,tT,tT,tT] [] [(0,0),(1,1),(2,2)] (via (finP (aI (aI (aI (aI (aI (aI (aI (aI tv0 e2) e3) e3) e3) e3) e4) e4) e4) .normal [(0,0),(1,1),(2,2)] (body_Ease.c1q a0 a1 a2 true)) (by kernel_rfl)))) (fun e4 =>
  oS (tW (body_Ease.cok k) hmix [rS T2 y1,fF,fF,fF,fF,fF,fF,fF] [] [(0,0),(1,1),(2,2)] (via (finP (aI (aI (aI (aI (aI (aI (aI (aI tv0 e2) e3) e3) e3) e3) e4) e4) e4) .normal [(0,0),(1,1),(2,2)] (body_Ease.c1q a0 a1 a2 a0.2.2.2.2.2.2.2.2.2.1)) (by kernel_rfl)))))
theorem body_Ease.way (k:Nat) (a0:V57) (a1 a2:V26):Owp (body_Ease k a0 a1 a2) fun y=>∃ w c0,exec PR (body_Ease.cx k) body_Ease.code 0 (entry (.pair T57 T74) (a0,a1,a2,())).st w (Ret (body_Ease.cx k) Tryz.f106 c0 (.one (.dp T2)) y):=by
 unfold body_Ease; exact
  oB fun o5 e6 =>
  oF (fun e7 =>
  oS (⟨[.cutR 1 ⟨[],[(0,0),(1,1),(2,2)],(body_Ease.c1p a0 a1 a2),3,.normal,(body_Ease.c1q a0 a1 a2 o5),3⟩,tT],[],via (cutP tv0 [(0,0),(1,1),(2,2)] (body_Ease.c1p a0 a1 a2) (((body_Ease.c1_ok k a0 a1 a2).ap e6)) (retP (aI tv0 e7) (.one (.dp T2)) ((0:Int):Int))) (by kernel_rfl)⟩)) (fun e7 =>
  oB fun y8 e9 =>
  oB fun y10 e11 =>
  oB fun y12 e13 =>
  oB fun y14 e15 =>
  oB fun y16 e17 =>
  oB fun y18 e19 =>
  oS (⟨[.cutR 1 ⟨[],[(0,0),(1,1),(2,2)],(body_Ease.c1p a0 a1 a2),3,.normal,(body_Ease.c1q a0 a1 a2 o5),3⟩,fF,rS T26 y8,rS T2 y10,rS T2 y12,rS T2 y14,rS T2 y16,rS T2 y18],[],via (cutP tv0 [(0,0),(1,1),(2,2)] (body_Ease.c1p a0 a1 a2) (((body_Ease.c1_ok k a0 a1 a2).ap e6)) (retP (aI (aI (aI (aI (aI (aI (aI tv0 e7) e9) e11) e13) e15) e17) e19) (.one (.dp T2)) (y18:Int))) (by kernel_rfl)⟩))
theorem body_Ease.ok (k:Nat):FnOk PR 106 (body_Ease.sp k) :=
 fn_ok (body_Ease.cok k) hmix Tryz.func106 (code:=body_Ease.code) (by kernel_rfl) (by kernel_rfl) (by kernel_rfl) rfl rfl (by kernel_rfl) (by kernel_rfl) (by kernel_rfl) (fun x=>Nat.le_of_ble_eq_true (by kernel_rfl)) fun x y hy=>(body_Ease.way k x.1 x.2.1 x.2.2.1).ap hy
noncomputable def body_own.code:Code:=Func.cd Tryz.f154
def body_own (k:Nat) (a0:V57):Option V57 :=
 bnd (slices_Clone_52 k a0.2.2.2.2.2.2.2.2.1) fun y1 =>
 some (a0.1,a0.2.1,a0.2.2.1,a0.2.2.2.1,a0.2.2.2.2.1,a0.2.2.2.2.2.1,a0.2.2.2.2.2.2.1,a0.2.2.2.2.2.2.2.1,y1,a0.2.2.2.2.2.2.2.2.2)
noncomputable def body_own.sp (k:Nat):Go.Sx.Spec:=⟨(.pair T57 .unit),(.one (.dp T57)),fun x=>body_own k x.1,false⟩
noncomputable def body_own.cx (k:Nat):Go.Sx.Ctx:=⟨tys,[(52,(slices_Clone_52.sp k).frz)],eqs,8,0,[],false⟩
theorem body_own.cok (k:Nat):CtxOk PR (body_own.cx k):=ctx_ok tysOk eqsOk (fC (FnOk.frz rfl (slices_Clone_52.ok k)) FnsOk.nil) HsOk.nil
theorem body_own.way (k:Nat) (a0:V57):Owp (body_own k a0) fun y=>∃ w c0,exec PR (body_own.cx k) body_own.code 0 (entry (.pair T57 .unit) (a0,())).st w (Ret (body_own.cx k) Tryz.f154 c0 (.one (.dp T57)) y):=by
 unfold body_own; exact
  oB fun y1 e2 =>
  oS (⟨[rS T56 y1],[],via (retP (aI tv0 e2) (.one (.dp T57)) ((a0.1,a0.2.1,a0.2.2.1,a0.2.2.2.1,a0.2.2.2.2.1,a0.2.2.2.2.2.1,a0.2.2.2.2.2.2.1,a0.2.2.2.2.2.2.2.1,y1,a0.2.2.2.2.2.2.2.2.2):V57)) (by kernel_rfl)⟩)
theorem body_own.ok (k:Nat):FnOk PR 154 (body_own.sp k) :=
 fn_ok (body_own.cok k) hmix Tryz.func154 (code:=body_own.code) (by kernel_rfl) (by kernel_rfl) (by kernel_rfl) rfl rfl (by kernel_rfl) (by kernel_rfl) (by kernel_rfl) (fun x=>Nat.le_of_ble_eq_true (by kernel_rfl)) fun x y hy=>(body_own.way k x.1).ap hy
noncomputable def body_clamp.code:Code:=Func.cd Tryz.f155
def body_clamp (k:Nat) (a0 a1:Int):Option Int :=
 some (imin (imax a0 (ineg .i64 a1)) a1)
noncomputable def body_clamp.sp (k:Nat):Go.Sx.Spec:=⟨T26,(.one (.dp T2)),fun x=>body_clamp k x.1 x.2.1,false⟩
noncomputable def body_clamp.cx (k:Nat):Go.Sx.Ctx:=⟨tys,[],eqs,11,0,[],false⟩
theorem body_clamp.cok (k:Nat):CtxOk PR (body_clamp.cx k):=ctx_ok tysOk eqsOk FnsOk.nil HsOk.nil
theorem body_clamp.way (k:Nat) (a0 a1:Int):Owp (body_clamp k a0 a1) fun y=>∃ w c0,exec PR (body_clamp.cx k) body_clamp.code 0 (entry T26 (a0,a1,())).st w (Ret (body_clamp.cx k) Tryz.f155 c0 (.one (.dp T2)) y):=by
 unfold body_clamp; exact
  oS (⟨[],[],via (retP tv0 (.one (.dp T2)) ((imin (imax a0 (ineg .i64 a1)) a1):Int)) (by kernel_rfl)⟩)
theorem body_clamp.ok (k:Nat):FnOk PR 155 (body_clamp.sp k) :=
 fn_ok (body_clamp.cok k) hmix Tryz.func155 (code:=body_clamp.code) (by kernel_rfl) (by kernel_rfl) (by kernel_rfl) rfl rfl (by kernel_rfl) (by kernel_rfl) (by kernel_rfl) (fun x=>Nat.le_of_ble_eq_true (by kernel_rfl)) fun x y hy=>(body_clamp.way k x.1 x.2.1).ap hy
noncomputable def body_Push.code:Code:=Func.cd Tryz.f111
def body_Push.c1 (k:Nat) (y1:V57):Option (Bool) :=
 bnd (body_Check k y1) fun y3 =>
 bif' (ine y3 0)
 (some true)
 (bif' (ieq y1.2.2.2.2.1 0)
  (some true)
  (some y1.2.2.2.2.2.2.2.2.2.1))
def body_Push (k:Nat) (a0:V57) (a1 a2:V26):Option V57 :=
 bnd (body_own k a0) fun y1 =>
 bnd (body_Push.c1 k y1) fun o7 =>
 bif' o7
 (some y1)
 (bnd (vec_Sub k a2 y1.1) fun y10 =>
  bnd (vec_Cross k y10 a1) fun y12 =>
  bnd (body_over k y12 y1.2.2.2.2.2.1) fun y14 =>
  bnd (body_over k y14 411775) fun y16 =>
  bnd (body_over k a1.1 y1.2.2.2.2.1) fun y18 =>
  bnd (fix_Add k y1.2.1.1 y18) fun y20 =>
  bnd (body_clamp k y20 268435456) fun y22 =>
  bnd (body_over k a1.2.1 y1.2.2.2.2.1) fun y24 =>
  bnd (fix_Add k y1.2.1.2.1 y24) fun y26 =>
  bnd (body_clamp k y26 268435456) fun y28 =>
  bnd (fix_Add k y1.2.2.2.1 y16) fun y30 =>
  bnd (body_clamp k y30 16777216) fun y32 =>
  some (y1.1,(y22,y28,()),y1.2.2.1,y32,y1.2.2.2.2))
noncomputable def body_Push.sp (k:Nat):Go.Sx.Spec:=⟨(.pair T57 T74),(.one (.dp T57)),fun x=>body_Push k x.1 x.2.1 x.2.2.1,false⟩
noncomputable def body_Push.cx (k:Nat):Go.Sx.Ctx:=⟨tys,[(154,body_own.sp k),(45,body_Check.sp k),(149,vec_Sub.sp k),(148,vec_Cross.sp k),(150,body_over.sp k),(105,fix_Add.sp k),(155,body_clamp.sp k)],eqs,64,0,[],false⟩
theorem body_Push.cok (k:Nat):CtxOk PR (body_Push.cx k):=ctx_ok tysOk eqsOk (fC (body_own.ok k) (fC (body_Check.ok k) (fC (vec_Sub.ok k) (fC (vec_Cross.ok k) (fC (body_over.ok k) (fC (fix_Add.ok k) (fC (body_clamp.ok k) FnsOk.nil))))))) HsOk.nil
noncomputable def body_Push.c1p (a1 a2:V26) (y1:V57):SL:=⟨[(3,(.val .ptr ⟨0,0,(0:Int),0,0⟩)),(4,(.val .ptr ⟨1,0,(0:Int),0,0⟩)),(5,(.val .ptr ⟨2,0,(0:Int),0,0⟩)),(6,(.val .ptr ⟨3,0,(0:Int),0,0⟩))],[(0,.cells T57 y1),(1,.cells T26 a1),(2,.cells T26 a2),(3,.cells T57 (((0:Int),(0:Int),()),((0:Int),(0:Int),()),(0:Int),(0:Int),(0:Int),(0:Int),(0:Int),(0:Int),[],false,(0:Int),()))]⟩
noncomputable def body_Push.c1q (a1 a2:V26) (y1:V57) (o:Bool):SL:=(fun v=>⟨[(3,(.val .ptr ⟨0,0,(0:Int),0,0⟩)),(4,(.val .ptr ⟨1,0,(0:Int),0,0⟩)),(5,(.val .ptr ⟨2,0,(0:Int),0,0⟩)),(6,(.val .ptr ⟨3,0,(0:Int),0,0⟩)),(21,(.val T4 v))],[(0,.cells T57 y1),(1,.cells T26 a1),(2,.cells T26 a2),(3,.cells T57 (((0:Int),(0:Int),()),((0:Int),(0:Int),()),(0:Int),(0:Int),(0:Int),(0:Int),(0:Int),(0:Int),[],false,(0:Int),()))]⟩) o
noncomputable def body_Push.c1x (o:Bool):Ex:=(fun _=>.normal) o
noncomputable def body_Push.c1n (o:Bool):Nat:=(fun _=>4) o
theorem body_Push.c1_ok (k:Nat) (a1 a2:V26) (y1:V57):Owp (body_Push.c1 k y1) fun o=>Triple PR (body_Push.cx k) (sub body_Push.code [1,1,0,0]) 4 (body_Push.c1p a1 a2 y1) (body_Push.c1x o) (body_Push.c1n o) (body_Push.c1q a1 a2 y1 o):=by
 unfold body_Push.c1; exact
  oB fun y3 e4 =>
  oF (fun e5 =>
  oS (tW (body_Push.cok k) hmix [rS T2 y3,tT,tT,tT,tT,tT,tT,tT] [] [(0,0),(1,1),(2,2),(3,3)] (via (finP (aI (aI (aI (aI (aI (aI (aI (aI tv0 e4) e5) e5) e5) e5) tt) tt) tt) .normal [(0,0),(1,1),(2,2),(3,3)] (body_Push.c1q a1 a2 y1 true)) (by kernel_rfl)))) (fun e5 =>
  oF (fun e6 =>
  oS (tW (body_Push.cok k) hmix [rS T2 y3,fF,fF,fF,fF,tT,tT,tT] [] [(0,0),(1,1),(2,2),(3,3)] (via (finP (aI (aI (aI (aI (aI (aI (aI (aI tv0 e4) e5) e5) e5) e5) e6) e6) e6) .normal [(0,0),(1,1),(2,2),(3,3)] (body_Push.c1q a1 a2 y1 true)) (by kernel_rfl)))) (fun e6 =>
  oS (tW (body_Push.cok k) hmix [rS T2 y3,fF,fF,fF,fF,fF,fF,fF] [] [(0,0),(1,1),(2,2),(3,3)] (via (finP (aI (aI (aI (aI (aI (aI (aI (aI tv0 e4) e5) e5) e5) e5) e6) e6) e6) .normal [(0,0),(1,1),(2,2),(3,3)] (body_Push.c1q a1 a2 y1 y1.2.2.2.2.2.2.2.2.2.1)) (by kernel_rfl)))))
theorem body_Push.way (k:Nat) (a0:V57) (a1 a2:V26):Owp (body_Push k a0 a1 a2) fun y=>∃ w c0,exec PR (body_Push.cx k) body_Push.code 0 (entry (.pair T57 T74) (a0,a1,a2,())).st w (Ret (body_Push.cx k) Tryz.f111 c0 (.one (.dp T57)) y):=by
 unfold body_Push; exact
  oB fun y1 e2 =>
  oB fun o7 e8 =>
  oF (fun e9 =>
  oS (⟨[rS T57 y1,.cutR 2 ⟨[],[(0,0),(1,1),(2,2),(3,3)],(body_Push.c1p a1 a2 y1),4,.normal,(body_Push.c1q a1 a2 y1 o7),4⟩,tT],[],via (cutP (aI tv0 e2) [(0,0),(1,1),(2,2),(3,3)] (body_Push.c1p a1 a2 y1) (((body_Push.c1_ok k a1 a2 y1).ap e8)) (retP (aI tv0 e9) (.one (.dp T57)) (y1:V57))) (by kernel_rfl)⟩)) (fun e9 =>
  oB fun y10 e11 =>
  oB fun y12 e13 =>
  oB fun y14 e15 =>
  oB fun y16 e17 =>
  oB fun y18 e19 =>
  oB fun y20 e21 =>
  oB fun y22 e23 =>
  oB fun y24 e25 =>
  oB fun y26 e27 =>
  oB fun y28 e29 =>
  oB fun y30 e31 =>
  oB fun y32 e33 =>
  oS (⟨[rS T57 y1,.cutR 2 ⟨[],[(0,0),(1,1),(2,2),(3,3)],(body_Push.c1p a1 a2 y1),4,.normal,(body_Push.c1q a1 a2 y1 o7),4⟩,fF,rS T26 y10,rS T2 y12,rS T2 y14,rS T2 y16,rS T2 y18,rS T2 y20,rS T2 y22,rS T2 y24,rS T2 y26,rS T2 y28,rS T2 y30,rS T2 y32],[],via (cutP (aI tv0 e2) [(0,0),(1,1),(2,2),(3,3)] (body_Push.c1p a1 a2 y1) (((body_Push.c1_ok k a1 a2 y1).ap e8)) (retP (aI (aI (aI (aI (aI (aI (aI (aI (aI (aI (aI (aI (aI tv0 e9) e11) e13) e15) e17) e19) e21) e23) e25) e27) e29) e31) e33) (.one (.dp T57)) ((y1.1,(y22,y28,()),y1.2.2.1,y32,y1.2.2.2.2):V57))) (by kernel_rfl)⟩))
theorem body_Push.ok (k:Nat):FnOk PR 111 (body_Push.sp k) :=
 fn_ok (body_Push.cok k) hmix Tryz.func111 (code:=body_Push.code) (by kernel_rfl) (by kernel_rfl) (by kernel_rfl) rfl rfl (by kernel_rfl) (by kernel_rfl) (by kernel_rfl) (fun x=>Nat.le_of_ble_eq_true (by kernel_rfl)) fun x y hy=>(body_Push.way k x.1 x.2.1 x.2.2.1).ap hy
noncomputable def body_At.code:Code:=Func.cd Tryz.f153
def body_At (k:Nat) (a0:V57) (a1:V26):Option V26 :=
 bnd (body_Check k a0) fun y1 =>
 bif' (ine y1 0)
 (some (0,0,()))
 (bnd (vec_Sub k a1 a0.1) fun y4 =>
  bnd (fix_Mul k a0.2.2.2.1 411775) fun y6 =>
  bnd (fix_Mul k y6 y4.2.1) fun y8 =>
  bnd (fix_Sub k a0.2.1.1 y8) fun y10 =>
  bnd (fix_Mul k y6 y4.1) fun y12 =>
  bnd (fix_Add k a0.2.1.2.1 y12) fun y14 =>
  some (y10,y14,()))
noncomputable def body_At.sp (k:Nat):Go.Sx.Spec:=⟨(.pair T57 (.pair T26 .unit)),(.one (.dp T26)),fun x=>body_At k x.1 x.2.1,false⟩
noncomputable def body_At.cx (k:Nat):Go.Sx.Ctx:=⟨tys,[(45,body_Check.sp k),(149,vec_Sub.sp k),(108,fix_Mul.sp k),(112,fix_Sub.sp k),(105,fix_Add.sp k)],eqs,35,0,[],false⟩
theorem body_At.cok (k:Nat):CtxOk PR (body_At.cx k):=ctx_ok tysOk eqsOk (fC (body_Check.ok k) (fC (vec_Sub.ok k) (fC (fix_Mul.ok k) (fC (fix_Sub.ok k) (fC (fix_Add.ok k) FnsOk.nil))))) HsOk.nil
theorem body_At.way (k:Nat) (a0:V57) (a1:V26):Owp (body_At k a0 a1) fun y=>∃ w c0,exec PR (body_At.cx k) body_At.code 0 (entry (.pair T57 (.pair T26 .unit)) (a0,a1,())).st w (Ret (body_At.cx k) Tryz.f153 c0 (.one (.dp T26)) y):=by
 unfold body_At; exact
  oB fun y1 e2 =>
  oF (fun e3 =>
  oS (⟨[rS T2 y1,tT],[],via (retP (aI (aI tv0 e2) e3) (.one (.dp T26)) (((0:Int),(0:Int),()):V26)) (by kernel_rfl)⟩)) (fun e3 =>
  oB fun y4 e5 =>
  oB fun y6 e7 =>
  oB fun y8 e9 =>
  oB fun y10 e11 =>
  oB fun y12 e13 =>
  oB fun y14 e15 =>
  oS (⟨[rS T2 y1,fF,rS T26 y4,rS T2 y6,rS T2 y8,rS T2 y10,rS T2 y12,rS T2 y14],[],via (retP (aI (aI (aI (aI (aI (aI (aI (aI tv0 e2) e3) e5) e7) e9) e11) e13) e15) (.one (.dp T26)) ((y10,y14,()):V26)) (by kernel_rfl)⟩))
theorem body_At.ok (k:Nat):FnOk PR 153 (body_At.sp k) :=
 fn_ok (body_At.cok k) hmix Tryz.func153 (code:=body_At.code) (by kernel_rfl) (by kernel_rfl) (by kernel_rfl) rfl rfl (by kernel_rfl) (by kernel_rfl) (by kernel_rfl) (fun x=>Nat.le_of_ble_eq_true (by kernel_rfl)) fun x y hy=>(body_At.way k x.1 x.2.1).ap hy
end Go.Proofs.T1
