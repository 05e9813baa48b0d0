import Derived.Test.YthpbadopmihmpaaGreatG0
namespace Go.Proofs.T1
open Go Go.Sx Go.Proofs
set_option maxRecDepth 100000
set_option linter.unusedVariables false
noncomputable def tourmake_Below.code:Code:=Func.cd Tryz.f6
def tourmake_Below (k:Nat) (a0 a1:Int):Option Int :=
 req (nz a1) <|bif' (ilt (irem a0 a1) 0)
 (some (iadd .i64 (irem a0 a1) a1))
 (some (irem a0 a1))
noncomputable def tourmake_Below.sp (k:Nat):Go.Sx.Spec:=⟨T26,(.one (.dp T2)),fun x=>tourmake_Below k x.1 x.2.1,false⟩
noncomputable def tourmake_Below.cx (k:Nat):Go.Sx.Ctx:=⟨tys,[],eqs,14,0,[],false⟩
theorem tourmake_Below.cok (k:Nat):CtxOk PR (tourmake_Below.cx k):=ctx_ok tysOk eqsOk FnsOk.nil HsOk.nil
theorem tourmake_Below.way (k:Nat) (a0 a1:Int):Owp (tourmake_Below k a0 a1) fun y=>∃ w c0,exec PR (tourmake_Below.cx k) tourmake_Below.code 0 (entry T26 (a0,a1,())).st w (Ret (tourmake_Below.cx k) Tryz.f6 c0 (.one (.dp T2)) y):=by
 unfold tourmake_Below; exact
  oR fun h1 =>
  oF (fun e2 =>
  oS (⟨[tT],[],via (retP (aI (aI tv0 h1) e2) (.one (.dp T2)) ((iadd .i64 (irem a0 a1) a1):Int)) (by kernel_rfl)⟩)) (fun e2 =>
  oS (⟨[fF],[],via (retP (aI (aI tv0 h1) e2) (.one (.dp T2)) ((irem a0 a1):Int)) (by kernel_rfl)⟩))
theorem tourmake_Below.ok (k:Nat):FnOk PR 6 (tourmake_Below.sp k) :=
 fn_ok (tourmake_Below.cok k) hmix Tryz.func6 (code:=tourmake_Below.code) (by kernel_rfl) (by kernel_rfl) (by kernel_rfl) rfl rfl (by kernel_rfl) (by kernel_rfl) (by kernel_rfl) (fun x=>Nat.le_of_ble_eq_true (by kernel_rfl)) fun x y hy=>(tourmake_Below.way k x.1 x.2.1).ap hy
noncomputable def tourmake_Stream_Next.code:Code:=Func.cd Tryz.f11
def tourmake_Stream_Next.c1 (k:Nat) (a0:((List Int) × Unit)) (a1:Int):Option (Bool) :=
 bif' (ieq (len a0.1) 0)
 (some true)
 (some (ilt a1 1))
def tourmake_Stream_Next (k:Nat) (a0:((List Int) × Unit)) (a1:Int):Option (((List Int) × Unit) × Int) :=
 bnd (tourmake_Stream_Next.c1 k a0 a1) fun o2 =>
 bif' o2
 (some (a0,0))
 (req (inL 0 a0.1) <|req (cutOk a0.1 1 (List.length a0.1:Int)) <|bnd (tourmake_Below k (el 0 a0.1 0) a1) fun y7 =>
  some (((cut a0.1 1 (List.length a0.1:Int)),()),y7))
noncomputable def tourmake_Stream_Next.sp (k:Nat):Go.Sx.Spec:=⟨(.pair (.ref (.pair T22 .unit)) (.pair T2 .unit)),(.more (.dp (.pair T22 .unit)) (.one (.dp T2))),fun x=>tourmake_Stream_Next k x.1 x.2.1,true⟩
noncomputable def tourmake_Stream_Next.cx (k:Nat):Go.Sx.Ctx:=⟨tys,[(6,tourmake_Below.sp k)],eqs,33,1,[],false⟩
theorem tourmake_Stream_Next.cok (k:Nat):CtxOk PR (tourmake_Stream_Next.cx k):=ctx_ok tysOk eqsOk (fC (tourmake_Below.ok k) FnsOk.nil) HsOk.nil
noncomputable def tourmake_Stream_Next.c1p (a0:((List Int) × Unit)) (a1:Int):SL:=⟨[(0,(.val .ptr ⟨0,0,(0:Int),0,0⟩)),(1,(.val T2 a1))],[(0,.cells (.pair T22 .unit) a0)]⟩
noncomputable def tourmake_Stream_Next.c1q (a0:((List Int) × Unit)) (a1:Int) (o:Bool):SL:=(fun v=>⟨[(0,(.val .ptr ⟨0,0,(0:Int),0,0⟩)),(1,(.val T2 a1)),(15,(.val T4 v))],[(0,.cells (.pair T22 .unit) a0)]⟩) o
noncomputable def tourmake_Stream_Next.c1x (o:Bool):Ex:=(fun _=>.normal) o
noncomputable def tourmake_Stream_Next.c1n (o:Bool):Nat:=(fun _=>1) o
theorem tourmake_Stream_Next.c1_ok (k:Nat) (a0:((List Int) × Unit)) (a1:Int):Owp (tourmake_Stream_Next.c1 k a0 a1) fun o=>Triple PR (tourmake_Stream_Next.cx k) (sub tourmake_Stream_Next.code [1,0,0]) 1 (tourmake_Stream_Next.c1p a0 a1) (tourmake_Stream_Next.c1x o) (tourmake_Stream_Next.c1n o) (tourmake_Stream_Next.c1q a0 a1 o):=by
 unfold tourmake_Stream_Next.c1; exact
  oF (fun e1 =>
  oS (tW (tourmake_Stream_Next.cok k) hmix [tT,tT,tT] [] [(0,0)] (via (finP (aI (aI (aI tv0 e1) e1) e1) .normal [(0,0)] (tourmake_Stream_Next.c1q a0 a1 true)) (by kernel_rfl)))) (fun e1 =>
  oS (tW (tourmake_Stream_Next.cok k) hmix [fF,fF,fF] [] [(0,0)] (via (finP (aI (aI (aI tv0 e1) e1) e1) .normal [(0,0)] (tourmake_Stream_Next.c1q a0 a1 (ilt a1 (1:Int)))) (by kernel_rfl))))
@[irreducible] noncomputable def tourmake_Stream_Next.P (k:Nat) (a0:((List Int) × Unit)) (a1:Int) (y:(((List Int) × Unit) × Int)) (w:List Ans) (c0:List Cmd):Prop:=exec PR (tourmake_Stream_Next.cx k) tourmake_Stream_Next.code 1 (entryW (.pair T22 .unit) (.pair T2 .unit) (a0,(a1,()))).st w (RetW (tourmake_Stream_Next.cx k) Tryz.f11 c0 (.pair T22 .unit) (.one (.dp T2)) y)
theorem tourmake_Stream_Next.way (k:Nat) (a0:((List Int) × Unit)) (a1:Int):Owp (tourmake_Stream_Next k a0 a1) fun y=>∃ w c0,tourmake_Stream_Next.P k a0 a1 y w c0:=by
 unfold tourmake_Stream_Next; exact
  oB fun o2 e3 =>
  oF (fun e4 =>
  oS (⟨[.cutR 1 ⟨[],[(0,0)],(tourmake_Stream_Next.c1p a0 a1),1,.normal,(tourmake_Stream_Next.c1q a0 a1 o2),1⟩,tT],[],via (cutP tv0 [(0,0)] (tourmake_Stream_Next.c1p a0 a1) (((tourmake_Stream_Next.c1_ok k a0 a1).ap e3)) (retwP (aI tv0 e4) (.pair T22 .unit) (a0:((List Int) × Unit)) (.one (.dp T2)) ((0:Int):Int))) (by kernel_rfl)⟩)) (fun e4 =>
  oR fun h5 =>
  oR fun h6 =>
  oB fun y7 e8 =>
  oS (⟨[.cutR 1 ⟨[],[(0,0)],(tourmake_Stream_Next.c1p a0 a1),1,.normal,(tourmake_Stream_Next.c1q a0 a1 o2),1⟩,fF,rS T2 y7],[],via (cutP tv0 [(0,0)] (tourmake_Stream_Next.c1p a0 a1) (((tourmake_Stream_Next.c1_ok k a0 a1).ap e3)) (retwP (aI (aI (aI (aI tv0 e4) h5) h6) e8) (.pair T22 .unit) (((cut a0.1 (1:Int) (List.length a0.1:Int)),()):((List Int) × Unit)) (.one (.dp T2)) (y7:Int))) (by kernel_rfl)⟩))
theorem tourmake_Stream_Next.ok (k:Nat):FnOk PR 11 (tourmake_Stream_Next.sp k) :=
 fnW_ok (t:=(.pair T22 .unit)) (ps:=(.pair T2 .unit)) (t':=(.pair T22 .unit)) (rs:=(.one (.dp T2))) (g:=fun x=>tourmake_Stream_Next k x.1 x.2.1) (tourmake_Stream_Next.cok k) hmix Tryz.func11 (code:=tourmake_Stream_Next.code) (by kernel_rfl) (by kernel_rfl) (by kernel_rfl) (by kernel_rfl) (by kernel_rfl) (by kernel_rfl) (by kernel_rfl) (by kernel_rfl) (by kernel_rfl) (fun x=>Nat.le_of_ble_eq_true (by kernel_rfl)) fun x y hy=>match (tourmake_Stream_Next.way k x.1 x.2.1).ap hy with | ⟨ans,c0,h⟩=>⟨ans,c0,via h (by kernel_rfl)⟩
noncomputable def tourmake_poly.code:Code:=Func.cd Tryz.f24
def tourmake_poly (k:Nat) (a0:((List Int) × Unit)):Option (((List Int) × Unit) × (List V26)) :=
 bnd (tourmake_Stream_Next k a0 4) fun y1 =>
 bnd (tourmake_Stream_Next k y1.1 4) fun y3 =>
 bnd (tourmake_Stream_Next k y3.1 4) fun y5 =>
 bif' (ieq y5.2 0)
 (some (y5.1,[((ineg .i64 (imul .i64 (iadd .i64 1 y1.2) 65536)),(ineg .i64 (imul .i64 (iadd .i64 1 y3.2) 65536)),()),((imul .i64 (iadd .i64 1 y1.2) 65536),(ineg .i64 (imul .i64 (iadd .i64 1 y3.2) 65536)),()),((imul .i64 (iadd .i64 1 y1.2) 65536),(imul .i64 (iadd .i64 1 y3.2) 65536),()),((ineg .i64 (imul .i64 (iadd .i64 1 y1.2) 65536)),(imul .i64 (iadd .i64 1 y3.2) 65536),())]))
 (bif' (ieq y5.2 1)
  (bnd (tourmake_Stream_Next k y5.1 (imul .i64 2 (imul .i64 (iadd .i64 1 y1.2) 65536))) fun y9 =>
  some (y9.1,[((ineg .i64 (imul .i64 (iadd .i64 1 y1.2) 65536)),(ineg .i64 (imul .i64 (iadd .i64 1 y3.2) 65536)),()),((imul .i64 (iadd .i64 1 y1.2) 65536),(ineg .i64 (imul .i64 (iadd .i64 1 y3.2) 65536)),()),((isub .i64 y9.2 (imul .i64 (iadd .i64 1 y1.2) 65536)),(imul .i64 (iadd .i64 1 y3.2) 65536),())]))
  (bif' (ieq y5.2 2)
  (some (y5.1,[((ineg .i64 (imul .i64 (iadd .i64 1 y1.2) 65536)),(ineg .i64 (imul .i64 (iadd .i64 1 y3.2) 65536)),()),((isub .i64 (imul .i64 (iadd .i64 1 y1.2) 65536) (iquo .i64 (imin (imul .i64 (iadd .i64 1 y1.2) 65536) (imul .i64 (iadd .i64 1 y3.2) 65536)) 2)),(ineg .i64 (imul .i64 (iadd .i64 1 y3.2) 65536)),()),((imul .i64 (iadd .i64 1 y1.2) 65536),(isub .i64 (iquo .i64 (imin (imul .i64 (iadd .i64 1 y1.2) 65536) (imul .i64 (iadd .i64 1 y3.2) 65536)) 2) (imul .i64 (iadd .i64 1 y3.2) 65536)),()),((imul .i64 (iadd .i64 1 y1.2) 65536),(imul .i64 (iadd .i64 1 y3.2) 65536),()),((ineg .i64 (imul .i64 (iadd .i64 1 y1.2) 65536)),(imul .i64 (iadd .i64 1 y3.2) 65536),())]))
  (some (y5.1,[((ineg .i64 (imul .i64 (iadd .i64 1 y1.2) 65536)),0,()),(0,(ineg .i64 (imul .i64 (iadd .i64 1 y3.2) 65536)),()),((imul .i64 (iadd .i64 1 y1.2) 65536),0,()),(0,(imul .i64 (iadd .i64 1 y3.2) 65536),())]))))
noncomputable def tourmake_poly.sp (k:Nat):Go.Sx.Spec:=⟨(.pair (.ref (.pair T22 .unit)) .unit),(.more (.dp (.pair T22 .unit)) (.one (.dp T36))),fun x=>tourmake_poly k x.1,true⟩
noncomputable def tourmake_poly.cx (k:Nat):Go.Sx.Ctx:=⟨tys,[(11,tourmake_Stream_Next.sp k)],eqs,96,1,[],false⟩
theorem tourmake_poly.cok (k:Nat):CtxOk PR (tourmake_poly.cx k):=ctx_ok tysOk eqsOk (fC (tourmake_Stream_Next.ok k) FnsOk.nil) HsOk.nil
@[irreducible] noncomputable def tourmake_poly.P (k:Nat) (a0:((List Int) × Unit)) (y:(((List Int) × Unit) × (List V26))) (w:List Ans) (c0:List Cmd):Prop:=exec PR (tourmake_poly.cx k) tourmake_poly.code 1 (entryW (.pair T22 .unit) .unit (a0,())).st w (RetW (tourmake_poly.cx k) Tryz.f24 c0 (.pair T22 .unit) (.one (.dp T36)) y)
theorem tourmake_poly.way (k:Nat) (a0:((List Int) × Unit)):Owp (tourmake_poly k a0) fun y=>∃ w c0,tourmake_poly.P k a0 y w c0:=by
 unfold tourmake_poly; exact
  oB fun y1 e2 =>
  oB fun y3 e4 =>
  oB fun y5 e6 =>
  oF (fun e7 =>
  oS (⟨[.res (.more (.dp (.pair T22 .unit)) (.one (.dp T2))) y1,.res (.more (.dp (.pair T22 .unit)) (.one (.dp T2))) y3,.res (.more (.dp (.pair T22 .unit)) (.one (.dp T2))) y5,tT,tT],[.freeze 2],via (retwP (aI (aI (aI (aI tv0 e2) e4) e6) e7) (.pair T22 .unit) (y5.1:((List Int) × Unit)) (.one (.dp T36)) ([((ineg .i64 (imul .i64 (iadd .i64 (1:Int) y1.2) (65536:Int))),(ineg .i64 (imul .i64 (iadd .i64 (1:Int) y3.2) (65536:Int))),()),((imul .i64 (iadd .i64 (1:Int) y1.2) (65536:Int)),(ineg .i64 (imul .i64 (iadd .i64 (1:Int) y3.2) (65536:Int))),()),((imul .i64 (iadd .i64 (1:Int) y1.2) (65536:Int)),(imul .i64 (iadd .i64 (1:Int) y3.2) (65536:Int)),()),((ineg .i64 (imul .i64 (iadd .i64 (1:Int) y1.2) (65536:Int))),(imul .i64 (iadd .i64 (1:Int) y3.2) (65536:Int)),())]:(List V26))) (by kernel_rfl)⟩)) (fun e7 =>
  oF (fun e8 =>
  oB fun y9 e10 =>
  oS (⟨[.res (.more (.dp (.pair T22 .unit)) (.one (.dp T2))) y1,.res (.more (.dp (.pair T22 .unit)) (.one (.dp T2))) y3,.res (.more (.dp (.pair T22 .unit)) (.one (.dp T2))) y5,fF,tT,.res (.more (.dp (.pair T22 .unit)) (.one (.dp T2))) y9,tT],[.freeze 2],via (retwP (aI (aI (aI (aI (aI (aI tv0 e2) e4) e6) e7) e8) e10) (.pair T22 .unit) (y9.1:((List Int) × Unit)) (.one (.dp T36)) ([((ineg .i64 (imul .i64 (iadd .i64 (1:Int) y1.2) (65536:Int))),(ineg .i64 (imul .i64 (iadd .i64 (1:Int) y3.2) (65536:Int))),()),((imul .i64 (iadd .i64 (1:Int) y1.2) (65536:Int)),(ineg .i64 (imul .i64 (iadd .i64 (1:Int) y3.2) (65536:Int))),()),((isub .i64 y9.2 (imul .i64 (iadd .i64 (1:Int) y1.2) (65536:Int))),(imul .i64 (iadd .i64 (1:Int) y3.2) (65536:Int)),())]:(List V26))) (by kernel_rfl)⟩)) (fun e8 =>
  oF (fun e11 =>
  oS (⟨[.res (.more (.dp (.pair T22 .unit)) (.one (.dp T2))) y1,.res (.more (.dp (.pair T22 .unit)) (.one (.dp T2))) y3,.res (.more (.dp (.pair T22 .unit)) (.one (.dp T2))) y5,fF,fF,tT,tT],[.freeze 2],via (retwP (aI (aI (aI (aI (aI (aI (aI tv0 e2) e4) e6) e7) e8) e11) (by decide:nz (2:Int))) (.pair T22 .unit) (y5.1:((List Int) × Unit)) (.one (.dp T36)) ([((ineg .i64 (imul .i64 (iadd .i64 (1:Int) y1.2) (65536:Int))),(ineg .i64 (imul .i64 (iadd .i64 (1:Int) y3.2) (65536:Int))),()),((isub .i64 (imul .i64 (iadd .i64 (1:Int) y1.2) (65536:Int)) (iquo .i64 (imin (imul .i64 (iadd .i64 (1:Int) y1.2) (65536:Int)) (imul .i64 (iadd .i64 (1:Int) y3.2) (65536:Int))) (2:Int))),(ineg .i64 (imul .i64 (iadd .i64 (1:Int) y3.2) (65536:Int))),()),((imul .i64 (iadd .i64 (1:Int) y1.2) (65536:Int)),(isub .i64 (iquo .i64 (imin (imul .i64 (iadd .i64 (1:Int) y1.2) (65536:Int)) (imul .i64 (iadd .i64 (1:Int) y3.2) (65536:Int))) (2:Int)) (imul .i64 (iadd .i64 (1:Int) y3.2) (65536:Int))),()),((imul .i64 (iadd .i64 (1:Int) y1.2) (65536:Int)),(imul .i64 (iadd .i64 (1:Int) y3.2) (65536:Int)),()),((ineg .i64 (imul .i64 (iadd .i64 (1:Int) y1.2) (65536:Int))),(imul .i64 (iadd .i64 (1:Int) y3.2) (65536:Int)),())]:(List V26))) (by kernel_rfl)⟩)) (fun e11 =>
  oS (⟨[.res (.more (.dp (.pair T22 .unit)) (.one (.dp T2))) y1,.res (.more (.dp (.pair T22 .unit)) (.one (.dp T2))) y3,.res (.more (.dp (.pair T22 .unit)) (.one (.dp T2))) y5,fF,fF,fF,tT],[.freeze 2],via (retwP (aI (aI (aI (aI (aI (aI tv0 e2) e4) e6) e7) e8) e11) (.pair T22 .unit) (y5.1:((List Int) × Unit)) (.one (.dp T36)) ([((ineg .i64 (imul .i64 (iadd .i64 (1:Int) y1.2) (65536:Int))),(0:Int),()),((0:Int),(ineg .i64 (imul .i64 (iadd .i64 (1:Int) y3.2) (65536:Int))),()),((imul .i64 (iadd .i64 (1:Int) y1.2) (65536:Int)),(0:Int),()),((0:Int),(imul .i64 (iadd .i64 (1:Int) y3.2) (65536:Int)),())]:(List V26))) (by kernel_rfl)⟩))))
theorem tourmake_poly.ok (k:Nat):FnOk PR 24 (tourmake_poly.sp k) :=
 fnW_ok (t:=(.pair T22 .unit)) (ps:=.unit) (t':=(.pair T22 .unit)) (rs:=(.one (.dp T36))) (g:=fun x=>tourmake_poly k x.1) (tourmake_poly.cok k) hmix Tryz.func24 (code:=tourmake_poly.code) (by kernel_rfl) (by kernel_rfl) (by kernel_rfl) (by kernel_rfl) (by kernel_rfl) (by kernel_rfl) (by kernel_rfl) (by kernel_rfl) (by kernel_rfl) (fun x=>Nat.le_of_ble_eq_true (by kernel_rfl)) fun x y hy=>match (tourmake_poly.way k x.1).ap hy with | ⟨ans,c0,h⟩=>⟨ans,c0,via h (by kernel_rfl)⟩
noncomputable def tourmake_body.code:Code:=Func.cd Tryz.f12
def tourmake_body.c1 (k:Nat) (y7:(((List Int) × Unit) × Int)) (y9:(((List Int) × Unit) × Int)):Option (Int) :=
 bif' (ieq y9.2 0)
 (some 0)
 (some y7.2)
def tourmake_body (k:Nat) (a0:((List Int) × Unit)):Option (((List Int) × Unit) × V45) :=
 bnd (tourmake_poly k a0) fun y1 =>
 bnd (tourmake_Stream_Next k y1.1 41) fun y3 =>
 bnd (tourmake_Stream_Next k y3.1 41) fun y5 =>
 bnd (tourmake_Stream_Next k y5.1 65536) fun y7 =>
 bnd (tourmake_Stream_Next k y7.1 3) fun y9 =>
 bnd (tourmake_body.c1 k y7 y9) fun o12 =>
 bnd (tourmake_Stream_Next k y9.1 65537) fun y14 =>
 bnd (tourmake_Stream_Next k y14.1 65537) fun y16 =>
 bnd (tourmake_Stream_Next k y16.1 4) fun y18 =>
 bif' (ieq y18.2 0)
 (some (y18.1,(((iquo .i64 (imul .i64 (isub .i64 y3.2 20) 65536) 2),(iquo .i64 (imul .i64 (isub .i64 y5.2 20) 65536) 2),()),(0,0,()),o12,0,0,0,y14.2,y16.2,y1.2,false,0,())))
 (bnd (tourmake_Stream_Next k y18.1 21) fun y21 =>
  bnd (tourmake_Stream_Next k y21.1 21) fun y23 =>
  bnd (tourmake_Stream_Next k y23.1 65536) fun y25 =>
  bnd (tourmake_Stream_Next k y25.1 8) fun y27 =>
  bnd (tourmake_Stream_Next k y27.1 30) fun y29 =>
  some (y29.1,(((iquo .i64 (imul .i64 (isub .i64 y3.2 20) 65536) 2),(iquo .i64 (imul .i64 (isub .i64 y5.2 20) 65536) 2),()),((iquo .i64 (imul .i64 (isub .i64 y21.2 10) 65536) 2),(iquo .i64 (imul .i64 (isub .i64 y23.2 10) 65536) 2),()),o12,(isub .i64 y25.2 32768),(imul .i64 (iadd .i64 1 y27.2) 65536),(imul .i64 (iadd .i64 1 y29.2) 65536),y14.2,y16.2,y1.2,false,0,())))
noncomputable def tourmake_body.sp (k:Nat):Go.Sx.Spec:=⟨(.pair (.ref (.pair T22 .unit)) .unit),(.more (.dp (.pair T22 .unit)) (.one (.dp T45))),fun x=>tourmake_body k x.1,true⟩
noncomputable def tourmake_body.cx (k:Nat):Go.Sx.Ctx:=⟨tys,[(24,tourmake_poly.sp k),(11,tourmake_Stream_Next.sp k)],eqs,63,1,[],false⟩
theorem tourmake_body.cok (k:Nat):CtxOk PR (tourmake_body.cx k):=ctx_ok tysOk eqsOk (fC (tourmake_poly.ok k) (fC (tourmake_Stream_Next.ok k) FnsOk.nil)) HsOk.nil
noncomputable def tourmake_body.c1p (y1:(((List Int) × Unit) × (List V26))) (y3:(((List Int) × Unit) × Int)) (y5:(((List Int) × Unit) × Int)) (y7:(((List Int) × Unit) × Int)) (y9:(((List Int) × Unit) × Int)):SL:=⟨[(0,(.val .ptr ⟨0,0,(0:Int),0,0⟩)),(2,(.val .ptr ⟨1,0,(0:Int),0,0⟩)),(3,(.val .ptr ⟨2,0,(0:Int),0,0⟩)),(24,(.val T4 (ieq y9.2 (0:Int))))],[(0,.cells (.pair T22 .unit) y9.1),(1,.cells T45 (((0:Int),(0:Int),()),((0:Int),(0:Int),()),(0:Int),(0:Int),(0:Int),(0:Int),(0:Int),(0:Int),[],false,(0:Int),())),(2,.cells T45 (((iquo .i64 (imul .i64 (isub .i64 y3.2 (20:Int)) (65536:Int)) (2:Int)),(iquo .i64 (imul .i64 (isub .i64 y5.2 (20:Int)) (65536:Int)) (2:Int)),()),((0:Int),(0:Int),()),y7.2,(0:Int),(0:Int),(0:Int),(0:Int),(0:Int),y1.2,false,(0:Int),()))]⟩
noncomputable def tourmake_body.c1q (y1:(((List Int) × Unit) × (List V26))) (y3:(((List Int) × Unit) × Int)) (y5:(((List Int) × Unit) × Int)) (y9:(((List Int) × Unit) × Int)) (o:Int):SL:=(fun v=>⟨[(0,(.val .ptr ⟨0,0,(0:Int),0,0⟩)),(2,(.val .ptr ⟨1,0,(0:Int),0,0⟩)),(3,(.val .ptr ⟨2,0,(0:Int),0,0⟩))],[(0,.cells (.pair T22 .unit) y9.1),(1,.cells T45 (((0:Int),(0:Int),()),((0:Int),(0:Int),()),(0:Int),(0:Int),(0:Int),(0:Int),(0:Int),(0:Int),[],false,(0:Int),())),(2,.cells T45 (((iquo .i64 (imul .i64 (isub .i64 y3.2 (20:Int)) (65536:Int)) (2:Int)),(iquo .i64 (imul .i64 (isub .i64 y5.2 (20:Int)) (65536:Int)) (2:Int)),()),((0:Int),(0:Int),()),v,(0:Int),(0:Int),(0:Int),(0:Int),(0:Int),y1.2,false,(0:Int),()))]⟩) o
noncomputable def tourmake_body.c1x (o:Int):Ex:=(fun _=>.normal) o
noncomputable def tourmake_body.c1n (o:Int):Nat:=(fun _=>3) o
theorem tourmake_body.c1_ok (k:Nat) (y1:(((List Int) × Unit) × (List V26))) (y3:(((List Int) × Unit) × Int)) (y5:(((List Int) × Unit) × Int)) (y7:(((List Int) × Unit) × Int)) (y9:(((List Int) × Unit) × Int)):Owp (tourmake_body.c1 k y7 y9) fun o=>Triple PR (tourmake_body.cx k) (sub tourmake_body.code [1,1,1,1,0,1]) 3 (tourmake_body.c1p y1 y3 y5 y7 y9) (tourmake_body.c1x o) (tourmake_body.c1n o) (tourmake_body.c1q y1 y3 y5 y9 o):=by
 unfold tourmake_body.c1; exact
  oF (fun e11 =>
  oS (tW (tourmake_body.cok k) hmix [tT] [] [(0,0),(1,1),(2,2)] (via (finP (aI tv0 e11) .normal [(0,0),(1,1),(2,2)] (tourmake_body.c1q y1 y3 y5 y9 (0:Int))) (by kernel_rfl)))) (fun e11 =>
  oS (tW (tourmake_body.cok k) hmix [fF] [] [(0,0),(1,1),(2,2)] (via (finP (aI tv0 e11) .normal [(0,0),(1,1),(2,2)] (tourmake_body.c1q y1 y3 y5 y9 y7.2)) (by kernel_rfl))))
@[irreducible] noncomputable def tourmake_body.P (k:Nat) (a0:((List Int) × Unit)) (y:(((List Int) × Unit) × V45)) (w:List Ans) (c0:List Cmd):Prop:=exec PR (tourmake_body.cx k) tourmake_body.code 1 (entryW (.pair T22 .unit) .unit (a0,())).st w (RetW (tourmake_body.cx k) Tryz.f12 c0 (.pair T22 .unit) (.one (.dp T45)) y)
theorem tourmake_body.way (k:Nat) (a0:((List Int) × Unit)):Owp (tourmake_body k a0) fun y=>∃ w c0,tourmake_body.P k a0 y w c0:=by
 unfold tourmake_body; exact
  oB fun y1 e2 =>
  oB fun y3 e4 =>
  oB fun y5 e6 =>
  oB fun y7 e8 =>
  oB fun y9 e10 =>
  oB fun o12 e13 =>
  oB fun y14 e15 =>
  oB fun y16 e17 =>
  oB fun y18 e19 =>
  oF (fun e20 =>
  oS (⟨[.res (.more (.dp (.pair T22 .unit)) (.one (.dp T36))) y1,.res (.more (.dp (.pair T22 .unit)) (.one (.dp T2))) y3,.res (.more (.dp (.pair T22 .unit)) (.one (.dp T2))) y5,.res (.more (.dp (.pair T22 .unit)) (.one (.dp T2))) y7,.res (.more (.dp (.pair T22 .unit)) (.one (.dp T2))) y9,.cut ⟨[],[(0,0),(1,1),(2,5)],(tourmake_body.c1p y1 y3 y5 y7 y9),3,.normal,(tourmake_body.c1q y1 y3 y5 y9 o12),3⟩,.res (.more (.dp (.pair T22 .unit)) (.one (.dp T2))) y14,.res (.more (.dp (.pair T22 .unit)) (.one (.dp T2))) y16,.res (.more (.dp (.pair T22 .unit)) (.one (.dp T2))) y18,tT],[],via (cutP (aI (aI (aI (aI (aI (aI (aI tv0 e2) e4) (by decide:nz (2:Int))) e6) (by decide:nz (2:Int))) e8) e10) [(0,0),(1,1),(2,5)] (tourmake_body.c1p y1 y3 y5 y7 y9) (((tourmake_body.c1_ok k y1 y3 y5 y7 y9).ap e13)) (retwP (aI (aI (aI (aI tv0 e15) e17) e19) e20) (.pair T22 .unit) (y18.1:((List Int) × Unit)) (.one (.dp T45)) ((((iquo .i64 (imul .i64 (isub .i64 y3.2 (20:Int)) (65536:Int)) (2:Int)),(iquo .i64 (imul .i64 (isub .i64 y5.2 (20:Int)) (65536:Int)) (2:Int)),()),((0:Int),(0:Int),()),o12,(0:Int),(0:Int),(0:Int),y14.2,y16.2,y1.2,false,(0:Int),()):V45))) (by kernel_rfl)⟩)) (fun e20 =>
  oB fun y21 e22 =>
  oB fun y23 e24 =>
  oB fun y25 e26 =>
  oB fun y27 e28 =>
  oB fun y29 e30 =>
  oS (⟨[.res (.more (.dp (.pair T22 .unit)) (.one (.dp T36))) y1,.res (.more (.dp (.pair T22 .unit)) (.one (.dp T2))) y3,.res (.more (.dp (.pair T22 .unit)) (.one (.dp T2))) y5,.res (.more (.dp (.pair T22 .unit)) (.one (.dp T2))) y7,.res (.more (.dp (.pair T22 .unit)) (.one (.dp T2))) y9,.cut ⟨[],[(0,0),(1,1),(2,5)],(tourmake_body.c1p y1 y3 y5 y7 y9),3,.normal,(tourmake_body.c1q y1 y3 y5 y9 o12),3⟩,.res (.more (.dp (.pair T22 .unit)) (.one (.dp T2))) y14,.res (.more (.dp (.pair T22 .unit)) (.one (.dp T2))) y16,.res (.more (.dp (.pair T22 .unit)) (.one (.dp T2))) y18,fF,.res (.more (.dp (.pair T22 .unit)) (.one (.dp T2))) y21,.res (.more (.dp (.pair T22 .unit)) (.one (.dp T2))) y23,.res (.more (.dp (.pair T22 .unit)) (.one (.dp T2))) y25,.res (.more (.dp (.pair T22 .unit)) (.one (.dp T2))) y27,.res (.more (.dp (.pair T22 .unit)) (.one (.dp T2))) y29],[],via (cutP (aI (aI (aI (aI (aI (aI (aI tv0 e2) e4) (by decide:nz (2:Int))) e6) (by decide:nz (2:Int))) e8) e10) [(0,0),(1,1),(2,5)] (tourmake_body.c1p y1 y3 y5 y7 y9) (((tourmake_body.c1_ok k y1 y3 y5 y7 y9).ap e13)) (retwP (aI (aI (aI (aI (aI (aI (aI (aI (aI (aI (aI tv0 e15) e17) e19) e20) e22) (by decide:nz (2:Int))) e24) (by decide:nz (2:Int))) e26) e28) e30) (.pair T22 .unit) (y29.1:((List Int) × Unit)) (.one (.dp T45)) ((((iquo .i64 (imul .i64 (isub .i64 y3.2 (20:Int)) (65536:Int)) (2:Int)),(iquo .i64 (imul .i64 (isub .i64 y5.2 (20:Int)) (65536:Int)) (2:Int)),()),((iquo .i64 (imul .i64 (isub .i64 y21.2 (10:Int)) (65536:Int)) (2:Int)),(iquo .i64 (imul .i64 (isub .i64 y23.2 (10:Int)) (65536:Int)) (2:Int)),()),o12,(isub .i64 y25.2 (32768:Int)),(imul .i64 (iadd .i64 (1:Int) y27.2) (65536:Int)),(imul .i64 (iadd .i64 (1:Int) y29.2) (65536:Int)),y14.2,y16.2,y1.2,false,(0:Int),()):V45))) (by kernel_rfl)⟩))
theorem tourmake_body.ok (k:Nat):FnOk PR 12 (tourmake_body.sp k) :=
 fnW_ok (t:=(.pair T22 .unit)) (ps:=.unit) (t':=(.pair T22 .unit)) (rs:=(.one (.dp T45))) (g:=fun x=>tourmake_body k x.1) (tourmake_body.cok k) hmix Tryz.func12 (code:=tourmake_body.code) (by kernel_rfl) (by kernel_rfl) (by kernel_rfl) (by kernel_rfl) (by kernel_rfl) (by kernel_rfl) (by kernel_rfl) (by kernel_rfl) (by kernel_rfl) (fun x=>Nat.le_of_ble_eq_true (by kernel_rfl)) fun x y hy=>match (tourmake_body.way k x.1).ap hy with | ⟨ans,c0,h⟩=>⟨ans,c0,via h (by kernel_rfl)⟩
noncomputable def tourmake_Scene.code:Code:=Func.cd Tryz.f4
def tourmake_Scene.c1 (k:Nat) (y6:(((List Int) × Unit) × Int)):Nat→Int→((List Int) × Unit)→(List V45)→Option ((((List Int) × Unit) × (List V45)))
 | 0,_,_,_=>none
 | n+1,v8,v9,v10 =>
  bif' (ilt v8 y6.2)
  (bnd (tourmake_body k v9) fun y12 =>
  req (room 120 v10 [y12.2]) <|tourmake_Scene.c1 k y6 n (iadd .i64 v8 1) y12.1 (v10++[y12.2]))
  (some (v9,v10))
def tourmake_Scene.c2 (k:Nat) (o15:(((List Int) × Unit) × (List V45))):Option ((Bool × ((List Int) × Unit))) :=
 bif' (igt (len o15.2) 1)
 (req (inL 0 o15.2) <|req (inL 1 o15.2) <|bif' (igt (iadd .i64 (el Z45 o15.2 0).2.2.2.2.1 (el Z45 o15.2 1).2.2.2.2.1) 0)
  (bnd (tourmake_Stream_Next k o15.1 3) fun y21 =>
  some ((ieq y21.2 0),y21.1))
  (some (false,o15.1)))
 (some (false,o15.1))
def tourmake_Scene (k:Nat) (a0:(List Int)):Option V28 :=
 bnd (tourmake_Stream_Next k (a0,()) 11) fun y1 =>
 bnd (tourmake_Stream_Next k y1.1 60) fun y3 =>
 req (nz (iadd .i64 20 y3.2)) <|bnd (tourmake_Stream_Next k y3.1 6) fun y6 =>
 bnd (tourmake_Scene.c1 k y6 k 0 y6.1 []) fun o15 =>
 bnd (tourmake_Scene.c2 k o15) fun o23 =>
 bif' o23.1
 (bnd (tourmake_Stream_Next k o23.2 6) fun y26 =>
  some (o15.2,[(0,1,(0,0,()),(0,0,()),(imul .i64 y26.2 65536),())],[],(0,(imul .i64 (ineg .i64 y1.2) 65536),()),(iquo .i64 65536 (iadd .i64 20 y3.2)),()))
 (some (o15.2,[],[],(0,(imul .i64 (ineg .i64 y1.2) 65536),()),(iquo .i64 65536 (iadd .i64 20 y3.2)),()))
noncomputable def tourmake_Scene.sp (k:Nat):Go.Sx.Spec:=⟨(.pair T22 .unit),(.one (.dp T28)),fun x=>tourmake_Scene k x.1,false⟩
noncomputable def tourmake_Scene.cx (k:Nat):Go.Sx.Ctx:=⟨tys,[(11,tourmake_Stream_Next.sp k),(12,tourmake_body.sp k)],eqs,63,0,[],true⟩
theorem tourmake_Scene.cok (k:Nat):CtxOk PR (tourmake_Scene.cx k):=ctx_ok tysOk eqsOk (fC (tourmake_Stream_Next.ok k) (fC (tourmake_body.ok k) FnsOk.nil)) HsOk.nil
noncomputable def tourmake_Scene.c1p (y1:(((List Int) × Unit) × Int)) (y3:(((List Int) × Unit) × Int)) (y6:(((List Int) × Unit) × Int)) (v8:Int) (v9:((List Int) × Unit)) (v10:(List V45)):SL:=⟨[(2,(.val .ptr ⟨0,0,(0:Int),0,0⟩)),(3,(.val .ptr ⟨1,0,(0:Int),0,0⟩)),(4,(.val .ptr ⟨2,0,(0:Int),0,0⟩)),(19,(.val T2 y6.2)),(20,(.val T2 v8))],[(0,.cells (.pair .nil (.pair .nil (.pair .nil (.pair T26 (.pair T2 .unit))))) ((),(),(),((0:Int),(0:Int),()),(0:Int),())),(1,.cells (.pair T22 .unit) v9),(2,.cells (.pair .own (.pair .nil (.pair .nil (.pair T26 (.pair T2 .unit))))) ((3:Nat),((),(),((0:Int),(imul .i64 (ineg .i64 y1.2) (65536:Int)),()),(iquo .i64 (65536:Int) (iadd .i64 (20:Int) y3.2)),()))),(3,.row T45 v10 46)]⟩
noncomputable def tourmake_Scene.c1q (y1:(((List Int) × Unit) × Int)) (y3:(((List Int) × Unit) × Int)) (o:(((List Int) × Unit) × (List V45))):SL:=(fun v=>⟨[(2,(.val .ptr ⟨0,0,(0:Int),0,0⟩)),(3,(.val .ptr ⟨1,0,(0:Int),0,0⟩)),(4,(.val .ptr ⟨2,0,(0:Int),0,0⟩))],[(0,.cells (.pair .nil (.pair .nil (.pair .nil (.pair T26 (.pair T2 .unit))))) ((),(),(),((0:Int),(0:Int),()),(0:Int),())),(1,.cells (.pair T22 .unit) v.1),(2,.cells (.pair .own (.pair .nil (.pair .nil (.pair T26 (.pair T2 .unit))))) ((3:Nat),((),(),((0:Int),(imul .i64 (ineg .i64 y1.2) (65536:Int)),()),(iquo .i64 (65536:Int) (iadd .i64 (20:Int) y3.2)),()))),(3,.row T45 v.2 46)]⟩) o
noncomputable def tourmake_Scene.c1x (o:(((List Int) × Unit) × (List V45))):Ex:=(fun _=>(.exit 0)) o
noncomputable def tourmake_Scene.c1n (o:(((List Int) × Unit) × (List V45))):Nat:=(fun _=>4) o
theorem tourmake_Scene.c1_ok (k:Nat) (y1:(((List Int) × Unit) × Int)) (y3:(((List Int) × Unit) × Int)) (y6:(((List Int) × Unit) × Int)):∀ (n:Nat) (v8:Int) (v9:((List Int) × Unit)) (v10:(List V45)),Owp (tourmake_Scene.c1 k y6 n v8 v9 v10) fun o=>LTriple PR (tourmake_Scene.cx k) (sub tourmake_Scene.code [1,1,1,0,1,0,0]) 4 (tourmake_Scene.c1p y1 y3 y6 v8 v9 v10) (tourmake_Scene.c1x o) (tourmake_Scene.c1n o) (tourmake_Scene.c1q y1 y3 o)
 | 0,_,_,_=>fun _ h=>nomatch h
 | n+1,v8,v9,v10=>Owp.of (tourmake_Scene.c1.eq_2 ..) (
  oF (fun e11 =>
  oB fun y12 e13 =>
  oR fun h14 =>
  fun y hy=>loop_back (tourmake_Scene.cok k) hmix 4 (tourmake_Scene.c1p y1 y3 y6 (iadd .i64 v8 (1:Int)) y12.1 (v10++[y12.2])) [tT,.res (.more (.dp (.pair T22 .unit)) (.one (.dp T45))) y12,tT] [] [(0,0),(1,1),(2,2),(3,10)] (via (finP (aI (aI (aI tv0 e11) e13) h14) .normal [(0,0),(1,1),(2,2),(3,10)] (tourmake_Scene.c1p y1 y3 y6 (iadd .i64 v8 (1:Int)) y12.1 (v10++[y12.2]))) (by kernel_rfl)) ((tourmake_Scene.c1_ok k y1 y3 y6 n (iadd .i64 v8 (1:Int)) y12.1 (v10++[y12.2])).ap hy)) (fun e11 =>
  oS (loop_exit (tourmake_Scene.cok k) hmix [fF] [] [(0,0),(1,1),(2,2),(3,3)] (exne 0) (via (finP (aI tv0 e11) (.exit 0) [(0,0),(1,1),(2,2),(3,3)] (tourmake_Scene.c1q y1 y3 (v9,v10))) (by kernel_rfl)))))
noncomputable def tourmake_Scene.c2p (o15:(((List Int) × Unit) × (List V45))) (y1:(((List Int) × Unit) × Int)) (y3:(((List Int) × Unit) × Int)):SL:=⟨[(2,(.val .ptr ⟨0,0,(0:Int),0,0⟩)),(3,(.val .ptr ⟨1,0,(0:Int),0,0⟩)),(4,(.val .ptr ⟨2,0,(0:Int),0,0⟩))],[(0,.cells (.pair .nil (.pair .nil (.pair .nil (.pair T26 (.pair T2 .unit))))) ((),(),(),((0:Int),(0:Int),()),(0:Int),())),(1,.cells (.pair T22 .unit) o15.1),(2,.cells (.pair .own (.pair .nil (.pair .nil (.pair T26 (.pair T2 .unit))))) ((3:Nat),((),(),((0:Int),(imul .i64 (ineg .i64 y1.2) (65536:Int)),()),(iquo .i64 (65536:Int) (iadd .i64 (20:Int) y3.2)),()))),(3,.row T45 o15.2 46)]⟩
noncomputable def tourmake_Scene.c2q (o15:(((List Int) × Unit) × (List V45))) (y1:(((List Int) × Unit) × Int)) (y3:(((List Int) × Unit) × Int)) (o:(Bool × ((List Int) × Unit))):SL:=(fun v=>⟨[(2,(.val .ptr ⟨0,0,(0:Int),0,0⟩)),(3,(.val .ptr ⟨1,0,(0:Int),0,0⟩)),(4,(.val .ptr ⟨2,0,(0:Int),0,0⟩)),(52,(.val T4 v.1))],[(0,.cells (.pair .nil (.pair .nil (.pair .nil (.pair T26 (.pair T2 .unit))))) ((),(),(),((0:Int),(0:Int),()),(0:Int),())),(1,.cells (.pair T22 .unit) v.2),(2,.cells (.pair .own (.pair .nil (.pair .nil (.pair T26 (.pair T2 .unit))))) ((3:Nat),((),(),((0:Int),(imul .i64 (ineg .i64 y1.2) (65536:Int)),()),(iquo .i64 (65536:Int) (iadd .i64 (20:Int) y3.2)),()))),(3,.row T45 o15.2 46)]⟩) o
noncomputable def tourmake_Scene.c2x (o:(Bool × ((List Int) × Unit))):Ex:=(fun _=>.normal) o
noncomputable def tourmake_Scene.c2n (o:(Bool × ((List Int) × Unit))):Nat:=(fun _=>4) o
theorem tourmake_Scene.c2_ok (k:Nat) (o15:(((List Int) × Unit) × (List V45))) (y1:(((List Int) × Unit) × Int)) (y3:(((List Int) × Unit) × Int)):Owp (tourmake_Scene.c2 k o15) fun o=>Triple PR (tourmake_Scene.cx k) (sub tourmake_Scene.code [1,1,1,1,0,0]) 4 (tourmake_Scene.c2p o15 y1 y3) (tourmake_Scene.c2x o) (tourmake_Scene.c2n o) (tourmake_Scene.c2q o15 y1 y3 o):=by
 unfold tourmake_Scene.c2; exact
  oF (fun e17 =>
  oR fun h18 =>
  oR fun h19 =>
  oF (fun e20 =>
  oB fun y21 e22 =>
  oS (tW (tourmake_Scene.cok k) hmix [tT,tT,tT,tT,tT,tT,tT,tT,tT,tT,tT,tT,tT,tT,tT,.res (.more (.dp (.pair T22 .unit)) (.one (.dp T2))) y21,tT,tT] [] [(0,0),(1,1),(2,2),(3,3)] (via (finP (aI (aI (aI (aI (aI (aI (aI (aI (aI (aI (aI (aI (aI (aI (aI (aI (aI tv0 e17) e17) (aI e17 h18)) e17) (aI e17 h18)) e17) e17) (aI e17 h19)) e17) (aI e17 h19)) e17) e17) e17) e20) (aI e20 e22)) e20) e20) .normal [(0,0),(1,1),(2,2),(3,3)] (tourmake_Scene.c2q o15 y1 y3 ((ieq y21.2 (0:Int)),y21.1))) (by kernel_rfl)))) (fun e20 =>
  oS (tW (tourmake_Scene.cok k) hmix [tT,tT,tT,tT,tT,tT,tT,tT,tT,tT,tT,tT,tT,fF,fF,tT,fF,fF] [] [(0,0),(1,1),(2,2),(3,3)] (via (finP (aI (aI (aI (aI (aI (aI (aI (aI (aI (aI (aI (aI (aI (aI (aI (aI (aI tv0 e17) e17) (aI e17 h18)) e17) (aI e17 h18)) e17) e17) (aI e17 h19)) e17) (aI e17 h19)) e17) e17) e17) e20) e20) e20) e20) .normal [(0,0),(1,1),(2,2),(3,3)] (tourmake_Scene.c2q o15 y1 y3 (false,o15.1))) (by kernel_rfl))))) (fun e17 =>
  oS (tW (tourmake_Scene.cok k) hmix [fF,fF,fF,fF,fF,fF,fF,fF,fF,fF,fF,fF,fF,fF,fF,tT,fF,fF] [] [(0,0),(1,1),(2,2),(3,3)] (via (finP (aI (aI (aI (aI (aI (aI (aI (aI (aI (aI (aI (aI (aI (aI (aI (aI (aI tv0 e17) e17) e17) e17) e17) e17) e17) e17) e17) e17) e17) e17) e17) ff) ff) ff) ff) .normal [(0,0),(1,1),(2,2),(3,3)] (tourmake_Scene.c2q o15 y1 y3 (false,o15.1))) (by kernel_rfl))))
theorem tourmake_Scene.way (k:Nat) (a0:(List Int)):Owp (tourmake_Scene k a0) fun y=>∃ w c0,exec PR (tourmake_Scene.cx k) tourmake_Scene.code 0 (entry (.pair T22 .unit) (a0,())).st w (Ret (tourmake_Scene.cx k) Tryz.f4 c0 (.one (.dp T28)) y):=by
 unfold tourmake_Scene; exact
  oB fun y1 e2 =>
  oB fun y3 e4 =>
  oR fun h5 =>
  oB fun y6 e7 =>
  oB fun o15 e16 =>
  oB fun o23 e24 =>
  oF (fun e25 =>
  oB fun y26 e27 =>
  oS (⟨[.res (.more (.dp (.pair T22 .unit)) (.one (.dp T2))) y1,.res (.more (.dp (.pair T22 .unit)) (.one (.dp T2))) y3,.res (.more (.dp (.pair T22 .unit)) (.one (.dp T2))) y6,.cut ⟨[.ownF 15 0 T45 46],[(0,0),(1,3),(2,15),(3,20)],(tourmake_Scene.c1p y1 y3 y6 (0:Int) y6.1 []),4,(.exit 0),(tourmake_Scene.c1q y1 y3 o15),4⟩,.cutR 7 ⟨[],[(0,0),(1,1),(2,2),(3,3)],(tourmake_Scene.c2p o15 y1 y3),4,.normal,(tourmake_Scene.c2q o15 y1 y3 o23),4⟩,tT,.res (.more (.dp (.pair T22 .unit)) (.one (.dp T2))) y26,tT],[.frzF 0 0,.frzF 0 1,.deepF 0 2 T102],via (cutP (aI (aI (aI (aI tv0 e2) e4) h5) e7) [(0,0),(1,3),(2,15),(3,20)] (tourmake_Scene.c1p y1 y3 y6 (0:Int) y6.1 []) (((tourmake_Scene.c1_ok k y1 y3 y6 k (0:Int) y6.1 []).ap e16).triple) (cutP tv0 [(0,0),(1,1),(2,2),(3,3)] (tourmake_Scene.c2p o15 y1 y3) (((tourmake_Scene.c2_ok k o15 y1 y3).ap e24)) (retP (aI (aI (aI tv0 e25) e27) (by show roomFor _ _ _; unfold roomFor; exact Nat.le_of_ble_eq_true (by kernel_rfl):room0 56 [((0:Int),(1:Int),((0:Int),(0:Int),()),((0:Int),(0:Int),()),(imul .i64 y26.2 (65536:Int)),())])) (.one (.dp T28)) ((o15.2,[((0:Int),(1:Int),((0:Int),(0:Int),()),((0:Int),(0:Int),()),(imul .i64 y26.2 (65536:Int)),())],[],((0:Int),(imul .i64 (ineg .i64 y1.2) (65536:Int)),()),(iquo .i64 (65536:Int) (iadd .i64 (20:Int) y3.2)),()):V28)))) (by kernel_rfl)⟩)) (fun e25 =>
  oS (⟨[.res (.more (.dp (.pair T22 .unit)) (.one (.dp T2))) y1,.res (.more (.dp (.pair T22 .unit)) (.one (.dp T2))) y3,.res (.more (.dp (.pair T22 .unit)) (.one (.dp T2))) y6,.cut ⟨[.ownF 15 0 T45 46],[(0,0),(1,3),(2,15),(3,20)],(tourmake_Scene.c1p y1 y3 y6 (0:Int) y6.1 []),4,(.exit 0),(tourmake_Scene.c1q y1 y3 o15),4⟩,.cutR 7 ⟨[],[(0,0),(1,1),(2,2),(3,3)],(tourmake_Scene.c2p o15 y1 y3),4,.normal,(tourmake_Scene.c2q o15 y1 y3 o23),4⟩,fF],[.frzF 0 0,.deepF 0 1 T48,.deepF 0 2 T102],via (cutP (aI (aI (aI (aI tv0 e2) e4) h5) e7) [(0,0),(1,3),(2,15),(3,20)] (tourmake_Scene.c1p y1 y3 y6 (0:Int) y6.1 []) (((tourmake_Scene.c1_ok k y1 y3 y6 k (0:Int) y6.1 []).ap e16).triple) (cutP tv0 [(0,0),(1,1),(2,2),(3,3)] (tourmake_Scene.c2p o15 y1 y3) (((tourmake_Scene.c2_ok k o15 y1 y3).ap e24)) (retP (aI tv0 e25) (.one (.dp T28)) ((o15.2,[],[],((0:Int),(imul .i64 (ineg .i64 y1.2) (65536:Int)),()),(iquo .i64 (65536:Int) (iadd .i64 (20:Int) y3.2)),()):V28)))) (by kernel_rfl)⟩))
theorem tourmake_Scene.ok (k:Nat):FnOk PR 4 (tourmake_Scene.sp k) :=
 fn_ok (tourmake_Scene.cok k) hmix Tryz.func4 (code:=tourmake_Scene.code) (by kernel_rfl) (by kernel_rfl) (by kernel_rfl) rfl rfl (by kernel_rfl) (by kernel_rfl) (by kernel_rfl) (fun x=>Nat.le_of_ble_eq_true (by kernel_rfl)) fun x y hy=>(tourmake_Scene.way k x.1).ap hy
end Go.Proofs.T1
