import Derived.Test.YtipddonkkhjegaaGreatG0
import Derived.Test.YtipddonkkhjegaaGreatG3
namespace Go.Proofs.T1
open Go Go.Sx Go.Proofs
set_option maxRecDepth 100000
set_option linter.unusedVariables false
noncomputable def tourkeep2_same.code:Code:=Func.cd Tryz.f28
def tourkeep2_same (k:Nat) (a0 a1:V57):Option Bool :=
 bnd (slices_Equal_58 k a0.2.2.2.2.2.2.2.2.1 a1.2.2.2.2.2.2.2.2.1) fun y1 =>
 bif' y1
 (bif' (Ty.eqb T26 a0.1 a1.1)
  (bif' (Ty.eqb T26 a0.2.1 a1.2.1)
  (bif' (ieq a0.2.2.1 a1.2.2.1)
  (bif' (ieq a0.2.2.2.1 a1.2.2.2.1)
  (bif' (ieq a0.2.2.2.2.1 a1.2.2.2.2.1)
  (bif' (ieq a0.2.2.2.2.2.1 a1.2.2.2.2.2.1)
  (bif' (ieq a0.2.2.2.2.2.2.1 a1.2.2.2.2.2.2.1)
  (bif' (ieq a0.2.2.2.2.2.2.2.1 a1.2.2.2.2.2.2.2.1)
  (bif' (Ty.eqb T4 a0.2.2.2.2.2.2.2.2.2.1 a1.2.2.2.2.2.2.2.2.2.1)
  (some (ieq a0.2.2.2.2.2.2.2.2.2.2.1 a1.2.2.2.2.2.2.2.2.2.2.1))
  (some false))
  (some false))
  (some false))
  (some false))
  (some false))
  (some false))
  (some false))
  (some false))
  (some false))
 (some false)
noncomputable def tourkeep2_same.sp (k:Nat):Go.Sx.Spec:=⟨(.pair T57 (.pair T57 .unit)),(.one (.dp T4)),fun x=>tourkeep2_same k x.1 x.2.1,false⟩
noncomputable def tourkeep2_same.cx (k:Nat):Go.Sx.Ctx:=⟨tys,[(58,slices_Equal_58.sp k)],eqs,86,0,[],false⟩
theorem tourkeep2_same.cok (k:Nat):CtxOk PR (tourkeep2_same.cx k):=ctx_ok tysOk eqsOk (fC (slices_Equal_58.ok k) FnsOk.nil) HsOk.nil
theorem tourkeep2_same.way (k:Nat) (a0 a1:V57):Owp (tourkeep2_same k a0 a1) fun y=>∃ w c0,exec PR (tourkeep2_same.cx k) tourkeep2_same.code 0 (entry (.pair T57 (.pair T57 .unit)) (a0,a1,())).st w (Ret (tourkeep2_same.cx k) Tryz.f28 c0 (.one (.dp T4)) y):=by
 unfold tourkeep2_same; exact
  oB fun y1 e2 =>
  oF (fun e3 =>
  oF (fun e4 =>
  oF (fun e5 =>
  oF (fun e6 =>
  oF (fun e7 =>
  oF (fun e8 =>
  oF (fun e9 =>
  oF (fun e10 =>
  oF (fun e11 =>
  oF (fun e12 =>
  oS (⟨[rS T4 y1,tT,tT,tT,tT,tT,tT,tT,tT,tT,tT,tT,tT,tT,tT,tT,tT,tT,tT,tT,tT,tT,tT,tT,tT,tT,tT,tT,tT,tT,tT,tT,tT,tT,tT,tT,tT,tT,tT,tT,tT,tT,tT,tT,tT,tT,tT,tT,tT,tT,tT,tT,tT,tT,tT,tT,tT,tT,tT,tT,tT],[],via (retP (aI (aI (aI (aI (aI (aI (aI (aI (aI (aI (aI (aI (aI (aI (aI (aI (aI (aI (aI (aI (aI (aI (aI (aI (aI (aI (aI (aI (aI (aI (aI (aI (aI (aI (aI (aI (aI (aI (aI (aI (aI (aI (aI (aI (aI (aI (aI (aI (aI (aI (aI (aI (aI (aI (aI (aI (aI (aI (aI (aI (aI tv0 e2) e3) e3) e3) e3) e3) e3) e4) e4) e4) e4) e4) e4) e5) e5) e5) e5) e5) e5) e6) e6) e6) e6) e6) e6) e7) e7) e7) e7) e7) e7) e8) e8) e8) e8) e8) e8) e9) e9) e9) e9) e9) e9) e10) e10) e10) e10) e10) e10) e11) e11) e11) e11) e11) e11) e12) e12) e12) e12) e12) e12) (.one (.dp T4)) ((ieq a0.2.2.2.2.2.2.2.2.2.2.1 a1.2.2.2.2.2.2.2.2.2.2.1):Bool)) (by kernel_rfl)⟩)) (fun e12 =>
  oS (⟨[rS T4 y1,tT,tT,tT,tT,tT,tT,tT,tT,tT,tT,tT,tT,tT,tT,tT,tT,tT,tT,tT,tT,tT,tT,tT,tT,tT,tT,tT,tT,tT,tT,tT,tT,tT,tT,tT,tT,tT,tT,tT,tT,tT,tT,tT,tT,tT,tT,tT,tT,tT,tT,tT,tT,tT,tT,fF,fF,fF,fF,fF,fF],[],via (retP (aI (aI (aI (aI (aI (aI (aI (aI (aI (aI (aI (aI (aI (aI (aI (aI (aI (aI (aI (aI (aI (aI (aI (aI (aI (aI (aI (aI (aI (aI (aI (aI (aI (aI (aI (aI (aI (aI (aI (aI (aI (aI (aI (aI (aI (aI (aI (aI (aI (aI (aI (aI (aI (aI (aI (aI (aI (aI (aI (aI (aI tv0 e2) e3) e3) e3) e3) e3) e3) e4) e4) e4) e4) e4) e4) e5) e5) e5) e5) e5) e5) e6) e6) e6) e6) e6) e6) e7) e7) e7) e7) e7) e7) e8) e8) e8) e8) e8) e8) e9) e9) e9) e9) e9) e9) e10) e10) e10) e10) e10) e10) e11) e11) e11) e11) e11) e11) e12) e12) e12) e12) e12) e12) (.one (.dp T4)) (false:Bool)) (by kernel_rfl)⟩))) (fun e11 =>
  oS (⟨[rS T4 y1,tT,tT,tT,tT,tT,tT,tT,tT,tT,tT,tT,tT,tT,tT,tT,tT,tT,tT,tT,tT,tT,tT,tT,tT,tT,tT,tT,tT,tT,tT,tT,tT,tT,tT,tT,tT,tT,tT,tT,tT,tT,tT,tT,tT,tT,tT,tT,tT,fF,fF,fF,fF,fF,fF,fF,fF,fF,fF,fF,fF],[],via (retP (aI (aI (aI (aI (aI (aI (aI (aI (aI (aI (aI (aI (aI (aI (aI (aI (aI (aI (aI (aI (aI (aI (aI (aI (aI (aI (aI (aI (aI (aI (aI (aI (aI (aI (aI (aI (aI (aI (aI (aI (aI (aI (aI (aI (aI (aI (aI (aI (aI (aI (aI (aI (aI (aI (aI (aI (aI (aI (aI (aI (aI tv0 e2) e3) e3) e3) e3) e3) e3) e4) e4) e4) e4) e4) e4) e5) e5) e5) e5) e5) e5) e6) e6) e6) e6) e6) e6) e7) e7) e7) e7) e7) e7) e8) e8) e8) e8) e8) e8) e9) e9) e9) e9) e9) e9) e10) e10) e10) e10) e10) e10) e11) e11) e11) e11) e11) e11) ff) ff) ff) ff) ff) ff) (.one (.dp T4)) (false:Bool)) (by kernel_rfl)⟩))) (fun e10 =>
  oS (⟨[rS T4 y1,tT,tT,tT,tT,tT,tT,tT,tT,tT,tT,tT,tT,tT,tT,tT,tT,tT,tT,tT,tT,tT,tT,tT,tT,tT,tT,tT,tT,tT,tT,tT,tT,tT,tT,tT,tT,tT,tT,tT,tT,tT,tT,fF,fF,fF,fF,fF,fF,fF,fF,fF,fF,fF,fF,fF,fF,fF,fF,fF,fF],[],via (retP (aI (aI (aI (aI (aI (aI (aI (aI (aI (aI (aI (aI (aI (aI (aI (aI (aI (aI (aI (aI (aI (aI (aI (aI (aI (aI (aI (aI (aI (aI (aI (aI (aI (aI (aI (aI (aI (aI (aI (aI (aI (aI (aI (aI (aI (aI (aI (aI (aI (aI (aI (aI (aI (aI (aI (aI (aI (aI (aI (aI (aI tv0 e2) e3) e3) e3) e3) e3) e3) e4) e4) e4) e4) e4) e4) e5) e5) e5) e5) e5) e5) e6) e6) e6) e6) e6) e6) e7) e7) e7) e7) e7) e7) e8) e8) e8) e8) e8) e8) e9) e9) e9) e9) e9) e9) e10) e10) e10) e10) e10) e10) ff) ff) ff) ff) ff) ff) ff) ff) ff) ff) ff) ff) (.one (.dp T4)) (false:Bool)) (by kernel_rfl)⟩))) (fun e9 =>
  oS (⟨[rS T4 y1,tT,tT,tT,tT,tT,tT,tT,tT,tT,tT,tT,tT,tT,tT,tT,tT,tT,tT,tT,tT,tT,tT,tT,tT,tT,tT,tT,tT,tT,tT,tT,tT,tT,tT,tT,tT,fF,fF,fF,fF,fF,fF,fF,fF,fF,fF,fF,fF,fF,fF,fF,fF,fF,fF,fF,fF,fF,fF,fF,fF],[],via (retP (aI (aI (aI (aI (aI (aI (aI (aI (aI (aI (aI (aI (aI (aI (aI (aI (aI (aI (aI (aI (aI (aI (aI (aI (aI (aI (aI (aI (aI (aI (aI (aI (aI (aI (aI (aI (aI (aI (aI (aI (aI (aI (aI (aI (aI (aI (aI (aI (aI (aI (aI (aI (aI (aI (aI (aI (aI (aI (aI (aI (aI tv0 e2) e3) e3) e3) e3) e3) e3) e4) e4) e4) e4) e4) e4) e5) e5) e5) e5) e5) e5) e6) e6) e6) e6) e6) e6) e7) e7) e7) e7) e7) e7) e8) e8) e8) e8) e8) e8) e9) e9) e9) e9) e9) e9) ff) ff) ff) ff) ff) ff) ff) ff) ff) ff) ff) ff) ff) ff) ff) ff) ff) ff) (.one (.dp T4)) (false:Bool)) (by kernel_rfl)⟩))) (fun e8 =>
  oS (⟨[rS T4 y1,tT,tT,tT,tT,tT,tT,tT,tT,tT,tT,tT,tT,tT,tT,tT,tT,tT,tT,tT,tT,tT,tT,tT,tT,tT,tT,tT,tT,tT,tT,fF,fF,fF,fF,fF,fF,fF,fF,fF,fF,fF,fF,fF,fF,fF,fF,fF,fF,fF,fF,fF,fF,fF,fF,fF,fF,fF,fF,fF,fF],[],via (retP (aI (aI (aI (aI (aI (aI (aI (aI (aI (aI (aI (aI (aI (aI (aI (aI (aI (aI (aI (aI (aI (aI (aI (aI (aI (aI (aI (aI (aI (aI (aI (aI (aI (aI (aI (aI (aI (aI (aI (aI (aI (aI (aI (aI (aI (aI (aI (aI (aI (aI (aI (aI (aI (aI (aI (aI (aI (aI (aI (aI (aI tv0 e2) e3) e3) e3) e3) e3) e3) e4) e4) e4) e4) e4) e4) e5) e5) e5) e5) e5) e5) e6) e6) e6) e6) e6) e6) e7) e7) e7) e7) e7) e7) e8) e8) e8) e8) e8) e8) ff) ff) ff) ff) ff) ff) ff) ff) ff) ff) ff) ff) ff) ff) ff) ff) ff) ff) ff) ff) ff) ff) ff) ff) (.one (.dp T4)) (false:Bool)) (by kernel_rfl)⟩))) (fun e7 =>
  oS (⟨[rS T4 y1,tT,tT,tT,tT,tT,tT,tT,tT,tT,tT,tT,tT,tT,tT,tT,tT,tT,tT,tT,tT,tT,tT,tT,tT,fF,fF,fF,fF,fF,fF,fF,fF,fF,fF,fF,fF,fF,fF,fF,fF,fF,fF,fF,fF,fF,fF,fF,fF,fF,fF,fF,fF,fF,fF,fF,fF,fF,fF,fF,fF],[],via (retP (aI (aI (aI (aI (aI (aI (aI (aI (aI (aI (aI (aI (aI (aI (aI (aI (aI (aI (aI (aI (aI (aI (aI (aI (aI (aI (aI (aI (aI (aI (aI (aI (aI (aI (aI (aI (aI (aI (aI (aI (aI (aI (aI (aI (aI (aI (aI (aI (aI (aI (aI (aI (aI (aI (aI (aI (aI (aI (aI (aI (aI tv0 e2) e3) e3) e3) e3) e3) e3) e4) e4) e4) e4) e4) e4) e5) e5) e5) e5) e5) e5) e6) e6) e6) e6) e6) e6) e7) e7) e7) e7) e7) e7) ff) ff) ff) ff) ff) ff) ff) ff) ff) ff) ff) ff) ff) ff) ff) ff) ff) ff) ff) ff) ff) ff) ff) ff) ff) ff) ff) ff) ff) ff) (.one (.dp T4)) (false:Bool)) (by kernel_rfl)⟩))) (fun e6 =>
  oS (⟨[rS T4 y1,tT,tT,tT,tT,tT,tT,tT,tT,tT,tT,tT,tT,tT,tT,tT,tT,tT,tT,fF,fF,fF,fF,fF,fF,fF,fF,fF,fF,fF,fF,fF,fF,fF,fF,fF,fF,fF,fF,fF,fF,fF,fF,fF,fF,fF,fF,fF,fF,fF,fF,fF,fF,fF,fF,fF,fF,fF,fF,fF,fF],[],via (retP (aI (aI (aI (aI (aI (aI (aI (aI (aI (aI (aI (aI (aI (aI (aI (aI (aI (aI (aI (aI (aI (aI (aI (aI (aI (aI (aI (aI (aI (aI (aI (aI (aI (aI (aI (aI (aI (aI (aI (aI (aI (aI (aI (aI (aI (aI (aI (aI (aI (aI (aI (aI (aI (aI (aI (aI (aI (aI (aI (aI (aI tv0 e2) e3) e3) e3) e3) e3) e3) e4) e4) e4) e4) e4) e4) e5) e5) e5) e5) e5) e5) e6) e6) e6) e6) e6) e6) ff) ff) ff) ff) ff) ff) ff) ff) ff) ff) ff) ff) ff) ff) ff) ff) ff) ff) ff) ff) ff) ff) ff) ff) ff) ff) ff) ff) ff) ff) ff) ff) ff) ff) ff) ff) (.one (.dp T4)) (false:Bool)) (by kernel_rfl)⟩))) (fun e5 =>
  oS (⟨[rS T4 y1,tT,tT,tT,tT,tT,tT,tT,tT,tT,tT,tT,tT,fF,fF,fF,fF,fF,fF,fF,fF,fF,fF,fF,fF,fF,fF,fF,fF,fF,fF,fF,fF,fF,fF,fF,fF,fF,fF,fF,fF,fF,fF,fF,fF,fF,fF,fF,fF,fF,fF,fF,fF,fF,fF,fF,fF,fF,fF,fF,fF],[],via (retP (aI (aI (aI (aI (aI (aI (aI (aI (aI (aI (aI (aI (aI (aI (aI (aI (aI (aI (aI (aI (aI (aI (aI (aI (aI (aI (aI (aI (aI (aI (aI (aI (aI (aI (aI (aI (aI (aI (aI (aI (aI (aI (aI (aI (aI (aI (aI (aI (aI (aI (aI (aI (aI (aI (aI (aI (aI (aI (aI (aI (aI tv0 e2) e3) e3) e3) e3) e3) e3) e4) e4) e4) e4) e4) e4) e5) e5) e5) e5) e5) e5) ff) ff) ff) ff) ff) ff) ff) ff) ff) ff) ff) ff) ff) ff) ff) ff) ff) ff) ff) ff) ff) ff) ff) ff) ff) ff) ff) ff) ff) ff) ff) ff) ff) ff) ff) ff) ff) ff) ff) ff) ff) ff) (.one (.dp T4)) (false:Bool)) (by kernel_rfl)⟩))) (fun e4 =>
  oS (⟨[rS T4 y1,tT,tT,tT,tT,tT,tT,fF,fF,fF,fF,fF,fF,fF,fF,fF,fF,fF,fF,fF,fF,fF,fF,fF,fF,fF,fF,fF,fF,fF,fF,fF,fF,fF,fF,fF,fF,fF,fF,fF,fF,fF,fF,fF,fF,fF,fF,fF,fF,fF,fF,fF,fF,fF,fF,fF,fF,fF,fF,fF,fF],[],via (retP (aI (aI (aI (aI (aI (aI (aI (aI (aI (aI (aI (aI (aI (aI (aI (aI (aI (aI (aI (aI (aI (aI (aI (aI (aI (aI (aI (aI (aI (aI (aI (aI (aI (aI (aI (aI (aI (aI (aI (aI (aI (aI (aI (aI (aI (aI (aI (aI (aI (aI (aI (aI (aI (aI (aI (aI (aI (aI (aI (aI (aI tv0 e2) e3) e3) e3) e3) e3) e3) e4) e4) e4) e4) e4) e4) ff) ff) ff) ff) ff) ff) ff) ff) ff) ff) ff) ff) ff) ff) ff) ff) ff) ff) ff) ff) ff) ff) ff) ff) ff) ff) ff) ff) ff) ff) ff) ff) ff) ff) ff) ff) ff) ff) ff) ff) ff) ff) ff) ff) ff) ff) ff) ff) (.one (.dp T4)) (false:Bool)) (by kernel_rfl)⟩))) (fun e3 =>
  oS (⟨[rS T4 y1,fF,fF,fF,fF,fF,fF,fF,fF,fF,fF,fF,fF,fF,fF,fF,fF,fF,fF,fF,fF,fF,fF,fF,fF,fF,fF,fF,fF,fF,fF,fF,fF,fF,fF,fF,fF,fF,fF,fF,fF,fF,fF,fF,fF,fF,fF,fF,fF,fF,fF,fF,fF,fF,fF,fF,fF,fF,fF,fF,fF],[],via (retP (aI (aI (aI (aI (aI (aI (aI (aI (aI (aI (aI (aI (aI (aI (aI (aI (aI (aI (aI (aI (aI (aI (aI (aI (aI (aI (aI (aI (aI (aI (aI (aI (aI (aI (aI (aI (aI (aI (aI (aI (aI (aI (aI (aI (aI (aI (aI (aI (aI (aI (aI (aI (aI (aI (aI (aI (aI (aI (aI (aI (aI tv0 e2) e3) e3) e3) e3) e3) e3) ff) ff) ff) ff) ff) ff) ff) ff) ff) ff) ff) ff) ff) ff) ff) ff) ff) ff) ff) ff) ff) ff) ff) ff) ff) ff) ff) ff) ff) ff) ff) ff) ff) ff) ff) ff) ff) ff) ff) ff) ff) ff) ff) ff) ff) ff) ff) ff) ff) ff) ff) ff) ff) ff) (.one (.dp T4)) (false:Bool)) (by kernel_rfl)⟩))
theorem tourkeep2_same.ok (k:Nat):FnOk PR 28 (tourkeep2_same.sp k) :=
 fn_ok (tourkeep2_same.cok k) hmix Tryz.func28 (code:=tourkeep2_same.code) (by kernel_rfl) (by kernel_rfl) (by kernel_rfl) rfl rfl (by kernel_rfl) (by kernel_rfl) (by kernel_rfl) (fun x=>Nat.le_of_ble_eq_true (by kernel_rfl)) fun x y hy=>(tourkeep2_same.way k x.1 x.2.1).ap hy
noncomputable def tourkeep2_block.code:Code:=Func.cd Tryz.f37
def tourkeep2_block (k:Nat) (a0 a1 a2:Int) (a3:Bool):Option V57 :=
 bnd (tourkeep2_square k 0 0 a2) fun y1 =>
 bif' a3
 (some (((imul .i64 a0 65536),(imul .i64 a1 65536),()),(0,0,()),0,0,65536,65536,0,0,y1,false,0,()))
 (some (((imul .i64 a0 65536),(imul .i64 a1 65536),()),(0,0,()),0,0,0,0,0,0,y1,false,0,()))
noncomputable def tourkeep2_block.sp (k:Nat):Go.Sx.Spec:=⟨(.pair T2 (.pair T2 (.pair T2 (.pair T4 .unit)))),(.one (.dp T57)),fun x=>tourkeep2_block k x.1 x.2.1 x.2.2.1 x.2.2.2.1,false⟩
noncomputable def tourkeep2_block.cx (k:Nat):Go.Sx.Ctx:=⟨tys,[(81,(tourkeep2_square.sp k).frz)],eqs,22,0,[],false⟩
theorem tourkeep2_block.cok (k:Nat):CtxOk PR (tourkeep2_block.cx k):=ctx_ok tysOk eqsOk (fC (FnOk.frz rfl (tourkeep2_square.ok k)) FnsOk.nil) HsOk.nil
theorem tourkeep2_block.way (k:Nat) (a0 a1 a2:Int) (a3:Bool):Owp (tourkeep2_block k a0 a1 a2 a3) fun y=>∃ w c0,exec PR (tourkeep2_block.cx k) tourkeep2_block.code 0 (entry (.pair T2 (.pair T2 (.pair T2 (.pair T4 .unit)))) (a0,a1,a2,a3,())).st w (Ret (tourkeep2_block.cx k) Tryz.f37 c0 (.one (.dp T57)) y):=by
 unfold tourkeep2_block; exact
  oB fun y1 e2 =>
  oF (fun e3 =>
  oS (⟨[rS T56 y1,tT],[],via (retP (aI (aI tv0 e2) e3) (.one (.dp T57)) ((((imul .i64 a0 (65536:Int)),(imul .i64 a1 (65536:Int)),()),((0:Int),(0:Int),()),(0:Int),(0:Int),(65536:Int),(65536:Int),(0:Int),(0:Int),y1,false,(0:Int),()):V57)) (by kernel_rfl)⟩)) (fun e3 =>
  oS (⟨[rS T56 y1,fF],[],via (retP (aI (aI tv0 e2) e3) (.one (.dp T57)) ((((imul .i64 a0 (65536:Int)),(imul .i64 a1 (65536:Int)),()),((0:Int),(0:Int),()),(0:Int),(0:Int),(0:Int),(0:Int),(0:Int),(0:Int),y1,false,(0:Int),()):V57)) (by kernel_rfl)⟩))
theorem tourkeep2_block.ok (k:Nat):FnOk PR 37 (tourkeep2_block.sp k) :=
 fn_ok (tourkeep2_block.cok k) hmix Tryz.func37 (code:=tourkeep2_block.code) (by kernel_rfl) (by kernel_rfl) (by kernel_rfl) rfl rfl (by kernel_rfl) (by kernel_rfl) (by kernel_rfl) (fun x=>Nat.le_of_ble_eq_true (by kernel_rfl)) fun x y hy=>(tourkeep2_block.way k x.1 x.2.1 x.2.2.1 x.2.2.2.1).ap hy
end Go.Proofs.T1
