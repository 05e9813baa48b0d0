import Derived.Test.YtolkdkhdkfndfaaG0
import Derived.Test.YtolkdkhdkfndfaaG1
import Derived.Test.YtolkdkhdkfndfaaG4
import Derived.Test.YtolkdkhdkfndfaaG6
import Derived.Test.YtolkdkhdkfndfaaG8
namespace Go.Proofs.T1
open Go Go.Sx Go.Proofs
set_option maxRecDepth 100000
set_option linter.unusedVariables false
noncomputable def ray_Shape_1.code:Code:=Func.cd Try.f127
def ray_Shape_1 (k:Nat) (a0 a1:(List V27)) (a2:V27):Option (Int × Bool) :=
  bnd (near_Minus k a0 a1) fun y1 =>
  bnd (ray_line k y1.1 (0,0,()) a2) fun y3 =>
  some (y3.1,y3.2)
noncomputable def ray_Shape_1.sp (k:Nat):Go.Sx.Spec:=⟨(.pair T22 (.pair (.ref T22) (.pair (.ref T27) .unit))),(.more (.dp T2) (.one (.dp T4))),fun x=>ray_Shape_1 k x.1 x.2.1 x.2.2.1,false⟩
noncomputable def ray_Shape_1.cx (k:Nat):Go.Sx.Ctx:=⟨tys,[(128,near_Minus.sp k),(118,ray_line.sp k)],eqs,20,0,[],false⟩
theorem ray_Shape_1.cok (k:Nat):CtxOk PR (ray_Shape_1.cx k):=ctx_ok tysOk eqsOk (FnsOk.cons (near_Minus.ok k) (FnsOk.cons (ray_line.ok k) FnsOk.nil)) HsOk.nil
theorem ray_Shape_1.way (k:Nat) (a0 a1:(List V27)) (a2:V27):Owp (ray_Shape_1 k a0 a1 a2) fun y=>∃ w c0,exec PR (ray_Shape_1.cx k) ray_Shape_1.code 0 (entry (.pair T22 (.pair (.ref T22) (.pair (.ref T27) .unit))) (a0,a1,a2,())).st w (Ret (ray_Shape_1.cx k) Try.f127 c0 (.more (.dp T2) (.one (.dp T4))) y):=by
  unfold ray_Shape_1; exact
   Owp.bnd fun y1 e2 =>
   Owp.bnd fun y3 e4 =>
   Owp.some (⟨[.res (.more (.ow T27 28) (.one (.dp T2))) y1,.res (.more (.dp T2) (.one (.dp T4))) y3],[],via (retP (aI (aI trivial e2) e4) (.more (.dp T2) (.one (.dp T4))) ((y3.1,y3.2):(Int × Bool))) (by kernel_rfl)⟩)
theorem ray_Shape_1.ok (k:Nat):FnOk PR 127 (ray_Shape_1.sp k) :=
  fn_ok (ray_Shape_1.cok k) hmix Try.func127 (code:=ray_Shape_1.code) (by kernel_rfl) (by kernel_rfl) (by kernel_rfl) rfl rfl (by kernel_rfl) (by kernel_rfl) (by kernel_rfl) (fun x=>Nat.le_of_ble_eq_true (by kernel_rfl)) fun x y hy=>(ray_Shape_1.way k x.1 x.2.1 x.2.2.1).ap hy
noncomputable def ray_Shape.code:Code:=Func.cd Try.f57
def ray_Shape (k:Nat) (a0:(List V67)) (a1:(List V27)) (a2:V27):Option (Int × (Int × Int)) :=
  bnd (keep_Check k a0) fun y1 =>
  bif' (ine y1 0)
  (some (0,0,y1))
  (bnd (poly_Check k a1) fun y4 =>
   bif' (ine y4 0)
   (some (0,0,y4))
   (bnd (ray_within k a2) fun y7 =>
   bif' y7
   (bnd (ray_first k a0 (fun x:((List V27) × Unit)=>ray_Shape_1 k (x.1) a1 a2)) fun y10 =>
   some (y10.1,y10.2.1,y10.2.2))
   (some (0,0,1))))
noncomputable def ray_Shape.sp (k:Nat):Go.Sx.Spec:=⟨(.pair (.slice T67) (.pair T22 (.pair T27 .unit))),(.more (.dp T2) (.more (.dp T2) (.one (.dp T2)))),fun x=>ray_Shape k x.1 x.2.1 x.2.2.1,false⟩
noncomputable def ray_Shape.cx (k:Nat):Go.Sx.Ctx:=⟨tys,[(114,keep_Check.sp k),(22,poly_Check.sp k),(115,ray_within.sp k),(116,ray_first.sp k),(127,ray_Shape_1.sp k)],eqs,30,0,[],false⟩
theorem ray_Shape.cok (k:Nat):CtxOk PR (ray_Shape.cx k):=ctx_ok tysOk eqsOk (FnsOk.cons (keep_Check.ok k) (FnsOk.cons (poly_Check.ok k) (FnsOk.cons (ray_within.ok k) (FnsOk.cons (ray_first.ok k) (FnsOk.cons (ray_Shape_1.ok k) FnsOk.nil))))) HsOk.nil
@[irreducible] noncomputable def ray_Shape.P (k:Nat) (a0:(List V67)) (a1:(List V27)) (a2:V27) (y:(Int × (Int × Int))) (w:List Ans) (c0:List Cmd):Prop:=exec PR (ray_Shape.cx k) ray_Shape.code 0 (entry (.pair (.slice T67) (.pair T22 (.pair T27 .unit))) (a0,a1,a2,())).st w (Ret (ray_Shape.cx k) Try.f57 c0 (.more (.dp T2) (.more (.dp T2) (.one (.dp T2)))) y)
theorem ray_Shape.way (k:Nat) (a0:(List V67)) (a1:(List V27)) (a2:V27):Owp (ray_Shape k a0 a1 a2) fun y=>∃ w c0,ray_Shape.P k a0 a1 a2 y w c0:=by
  unfold ray_Shape; exact
   Owp.bnd fun y1 e2 =>
   Owp.bif (fun e3 =>
   Owp.some (⟨[rS T2 y1,tT],[],via (retP (aI (aI trivial e2) e3) (.more (.dp T2) (.more (.dp T2) (.one (.dp T2)))) (((0:Int),(0:Int),y1):(Int × (Int × Int)))) (by kernel_rfl)⟩)) (fun e3 =>
   Owp.bnd fun y4 e5 =>
   Owp.bif (fun e6 =>
   Owp.some (⟨[rS T2 y1,fF,rS T2 y4,tT],[],via (retP (aI (aI (aI (aI trivial e2) e3) e5) e6) (.more (.dp T2) (.more (.dp T2) (.one (.dp T2)))) (((0:Int),(0:Int),y4):(Int × (Int × Int)))) (by kernel_rfl)⟩)) (fun e6 =>
   Owp.bnd fun y7 e8 =>
   Owp.bif (fun e9 =>
   Owp.bnd fun y10 e11 =>
   Owp.some (⟨[rS T2 y1,fF,rS T2 y4,fF,rS T4 y7,fF,.res (.more (.dp T2) (.more (.dp T2) (.one (.dp T2)))) y10],[],via (retP (aI (aI (aI (aI (aI (aI (aI trivial e2) e3) e5) e6) e8) (congrArg not e9)) e11) (.more (.dp T2) (.more (.dp T2) (.one (.dp T2)))) ((y10.1,y10.2.1,y10.2.2):(Int × (Int × Int)))) (by kernel_rfl)⟩)) (fun e9 =>
   Owp.some (⟨[rS T2 y1,fF,rS T2 y4,fF,rS T4 y7,tT],[],via (retP (aI (aI (aI (aI (aI (aI trivial e2) e3) e5) e6) e8) (congrArg not e9)) (.more (.dp T2) (.more (.dp T2) (.one (.dp T2)))) (((0:Int),(0:Int),(1:Int)):(Int × (Int × Int)))) (by kernel_rfl)⟩))))
theorem ray_Shape.ok (k:Nat):FnOk PR 57 (ray_Shape.sp k) :=
  fn_ok (ray_Shape.cok k) hmix Try.func57 (code:=ray_Shape.code) (by kernel_rfl) (by kernel_rfl) (by kernel_rfl) rfl rfl (by kernel_rfl) (by kernel_rfl) (by kernel_rfl) (fun x=>Nat.le_of_ble_eq_true (by kernel_rfl)) fun x y hy=>match (ray_Shape.way k x.1 x.2.1 x.2.2.1).ap hy with | ⟨ans,c0,h⟩=>⟨ans,c0,via h (by kernel_rfl)⟩
end Go.Proofs.T1
