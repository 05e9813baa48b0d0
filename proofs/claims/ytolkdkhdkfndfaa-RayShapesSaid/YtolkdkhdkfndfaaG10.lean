import Derived.Test.YtolkdkhdkfndfaaG0
import Derived.Test.YtolkdkhdkfndfaaG1
import Derived.Test.YtolkdkhdkfndfaaG2
import Derived.Test.YtolkdkhdkfndfaaG3
import Derived.Test.YtolkdkhdkfndfaaG6
import Derived.Test.YtolkdkhdkfndfaaG8
namespace Go.Proofs.T1
open Go Go.Sx Go.Proofs
set_option maxRecDepth 100000
set_option linter.unusedVariables false
noncomputable def tourlaw2_rayBegun.code:Code:=Func.cd Try.f56
def tourlaw2_rayBegun (k:Nat):Option Bool :=
  bnd (tourlaw2_block k 0 0 false) fun y1 =>
  bnd (ray_Cast k [y1] ((-262144),0,()) (524288,0,())) fun y3 =>
  bif' (ieq y3.2.2 0)
  (bif' (ieq y3.1 0)
   (some (ieq y3.2.1 24576))
   (some false))
  (some false)
noncomputable def tourlaw2_rayBegun.sp (k:Nat):Go.Sx.Spec:=⟨.unit,(.one (.dp T4)),fun x=>tourlaw2_rayBegun k,false⟩
noncomputable def tourlaw2_rayBegun.cx (k:Nat):Go.Sx.Ctx:=⟨tys,[(126,tourlaw2_block.sp k),(45,ray_Cast.sp k)],eqs,23,0,[],false⟩
theorem tourlaw2_rayBegun.cok (k:Nat):CtxOk PR (tourlaw2_rayBegun.cx k):=ctx_ok tysOk eqsOk (FnsOk.cons (tourlaw2_block.ok k) (FnsOk.cons (ray_Cast.ok k) FnsOk.nil)) HsOk.nil
theorem tourlaw2_rayBegun.way (k:Nat):Owp (tourlaw2_rayBegun k) fun y=>∃ w c0,exec PR (tourlaw2_rayBegun.cx k) tourlaw2_rayBegun.code 0 (entry .unit ()).st w (Ret (tourlaw2_rayBegun.cx k) Try.f56 c0 (.one (.dp T4)) y):=by
  unfold tourlaw2_rayBegun; exact
   Owp.bnd fun y1 e2 =>
   Owp.bnd fun y3 e4 =>
   Owp.bif (fun e5 =>
   Owp.bif (fun e6 =>
   Owp.some (⟨[rS T67 y1,tT,.res (.more (.dp T2) (.more (.dp T2) (.one (.dp T2)))) y3,tT,tT,tT,tT,tT,tT],[],via (retP (aI (aI (aI (aI (aI (aI (aI (aI trivial e2) e4) e5) e5) e5) e6) e6) e6) (.one (.dp T4)) ((ieq y3.2.1 (24576:Int)):Bool)) (by kernel_rfl)⟩)) (fun e6 =>
   Owp.some (⟨[rS T67 y1,tT,.res (.more (.dp T2) (.more (.dp T2) (.one (.dp T2)))) y3,tT,tT,tT,fF,fF,fF],[],via (retP (aI (aI (aI (aI (aI (aI (aI (aI trivial e2) e4) e5) e5) e5) e6) e6) e6) (.one (.dp T4)) (false:Bool)) (by kernel_rfl)⟩))) (fun e5 =>
   Owp.some (⟨[rS T67 y1,tT,.res (.more (.dp T2) (.more (.dp T2) (.one (.dp T2)))) y3,fF,fF,fF,fF,fF,fF],[],via (retP (aI (aI (aI (aI (aI (aI (aI (aI trivial e2) e4) e5) e5) e5) ff) ff) ff) (.one (.dp T4)) (false:Bool)) (by kernel_rfl)⟩))
theorem tourlaw2_rayBegun.ok (k:Nat):FnOk PR 56 (tourlaw2_rayBegun.sp k) :=
  fn_ok (tourlaw2_rayBegun.cok k) hmix Try.func56 (code:=tourlaw2_rayBegun.code) (by kernel_rfl) (by kernel_rfl) (by kernel_rfl) rfl rfl (by kernel_rfl) (by kernel_rfl) (by kernel_rfl) (fun x=>Nat.le_of_ble_eq_true (by kernel_rfl)) fun x y hy=>(tourlaw2_rayBegun.way k).ap hy
noncomputable def r2_cross_1.code:Code:=Func.cd Try.f178
def r2_cross_1 (k:Nat) (a0 a1 a2:V27) (a3:Int):Option Bool :=
  bif' (ieq a3 0)
  (bif' (ile (imin a0.1 a1.1) a2.1)
   (bif' (ile a2.1 (imax a0.1 a1.1))
   (bif' (ile (imin a0.2.1 a1.2.1) a2.2.1)
   (some (ile a2.2.1 (imax a0.2.1 a1.2.1)))
   (some false))
   (some false))
   (some false))
  (some false)
noncomputable def r2_cross_1.sp (k:Nat):Go.Sx.Spec:=⟨(.pair T27 (.pair T27 (.pair T27 (.pair T2 .unit)))),(.one (.dp T4)),fun x=>r2_cross_1 k x.1 x.2.1 x.2.2.1 x.2.2.2.1,false⟩
noncomputable def r2_cross_1.cx (k:Nat):Go.Sx.Ctx:=⟨tys,[],eqs,51,0,[],false⟩
theorem r2_cross_1.cok (k:Nat):CtxOk PR (r2_cross_1.cx k):=ctx_ok tysOk eqsOk FnsOk.nil HsOk.nil
theorem r2_cross_1.way (k:Nat) (a0 a1 a2:V27) (a3:Int):Owp (r2_cross_1 k a0 a1 a2 a3) fun y=>∃ w c0,exec PR (r2_cross_1.cx k) r2_cross_1.code 0 (entry (.pair T27 (.pair T27 (.pair T27 (.pair T2 .unit)))) (a0,a1,a2,a3,())).st w (Ret (r2_cross_1.cx k) Try.f178 c0 (.one (.dp T4)) y):=by
  unfold r2_cross_1; exact
   Owp.bif (fun e1 =>
   Owp.bif (fun e2 =>
   Owp.bif (fun e3 =>
   Owp.bif (fun e4 =>
   Owp.some (⟨[tT,tT,tT,tT,tT,tT,tT,tT,tT,tT,tT,tT,tT,tT,tT,tT,tT,tT,tT,tT,tT,tT,tT,tT,tT,tT,tT,tT,tT,tT,tT,tT,tT,tT,tT,tT],[],via (retP (aI (aI (aI (aI (aI (aI (aI (aI (aI (aI (aI (aI (aI (aI (aI (aI (aI (aI (aI (aI (aI (aI (aI (aI (aI (aI (aI (aI (aI (aI (aI (aI (aI (aI (aI (aI trivial e1) e1) e1) e1) e1) e1) e1) e1) e1) e2) e2) e2) e2) e2) e2) e2) e2) e2) e3) e3) e3) e3) e3) e3) e3) e3) e3) e4) e4) e4) e4) e4) e4) e4) e4) e4) (.one (.dp T4)) ((ile a2.2.1 (imax a0.2.1 a1.2.1)):Bool)) (by kernel_rfl)⟩)) (fun e4 =>
   Owp.some (⟨[tT,tT,tT,tT,tT,tT,tT,tT,tT,tT,tT,tT,tT,tT,tT,tT,tT,tT,tT,tT,tT,tT,tT,tT,tT,tT,tT,fF,fF,fF,fF,fF,fF,fF,fF,fF],[],via (retP (aI (aI (aI (aI (aI (aI (aI (aI (aI (aI (aI (aI (aI (aI (aI (aI (aI (aI (aI (aI (aI (aI (aI (aI (aI (aI (aI (aI (aI (aI (aI (aI (aI (aI (aI (aI trivial e1) e1) e1) e1) e1) e1) e1) e1) e1) e2) e2) e2) e2) e2) e2) e2) e2) e2) e3) e3) e3) e3) e3) e3) e3) e3) e3) e4) e4) e4) e4) e4) e4) e4) e4) e4) (.one (.dp T4)) (false:Bool)) (by kernel_rfl)⟩))) (fun e3 =>
   Owp.some (⟨[tT,tT,tT,tT,tT,tT,tT,tT,tT,tT,tT,tT,tT,tT,tT,tT,tT,tT,fF,fF,fF,fF,fF,fF,fF,fF,fF,fF,fF,fF,fF,fF,fF,fF,fF,fF],[],via (retP (aI (aI (aI (aI (aI (aI (aI (aI (aI (aI (aI (aI (aI (aI (aI (aI (aI (aI (aI (aI (aI (aI (aI (aI (aI (aI (aI (aI (aI (aI (aI (aI (aI (aI (aI (aI trivial e1) e1) e1) e1) e1) e1) e1) e1) e1) e2) e2) e2) e2) e2) e2) e2) e2) e2) e3) e3) e3) e3) e3) e3) e3) e3) e3) ff) ff) ff) ff) ff) ff) ff) ff) ff) (.one (.dp T4)) (false:Bool)) (by kernel_rfl)⟩))) (fun e2 =>
   Owp.some (⟨[tT,tT,tT,tT,tT,tT,tT,tT,tT,fF,fF,fF,fF,fF,fF,fF,fF,fF,fF,fF,fF,fF,fF,fF,fF,fF,fF,fF,fF,fF,fF,fF,fF,fF,fF,fF],[],via (retP (aI (aI (aI (aI (aI (aI (aI (aI (aI (aI (aI (aI (aI (aI (aI (aI (aI (aI (aI (aI (aI (aI (aI (aI (aI (aI (aI (aI (aI (aI (aI (aI (aI (aI (aI (aI trivial e1) e1) e1) e1) e1) e1) e1) e1) e1) e2) e2) e2) e2) e2) e2) e2) e2) e2) ff) ff) ff) ff) ff) ff) ff) ff) ff) ff) ff) ff) ff) ff) ff) ff) ff) ff) (.one (.dp T4)) (false:Bool)) (by kernel_rfl)⟩))) (fun e1 =>
   Owp.some (⟨[fF,fF,fF,fF,fF,fF,fF,fF,fF,fF,fF,fF,fF,fF,fF,fF,fF,fF,fF,fF,fF,fF,fF,fF,fF,fF,fF,fF,fF,fF,fF,fF,fF,fF,fF,fF],[],via (retP (aI (aI (aI (aI (aI (aI (aI (aI (aI (aI (aI (aI (aI (aI (aI (aI (aI (aI (aI (aI (aI (aI (aI (aI (aI (aI (aI (aI (aI (aI (aI (aI (aI (aI (aI (aI trivial e1) e1) e1) e1) e1) e1) e1) e1) e1) ff) ff) ff) ff) ff) ff) ff) ff) ff) ff) ff) ff) ff) ff) ff) ff) ff) ff) ff) ff) ff) ff) ff) ff) ff) ff) ff) (.one (.dp T4)) (false:Bool)) (by kernel_rfl)⟩))
theorem r2_cross_1.ok (k:Nat):FnOk PR 178 (r2_cross_1.sp k) :=
  fn_ok (r2_cross_1.cok k) hmix Try.func178 (code:=r2_cross_1.code) (by kernel_rfl) (by kernel_rfl) (by kernel_rfl) rfl rfl (by kernel_rfl) (by kernel_rfl) (by kernel_rfl) (fun x=>Nat.le_of_ble_eq_true (by kernel_rfl)) fun x y hy=>(r2_cross_1.way k x.1 x.2.1 x.2.2.1 x.2.2.2.1).ap hy
noncomputable def r2_cross.code:Code:=Func.cd Try.f132
def r2_cross.c1 (k:Nat) (y1 y3 y5 y7:Int):Option (Bool) :=
  bif' (ilt (imul .i64 y1 y3) 0)
  (some (ilt (imul .i64 y5 y7) 0))
  (some false)
def r2_cross (k:Nat) (a0 a1 a2 a3:V27):Option Bool :=
  bnd (r2_left k a0 a1 a2) fun y1 =>
  bnd (r2_left k a0 a1 a3) fun y3 =>
  bnd (r2_left k a2 a3 a0) fun y5 =>
  bnd (r2_left k a2 a3 a1) fun y7 =>
  bnd (r2_cross.c1 k y1 y3 y5 y7) fun o10 =>
  bif' o10
  (some true)
  (bnd (r2_cross_1 k a0 a1 a2 y1) fun y13 =>
   bif' y13
   (some true)
   (bnd (r2_cross_1 k a0 a1 a3 y3) fun y16 =>
   bif' y16
   (some true)
   (bnd (r2_cross_1 k a2 a3 a0 y5) fun y19 =>
   bif' y19
   (some true)
   (bnd (r2_cross_1 k a2 a3 a1 y7) fun y22 =>
   some y22))))
noncomputable def r2_cross.sp (k:Nat):Go.Sx.Spec:=⟨(.pair T27 (.pair T27 T41)),(.one (.dp T4)),fun x=>r2_cross k x.1 x.2.1 x.2.2.1 x.2.2.2.1,false⟩
noncomputable def r2_cross.cx (k:Nat):Go.Sx.Ctx:=⟨tys,[(130,r2_left.sp k),(178,r2_cross_1.sp k)],eqs,70,0,[],false⟩
theorem r2_cross.cok (k:Nat):CtxOk PR (r2_cross.cx k):=ctx_ok tysOk eqsOk (FnsOk.cons (r2_left.ok k) (FnsOk.cons (r2_cross_1.ok k) FnsOk.nil)) HsOk.nil
noncomputable def r2_cross.c1p (a0 a1 a2 a3:V27) (y1 y3 y5 y7:Int):SL:=⟨[(4,(.val .ptr ⟨0,0,(0:Int),0,0⟩)),(5,(.val .ptr ⟨1,0,(0:Int),0,0⟩)),(6,(.val .ptr ⟨2,0,(0:Int),0,0⟩)),(7,(.val .ptr ⟨3,0,(0:Int),0,0⟩)),(9,(.val T2 y1)),(10,(.val T2 y3)),(11,(.val T2 y5)),(12,(.val T2 y7))],[(0,.cells T27 a0),(1,.cells T27 a1),(2,.cells T27 a2),(3,.cells T27 a3)]⟩
noncomputable def r2_cross.c1q (a0 a1 a2 a3:V27) (y1 y3 y5 y7:Int) (o:Bool):SL:=(fun v=>⟨[(4,(.val .ptr ⟨0,0,(0:Int),0,0⟩)),(5,(.val .ptr ⟨1,0,(0:Int),0,0⟩)),(6,(.val .ptr ⟨2,0,(0:Int),0,0⟩)),(7,(.val .ptr ⟨3,0,(0:Int),0,0⟩)),(9,(.val T2 y1)),(10,(.val T2 y3)),(11,(.val T2 y5)),(12,(.val T2 y7)),(39,(.val T4 v))],[(0,.cells T27 a0),(1,.cells T27 a1),(2,.cells T27 a2),(3,.cells T27 a3)]⟩) o
noncomputable def r2_cross.c1x (o:Bool):Ex:=(fun _=>.normal) o
noncomputable def r2_cross.c1n (o:Bool):Nat:=(fun _=>4) o
theorem r2_cross.c1_ok (k:Nat) (a0 a1 a2 a3:V27) (y1 y3 y5 y7:Int):Owp (r2_cross.c1 k y1 y3 y5 y7) fun o=>Triple PR (r2_cross.cx k) (sub r2_cross.code [1,1,0,0]) 4 (r2_cross.c1p a0 a1 a2 a3 y1 y3 y5 y7) (r2_cross.c1x o) (r2_cross.c1n o) (r2_cross.c1q a0 a1 a2 a3 y1 y3 y5 y7 o):=by
  unfold r2_cross.c1; exact
   Owp.bif (fun e9 =>
   Owp.some (triple_way (r2_cross.cok k) hmix [tT,tT,tT,tT,tT] [] [(0,0),(1,1),(2,2),(3,3)] (via (finP (aI (aI (aI (aI (aI trivial e9) e9) e9) e9) e9) .normal [(0,0),(1,1),(2,2),(3,3)] (r2_cross.c1q a0 a1 a2 a3 y1 y3 y5 y7 (ilt (imul .i64 y5 y7) (0:Int)))) (by kernel_rfl)))) (fun e9 =>
   Owp.some (triple_way (r2_cross.cok k) hmix [fF,fF,fF,fF,fF] [] [(0,0),(1,1),(2,2),(3,3)] (via (finP (aI (aI (aI (aI (aI trivial e9) e9) e9) e9) e9) .normal [(0,0),(1,1),(2,2),(3,3)] (r2_cross.c1q a0 a1 a2 a3 y1 y3 y5 y7 false)) (by kernel_rfl))))
theorem r2_cross.way (k:Nat) (a0 a1 a2 a3:V27):Owp (r2_cross k a0 a1 a2 a3) fun y=>∃ w c0,exec PR (r2_cross.cx k) r2_cross.code 0 (entry (.pair T27 (.pair T27 T41)) (a0,a1,a2,a3,())).st w (Ret (r2_cross.cx k) Try.f132 c0 (.one (.dp T4)) y):=by
  unfold r2_cross; exact
   Owp.bnd fun y1 e2 =>
   Owp.bnd fun y3 e4 =>
   Owp.bnd fun y5 e6 =>
   Owp.bnd fun y7 e8 =>
   Owp.bnd fun o10 e11 =>
   Owp.bif (fun e12 =>
   Owp.some (⟨[rS T2 y1,rS T2 y3,rS T2 y5,rS T2 y7,.cutR 2 ⟨[],[(0,0),(1,1),(2,2),(3,3)],(r2_cross.c1p a0 a1 a2 a3 y1 y3 y5 y7),4,.normal,(r2_cross.c1q a0 a1 a2 a3 y1 y3 y5 y7 o10),4⟩,tT],[],via (cutP (aI (aI (aI (aI trivial e2) e4) e6) e8) [(0,0),(1,1),(2,2),(3,3)] (r2_cross.c1p a0 a1 a2 a3 y1 y3 y5 y7) (((r2_cross.c1_ok k a0 a1 a2 a3 y1 y3 y5 y7).ap e11)) (retP (aI trivial e12) (.one (.dp T4)) (true:Bool))) (by kernel_rfl)⟩)) (fun e12 =>
   Owp.bnd fun y13 e14 =>
   Owp.bif (fun e15 =>
   Owp.some (⟨[rS T2 y1,rS T2 y3,rS T2 y5,rS T2 y7,.cutR 2 ⟨[],[(0,0),(1,1),(2,2),(3,3)],(r2_cross.c1p a0 a1 a2 a3 y1 y3 y5 y7),4,.normal,(r2_cross.c1q a0 a1 a2 a3 y1 y3 y5 y7 o10),4⟩,fF,rS T4 y13,tT,tT,tT,tT,tT,tT,tT,tT,tT,tT,tT,tT,tT,tT,tT,tT,tT,tT,tT,tT,tT,tT,tT,tT],[],via (cutP (aI (aI (aI (aI trivial e2) e4) e6) e8) [(0,0),(1,1),(2,2),(3,3)] (r2_cross.c1p a0 a1 a2 a3 y1 y3 y5 y7) (((r2_cross.c1_ok k a0 a1 a2 a3 y1 y3 y5 y7).ap e11)) (retP (aI (aI (aI (aI (aI (aI (aI (aI (aI (aI (aI (aI (aI (aI (aI (aI (aI (aI (aI (aI (aI (aI (aI trivial e12) e14) e15) e15) e15) e15) e15) e15) e15) tt) tt) tt) tt) tt) tt) tt) tt) tt) tt) tt) tt) tt) tt) (.one (.dp T4)) (true:Bool))) (by kernel_rfl)⟩)) (fun e15 =>
   Owp.bnd fun y16 e17 =>
   Owp.bif (fun e18 =>
   Owp.some (⟨[rS T2 y1,rS T2 y3,rS T2 y5,rS T2 y7,.cutR 2 ⟨[],[(0,0),(1,1),(2,2),(3,3)],(r2_cross.c1p a0 a1 a2 a3 y1 y3 y5 y7),4,.normal,(r2_cross.c1q a0 a1 a2 a3 y1 y3 y5 y7 o10),4⟩,fF,rS T4 y13,fF,fF,fF,fF,fF,fF,rS T4 y16,fF,tT,tT,tT,tT,tT,tT,tT,tT,tT,tT,tT,tT,tT,tT,tT,tT],[],via (cutP (aI (aI (aI (aI trivial e2) e4) e6) e8) [(0,0),(1,1),(2,2),(3,3)] (r2_cross.c1p a0 a1 a2 a3 y1 y3 y5 y7) (((r2_cross.c1_ok k a0 a1 a2 a3 y1 y3 y5 y7).ap e11)) (retP (aI (aI (aI (aI (aI (aI (aI (aI (aI (aI (aI (aI (aI (aI (aI (aI (aI (aI (aI (aI (aI (aI (aI trivial e12) e14) e15) e15) e15) e15) e15) (aI e15 e17)) e15) e18) e18) e18) e18) e18) e18) e18) tt) tt) tt) tt) tt) tt) tt) (.one (.dp T4)) (true:Bool))) (by kernel_rfl)⟩)) (fun e18 =>
   Owp.bnd fun y19 e20 =>
   Owp.bif (fun e21 =>
   Owp.some (⟨[rS T2 y1,rS T2 y3,rS T2 y5,rS T2 y7,.cutR 2 ⟨[],[(0,0),(1,1),(2,2),(3,3)],(r2_cross.c1p a0 a1 a2 a3 y1 y3 y5 y7),4,.normal,(r2_cross.c1q a0 a1 a2 a3 y1 y3 y5 y7 o10),4⟩,fF,rS T4 y13,fF,fF,fF,fF,fF,fF,rS T4 y16,fF,fF,fF,fF,fF,fF,fF,rS T4 y19,fF,tT,tT,tT,tT,tT,tT,tT,tT],[],via (cutP (aI (aI (aI (aI trivial e2) e4) e6) e8) [(0,0),(1,1),(2,2),(3,3)] (r2_cross.c1p a0 a1 a2 a3 y1 y3 y5 y7) (((r2_cross.c1_ok k a0 a1 a2 a3 y1 y3 y5 y7).ap e11)) (retP (aI (aI (aI (aI (aI (aI (aI (aI (aI (aI (aI (aI (aI (aI (aI (aI (aI (aI (aI (aI (aI (aI (aI trivial e12) e14) e15) e15) e15) e15) e15) (aI e15 e17)) e15) e18) e18) e18) e18) e18) (aI e18 e20)) e18) e21) e21) e21) e21) e21) e21) e21) (.one (.dp T4)) (true:Bool))) (by kernel_rfl)⟩)) (fun e21 =>
   Owp.bnd fun y22 e23 =>
   Owp.some (⟨[rS T2 y1,rS T2 y3,rS T2 y5,rS T2 y7,.cutR 2 ⟨[],[(0,0),(1,1),(2,2),(3,3)],(r2_cross.c1p a0 a1 a2 a3 y1 y3 y5 y7),4,.normal,(r2_cross.c1q a0 a1 a2 a3 y1 y3 y5 y7 o10),4⟩,fF,rS T4 y13,fF,fF,fF,fF,fF,fF,rS T4 y16,fF,fF,fF,fF,fF,fF,fF,rS T4 y19,fF,fF,fF,fF,fF,fF,fF,rS T4 y22,fF],[],via (cutP (aI (aI (aI (aI trivial e2) e4) e6) e8) [(0,0),(1,1),(2,2),(3,3)] (r2_cross.c1p a0 a1 a2 a3 y1 y3 y5 y7) (((r2_cross.c1_ok k a0 a1 a2 a3 y1 y3 y5 y7).ap e11)) (retP (aI (aI (aI (aI (aI (aI (aI (aI (aI (aI (aI (aI (aI (aI (aI (aI (aI (aI (aI (aI (aI (aI (aI trivial e12) e14) e15) e15) e15) e15) e15) (aI e15 e17)) e15) e18) e18) e18) e18) e18) (aI e18 e20)) e18) e21) e21) e21) e21) e21) (aI e21 e23)) e21) (.one (.dp T4)) (y22:Bool))) (by kernel_rfl)⟩)))))
theorem r2_cross.ok (k:Nat):FnOk PR 132 (r2_cross.sp k) :=
  fn_ok (r2_cross.cok k) hmix Try.func132 (code:=r2_cross.code) (by kernel_rfl) (by kernel_rfl) (by kernel_rfl) rfl rfl (by kernel_rfl) (by kernel_rfl) (by kernel_rfl) (fun x=>Nat.le_of_ble_eq_true (by kernel_rfl)) fun x y hy=>(r2_cross.way k x.1 x.2.1 x.2.2.1 x.2.2.2.1).ap hy
noncomputable def r2_Meet.code:Code:=Func.cd Try.f60
def r2_Meet.c1 (k:Nat) (a0 a1:(List V27)):Option (Bool) :=
  req (inL 0 a1) <|
  bnd (r2_Inside k a0 (el Z27 a1 0)) fun y2 =>
  bif' y2
  (some true)
  (req (inL 0 a0) <|
   bnd (r2_Inside k a1 (el Z27 a0 0)) fun y6 =>
   some y6)
def r2_Meet.c3 (k:Nat) (a0 a1:(List V27)) (v11:Int):Nat → Int → Option (Unit ⊕ Unit)
  | 0,_=>none
  | n+1,v14 =>
   bif' (ilt v14 (len a1))
   (req (inL v14 a1) <|
   req (nz (len a0)) <|
   req (inL (irem (iadd .i64 v11 1) (len a0)) a0) <|
   req (nz (len a1)) <|
   req (inL (irem (iadd .i64 v14 1) (len a1)) a1) <|
   bnd (r2_cross k (el Z27 a0 v11) (el Z27 a0 (irem (iadd .i64 v11 1) (len a0))) (el Z27 a1 v14) (el Z27 a1 (irem (iadd .i64 v14 1) (len a1)))) fun y21 =>
   bif' y21
   (some (.inl ()))
   (r2_Meet.c3 k a0 a1 v11 n (iadd .i64 v14 1)))
   (some (.inr ()))
def r2_Meet.c2 (k:Nat) (a0 a1:(List V27)):Nat → Int → Option (Unit ⊕ Unit)
  | 0,_=>none
  | n+1,v11 =>
   bif' (ilt v11 (len a0))
   (req (inL v11 a0) <|
   bnd (r2_Meet.c3 k a0 a1 v11 k 0) fun o24 =>
   two o24 (fun y26 =>
   some (.inl ())) (fun y28 =>
   r2_Meet.c2 k a0 a1 n (iadd .i64 v11 1)))
   (some (.inr ()))
def r2_Meet (k:Nat) (a0 a1:(List V27)):Option Bool :=
  bnd (r2_Meet.c1 k a0 a1) fun o8 =>
  bif' o8
  (some true)
  (bnd (r2_Meet.c2 k a0 a1 k 0) fun o30 =>
   two o30 (fun y32 =>
   some true) (fun y34 =>
   some false))
noncomputable def r2_Meet.sp (k:Nat):Go.Sx.Spec:=⟨(.pair T22 (.pair T22 .unit)),(.one (.dp T4)),fun x=>r2_Meet k x.1 x.2.1,false⟩
noncomputable def r2_Meet.cx (k:Nat):Go.Sx.Ctx:=⟨tys,[(131,r2_Inside.sp k),(132,r2_cross.sp k)],eqs,56,0,[],false⟩
theorem r2_Meet.cok (k:Nat):CtxOk PR (r2_Meet.cx k):=ctx_ok tysOk eqsOk (FnsOk.cons (r2_Inside.ok k) (FnsOk.cons (r2_cross.ok k) FnsOk.nil)) HsOk.nil
noncomputable def r2_Meet.c1p (a0 a1:(List V27)):SL:=⟨[(0,(.val T22 a0)),(1,(.val T22 a1))],[]⟩
noncomputable def r2_Meet.c1q (a0 a1:(List V27)) (o:Bool):SL:=(fun v=>⟨[(0,(.val T22 a0)),(1,(.val T22 a1)),(20,(.val T4 v))],[]⟩) o
noncomputable def r2_Meet.c1x (o:Bool):Ex:=(fun _=>.normal) o
noncomputable def r2_Meet.c1n (o:Bool):Nat:=(fun _=>0) o
theorem r2_Meet.c1_ok (k:Nat) (a0 a1:(List V27)):Owp (r2_Meet.c1 k a0 a1) fun o=>Triple PR (r2_Meet.cx k) (sub r2_Meet.code [1,0,0]) 0 (r2_Meet.c1p a0 a1) (r2_Meet.c1x o) (r2_Meet.c1n o) (r2_Meet.c1q a0 a1 o):=by
  unfold r2_Meet.c1; exact
   Owp.req fun h1 =>
   Owp.bnd fun y2 e3 =>
   Owp.bif (fun e4 =>
   Owp.some (triple_way (r2_Meet.cok k) hmix [rS T4 y2,tT,tT,tT,tT,tT,tT,tT] [] [] (via (finP (aI (aI (aI (aI (aI (aI (aI (aI trivial h1) e3) e4) e4) e4) e4) e4) e4) .normal [] (r2_Meet.c1q a0 a1 true)) (by kernel_rfl)))) (fun e4 =>
   Owp.req fun h5 =>
   Owp.bnd fun y6 e7 =>
   Owp.some (triple_way (r2_Meet.cok k) hmix [rS T4 y2,fF,fF,fF,fF,fF,rS T4 y6,fF] [] [] (via (finP (aI (aI (aI (aI (aI (aI (aI (aI trivial h1) e3) e4) e4) (aI e4 h5)) e4) (aI e4 e7)) e4) .normal [] (r2_Meet.c1q a0 a1 y6)) (by kernel_rfl))))
noncomputable def r2_Meet.c3p (a0 a1:(List V27)) (v11 v14:Int):SL:=⟨[(0,(.val T22 a0)),(1,(.val T22 a1)),(5,(.val T2 v11)),(6,(.val .ptr ⟨0,0,(0:Int),0,0⟩)),(21,(.val T22 a0)),(22,(.val T2 (len a0))),(23,(.val T2 v11)),(28,(.val T22 a1)),(29,(.val T2 (len a1))),(30,(.val T2 v14))],[(0,.cells T27 (el Z27 a0 v11))]⟩
noncomputable def r2_Meet.c3q (a0 a1:(List V27)) (v11:Int) (o:Unit ⊕ Unit):SL:=(fun o=>two o (fun v=>⟨[(4,(.val T4 true))],[]⟩) (fun v=>⟨[(0,(.val T22 a0)),(1,(.val T22 a1)),(21,(.val T22 a0)),(22,(.val T2 (len a0))),(23,(.val T2 v11))],[]⟩)) o
noncomputable def r2_Meet.c3x (o:Unit ⊕ Unit):Ex:=(fun o=>two o (fun _=>.ret) (fun _=>(.exit 2))) o
noncomputable def r2_Meet.c3n (o:Unit ⊕ Unit):Nat:=(fun o=>two o (fun _=>0) (fun _=>0)) o
theorem r2_Meet.c3_ok (k:Nat) (a0 a1:(List V27)) (v11:Int):∀ (n:Nat) (v14:Int),Owp (r2_Meet.c3 k a0 a1 v11 n v14) fun o=>LTriple PR (r2_Meet.cx k) (sub r2_Meet.code [1,1,0,1,0,0,1,1,0,0,1,1,0,0]) 1 (r2_Meet.c3p a0 a1 v11 v14) (r2_Meet.c3x o) (r2_Meet.c3n o) (r2_Meet.c3q a0 a1 v11 o)
  | 0,_=>fun _ h=>nomatch h
  | n+1,v14=>Owp.of (r2_Meet.c3.eq_2 ..) (
   Owp.bif (fun e15 =>
   Owp.req fun h16 =>
   Owp.req fun h17 =>
   Owp.req fun h18 =>
   Owp.req fun h19 =>
   Owp.req fun h20 =>
   Owp.bnd fun y21 e22 =>
   Owp.bif (fun e23 =>
   Owp.some (loop_exit (r2_Meet.cok k) hmix [tT,rS T4 y21,tT] [] [] exne_ret (via (finP (aI (aI (aI (aI (aI (aI (aI (aI trivial e15) h16) h17) h18) h19) h20) e22) e23) .ret [] (r2_Meet.c3q a0 a1 v11 (.inl ()))) (by kernel_rfl)))) (fun e23 =>
   fun y hy=>loop_back (r2_Meet.cok k) hmix 1 (r2_Meet.c3p a0 a1 v11 (iadd .i64 v14 (1:Int))) [tT,rS T4 y21,fF] [] [(0,0)] (via (finP (aI (aI (aI (aI (aI (aI (aI (aI trivial e15) h16) h17) h18) h19) h20) e22) e23) .normal [(0,0)] (r2_Meet.c3p a0 a1 v11 (iadd .i64 v14 (1:Int)))) (by kernel_rfl)) ((r2_Meet.c3_ok k a0 a1 v11 n (iadd .i64 v14 (1:Int))).ap hy))) (fun e15 =>
   Owp.some (loop_exit (r2_Meet.cok k) hmix [fF] [] [] (exne 2) (via (finP (aI trivial e15) (.exit 2) [] (r2_Meet.c3q a0 a1 v11 (.inr ()))) (by kernel_rfl)))))
noncomputable def r2_Meet.c2p (a0 a1:(List V27)) (v11:Int):SL:=⟨[(0,(.val T22 a0)),(1,(.val T22 a1)),(21,(.val T22 a0)),(22,(.val T2 (len a0))),(23,(.val T2 v11))],[]⟩
noncomputable def r2_Meet.c2q (o:Unit ⊕ Unit):SL:=(fun o=>two o (fun v=>⟨[(4,(.val T4 true))],[]⟩) (fun v=>⟨[],[]⟩)) o
noncomputable def r2_Meet.c2x (o:Unit ⊕ Unit):Ex:=(fun o=>two o (fun _=>.ret) (fun _=>(.exit 0))) o
noncomputable def r2_Meet.c2n (o:Unit ⊕ Unit):Nat:=(fun o=>two o (fun _=>0) (fun _=>0)) o
theorem r2_Meet.c2_ok (k:Nat) (a0 a1:(List V27)):∀ (n:Nat) (v11:Int),Owp (r2_Meet.c2 k a0 a1 n v11) fun o=>LTriple PR (r2_Meet.cx k) (sub r2_Meet.code [1,1,0,1,0,0]) 0 (r2_Meet.c2p a0 a1 v11) (r2_Meet.c2x o) (r2_Meet.c2n o) (r2_Meet.c2q o)
  | 0,_=>fun _ h=>nomatch h
  | n+1,v11=>Owp.of (r2_Meet.c2.eq_2 ..) (
   Owp.bif (fun e12 =>
   Owp.req fun h13 =>
   Owp.bnd fun o24 e25 =>
   Owp.two (fun y26 e27 =>
   Owp.some (loop_exit (r2_Meet.cok k) hmix [tT,.cut ⟨[],[(0,4)],(r2_Meet.c3p a0 a1 v11 (0:Int)),1,.ret,(r2_Meet.c3q a0 a1 v11 (.inl ())),0⟩] [] [] exne_ret (via (cutP (aI (aI trivial e12) h13) [(0,4)] (r2_Meet.c3p a0 a1 v11 (0:Int)) (((r2_Meet.c3_ok k a0 a1 v11 k (0:Int)).ap (e25.trans (congrArg some e27))).triple) (finP trivial .ret [] (r2_Meet.c2q (.inl ())))) (by kernel_rfl)))) (fun y28 e29 =>
   fun y hy=>loop_back (r2_Meet.cok k) hmix 0 (r2_Meet.c2p a0 a1 (iadd .i64 v11 (1:Int))) [tT,.cut ⟨[],[(0,4)],(r2_Meet.c3p a0 a1 v11 (0:Int)),1,(.exit 2),(r2_Meet.c3q a0 a1 v11 (.inr ())),0⟩] [] [] (via (cutP (aI (aI trivial e12) h13) [(0,4)] (r2_Meet.c3p a0 a1 v11 (0:Int)) (((r2_Meet.c3_ok k a0 a1 v11 k (0:Int)).ap (e25.trans (congrArg some e29))).triple) (finP trivial .normal [] (r2_Meet.c2p a0 a1 (iadd .i64 v11 (1:Int))))) (by kernel_rfl)) ((r2_Meet.c2_ok k a0 a1 n (iadd .i64 v11 (1:Int))).ap hy))) (fun e12 =>
   Owp.some (loop_exit (r2_Meet.cok k) hmix [fF] [] [] (exne 0) (via (finP (aI trivial e12) (.exit 0) [] (r2_Meet.c2q (.inr ()))) (by kernel_rfl)))))
theorem r2_Meet.way (k:Nat) (a0 a1:(List V27)):Owp (r2_Meet k a0 a1) fun y=>∃ w c0,exec PR (r2_Meet.cx k) r2_Meet.code 0 (entry (.pair T22 (.pair T22 .unit)) (a0,a1,())).st w (Ret (r2_Meet.cx k) Try.f60 c0 (.one (.dp T4)) y):=by
  unfold r2_Meet; exact
   Owp.bnd fun o8 e9 =>
   Owp.bif (fun e10 =>
   Owp.some (⟨[.cutR 1 ⟨[],[],(r2_Meet.c1p a0 a1),0,.normal,(r2_Meet.c1q a0 a1 o8),0⟩,tT],[],via (cutP trivial [] (r2_Meet.c1p a0 a1) (((r2_Meet.c1_ok k a0 a1).ap e9)) (retP (aI trivial e10) (.one (.dp T4)) (true:Bool))) (by kernel_rfl)⟩)) (fun e10 =>
   Owp.bnd fun o30 e31 =>
   Owp.two (fun y32 e33 =>
   Owp.some (⟨[.cutR 1 ⟨[],[],(r2_Meet.c1p a0 a1),0,.normal,(r2_Meet.c1q a0 a1 o8),0⟩,fF,.cut ⟨[],[],(r2_Meet.c2p a0 a1 (0:Int)),0,.ret,(r2_Meet.c2q (.inl ())),0⟩],[],via (cutP trivial [] (r2_Meet.c1p a0 a1) (((r2_Meet.c1_ok k a0 a1).ap e9)) (cutP (aI trivial e10) [] (r2_Meet.c2p a0 a1 (0:Int)) (((r2_Meet.c2_ok k a0 a1 k (0:Int)).ap (e31.trans (congrArg some e33))).triple) (retP trivial (.one (.dp T4)) (true:Bool)))) (by kernel_rfl)⟩)) (fun y34 e35 =>
   Owp.some (⟨[.cutR 1 ⟨[],[],(r2_Meet.c1p a0 a1),0,.normal,(r2_Meet.c1q a0 a1 o8),0⟩,fF,.cut ⟨[],[],(r2_Meet.c2p a0 a1 (0:Int)),0,(.exit 0),(r2_Meet.c2q (.inr ())),0⟩],[],via (cutP trivial [] (r2_Meet.c1p a0 a1) (((r2_Meet.c1_ok k a0 a1).ap e9)) (cutP (aI trivial e10) [] (r2_Meet.c2p a0 a1 (0:Int)) (((r2_Meet.c2_ok k a0 a1 k (0:Int)).ap (e31.trans (congrArg some e35))).triple) (retP trivial (.one (.dp T4)) (false:Bool)))) (by kernel_rfl)⟩)))
theorem r2_Meet.ok (k:Nat):FnOk PR 60 (r2_Meet.sp k) :=
  fn_ok (r2_Meet.cok k) hmix Try.func60 (code:=r2_Meet.code) (by kernel_rfl) (by kernel_rfl) (by kernel_rfl) rfl rfl (by kernel_rfl) (by kernel_rfl) (by kernel_rfl) (fun x=>Nat.le_of_ble_eq_true (by kernel_rfl)) fun x y hy=>(r2_Meet.way k x.1 x.2.1).ap hy
noncomputable def tourlaw2_near1000.code:Code:=Func.cd Try.f63
def tourlaw2_near1000 (k:Nat) (a0:V27):Option Bool :=
  bif' (ile (imax a0.1 a0.2.1) 65536000)
  (some (ige (imin a0.1 a0.2.1) (-65536000)))
  (some false)
noncomputable def tourlaw2_near1000.sp (k:Nat):Go.Sx.Spec:=⟨(.pair T27 .unit),(.one (.dp T4)),fun x=>tourlaw2_near1000 k x.1,false⟩
noncomputable def tourlaw2_near1000.cx (k:Nat):Go.Sx.Ctx:=⟨tys,[],eqs,17,0,[],false⟩
theorem tourlaw2_near1000.cok (k:Nat):CtxOk PR (tourlaw2_near1000.cx k):=ctx_ok tysOk eqsOk FnsOk.nil HsOk.nil
theorem tourlaw2_near1000.way (k:Nat) (a0:V27):Owp (tourlaw2_near1000 k a0) fun y=>∃ w c0,exec PR (tourlaw2_near1000.cx k) tourlaw2_near1000.code 0 (entry (.pair T27 .unit) (a0,())).st w (Ret (tourlaw2_near1000.cx k) Try.f63 c0 (.one (.dp T4)) y):=by
  unfold tourlaw2_near1000; exact
   Owp.bif (fun e1 =>
   Owp.some (⟨[tT,tT,tT,tT,tT,tT,tT],[],via (retP (aI (aI (aI (aI (aI (aI (aI trivial e1) e1) e1) e1) e1) e1) e1) (.one (.dp T4)) ((ige (imin a0.1 a0.2.1) (-65536000:Int)):Bool)) (by kernel_rfl)⟩)) (fun e1 =>
   Owp.some (⟨[fF,fF,fF,fF,fF,fF,fF],[],via (retP (aI (aI (aI (aI (aI (aI (aI trivial e1) e1) e1) e1) e1) e1) e1) (.one (.dp T4)) (false:Bool)) (by kernel_rfl)⟩))
theorem tourlaw2_near1000.ok (k:Nat):FnOk PR 63 (tourlaw2_near1000.sp k) :=
  fn_ok (tourlaw2_near1000.cok k) hmix Try.func63 (code:=tourlaw2_near1000.code) (by kernel_rfl) (by kernel_rfl) (by kernel_rfl) rfl rfl (by kernel_rfl) (by kernel_rfl) (by kernel_rfl) (fun x=>Nat.le_of_ble_eq_true (by kernel_rfl)) fun x y hy=>(tourlaw2_near1000.way k x.1).ap hy
noncomputable def r2_First.code:Code:=Func.cd Try.f64
def r2_First.c2 (k:Nat) (v2:Int) (y8:(Int × Bool)):Option (Bool) :=
  bif' y8.2
  (bif' (ilt v2 0)
   (some true)
   (some (ile y8.1 v2)))
  (some false)
def r2_First.c3 (k:Nat) (o12:Bool) (v1 v2 v3:Int) (y8:(Int × Bool)):Option ((Int × Int)) :=
  bif' o12
  (some (v3,y8.1))
  (some (v1,v2))
def r2_First.c1 (k:Nat) (a0:(List V67)) (a1:(((List V27) × Unit) → Option (Int × Bool))):Nat → Int → Int → Int → Option ((Int × Int))
  | 0,_,_,_=>none
  | n+1,v1,v2,v3 =>
   bif' (ige v3 0)
   (req (inL v3 a0) <|
   bnd (r2_Placed k (el Z67 a0 v3)) fun y6 =>
   bnd (a1 (y6,())) fun y8 =>
   bnd (r2_First.c2 k v2 y8) fun o12 =>
   bnd (r2_First.c3 k o12 v1 v2 v3 y8) fun o15 =>
   r2_First.c1 k a0 a1 n o15.1 o15.2 (isub .i64 v3 1))
   (some (v1,v2))
def r2_First (k:Nat) (a0:(List V67)) (a1:(((List V27) × Unit) → Option (Int × Bool))):Option (Int × (Int × Int)) :=
  bnd (r2_First.c1 k a0 a1 k 0 (-1) (isub .i64 (len a0) 1)) fun o17 =>
  bif' (ilt o17.2 0)
  (some (0,0,4))
  (some (o17.1,o17.2,0))
noncomputable def r2_First.sp (k:Nat):Go.Sx.Spec:=⟨(.pair (.slice T67) (.pair (.fn2 (.pair T22 .unit) T2 T4) .unit)),(.more (.dp T2) (.more (.dp T2) (.one (.dp T2)))),fun x=>r2_First k x.1 x.2.1,false⟩
noncomputable def r2_First.cx (k:Nat):Go.Sx.Ctx:=⟨tys,[(61,r2_Placed.sp k)],eqs,45,0,[],false⟩
theorem r2_First.cok (k:Nat):CtxOk PR (r2_First.cx k):=ctx_ok tysOk eqsOk (FnsOk.cons (r2_Placed.ok k) FnsOk.nil) HsOk.nil
noncomputable def r2_First.c2p (a0:(List V67)) (a1:(((List V27) × Unit) → Option (Int × Bool))) (v1 v2 v3:Int) (y8:(Int × Bool)):SL:=⟨[(0,(.val (.slice T67) a0)),(1,(.val (.fn2 (.pair T22 .unit) T2 T4) a1)),(7,(.val T2 v1)),(8,(.val T2 v2)),(9,(.val T2 v3)),(10,(.val T2 y8.1)),(11,(.val T4 y8.2))],[]⟩
noncomputable def r2_First.c2q (a0:(List V67)) (a1:(((List V27) × Unit) → Option (Int × Bool))) (v1 v2 v3:Int) (y8:(Int × Bool)) (o:Bool):SL:=(fun v=>⟨[(0,(.val (.slice T67) a0)),(1,(.val (.fn2 (.pair T22 .unit) T2 T4) a1)),(7,(.val T2 v1)),(8,(.val T2 v2)),(9,(.val T2 v3)),(10,(.val T2 y8.1)),(38,(.val T4 v))],[]⟩) o
noncomputable def r2_First.c2x (o:Bool):Ex:=(fun _=>.normal) o
noncomputable def r2_First.c2n (o:Bool):Nat:=(fun _=>0) o
theorem r2_First.c2_ok (k:Nat) (a0:(List V67)) (a1:(((List V27) × Unit) → Option (Int × Bool))) (v1 v2 v3:Int) (y8:(Int × Bool)):Owp (r2_First.c2 k v2 y8) fun o=>Triple PR (r2_First.cx k) (sub r2_First.code [1,1,0,1,0,0,1,0,0,1,0]) 0 (r2_First.c2p a0 a1 v1 v2 v3 y8) (r2_First.c2x o) (r2_First.c2n o) (r2_First.c2q a0 a1 v1 v2 v3 y8 o):=by
  unfold r2_First.c2; exact
   Owp.bif (fun e10 =>
   Owp.bif (fun e11 =>
   Owp.some (triple_way (r2_First.cok k) hmix [tT,tT,tT,tT,tT,tT,tT,tT,tT] [] [] (via (finP (aI (aI (aI (aI (aI (aI (aI (aI trivial e10) e10) e10) e11) e11) e11) (aI e10 e11)) e10) .normal [] (r2_First.c2q a0 a1 v1 v2 v3 y8 true)) (by kernel_rfl)))) (fun e11 =>
   Owp.some (triple_way (r2_First.cok k) hmix [tT,tT,tT,fF,fF,fF,tT,fF,tT] [] [] (via (finP (aI (aI (aI (aI (aI (aI (aI (aI trivial e10) e10) e10) e11) e11) e11) (aI e10 e11)) e10) .normal [] (r2_First.c2q a0 a1 v1 v2 v3 y8 (ile y8.1 v2))) (by kernel_rfl))))) (fun e10 =>
   Owp.some (triple_way (r2_First.cok k) hmix [fF,fF,fF,tT,tT,tT,fF,tT,fF] [] [] (via (finP (aI (aI (aI (aI (aI trivial e10) e10) e10) e10) e10) .normal [] (r2_First.c2q a0 a1 v1 v2 v3 y8 false)) (by kernel_rfl))))
noncomputable def r2_First.c3p (a0:(List V67)) (a1:(((List V27) × Unit) → Option (Int × Bool))) (o12:Bool) (v1 v2 v3:Int) (y8:(Int × Bool)):SL:=⟨[(0,(.val (.slice T67) a0)),(1,(.val (.fn2 (.pair T22 .unit) T2 T4) a1)),(7,(.val T2 v1)),(8,(.val T2 v2)),(9,(.val T2 v3)),(10,(.val T2 y8.1)),(38,(.val T4 o12))],[]⟩
noncomputable def r2_First.c3q (a0:(List V67)) (a1:(((List V27) × Unit) → Option (Int × Bool))) (v3:Int) (o:(Int × Int)):SL:=(fun v=>⟨[(0,(.val (.slice T67) a0)),(1,(.val (.fn2 (.pair T22 .unit) T2 T4) a1)),(7,(.val T2 v.1)),(8,(.val T2 v.2)),(9,(.val T2 v3))],[]⟩) o
noncomputable def r2_First.c3x (o:(Int × Int)):Ex:=(fun _=>.normal) o
noncomputable def r2_First.c3n (o:(Int × Int)):Nat:=(fun _=>0) o
theorem r2_First.c3_ok (k:Nat) (a0:(List V67)) (a1:(((List V27) × Unit) → Option (Int × Bool))) (o12:Bool) (v1 v2 v3:Int) (y8:(Int × Bool)):Owp (r2_First.c3 k o12 v1 v2 v3 y8) fun o=>Triple PR (r2_First.cx k) (sub r2_First.code [1,1,0,1,0,0,1,0,0,1,1]) 0 (r2_First.c3p a0 a1 o12 v1 v2 v3 y8) (r2_First.c3x o) (r2_First.c3n o) (r2_First.c3q a0 a1 v3 o):=by
  unfold r2_First.c3; exact
   Owp.bif (fun e14 =>
   Owp.some (triple_way (r2_First.cok k) hmix [tT] [] [] (via (finP (aI trivial e14) .normal [] (r2_First.c3q a0 a1 v3 (v3,y8.1))) (by kernel_rfl)))) (fun e14 =>
   Owp.some (triple_way (r2_First.cok k) hmix [fF] [] [] (via (finP (aI trivial e14) .normal [] (r2_First.c3q a0 a1 v3 (v1,v2))) (by kernel_rfl))))
noncomputable def r2_First.c1p (a0:(List V67)) (a1:(((List V27) × Unit) → Option (Int × Bool))) (v1 v2 v3:Int):SL:=⟨[(0,(.val (.slice T67) a0)),(1,(.val (.fn2 (.pair T22 .unit) T2 T4) a1)),(7,(.val T2 v1)),(8,(.val T2 v2)),(9,(.val T2 v3))],[]⟩
noncomputable def r2_First.c1q (o:(Int × Int)):SL:=(fun v=>⟨[(7,(.val T2 v.1)),(8,(.val T2 v.2))],[]⟩) o
noncomputable def r2_First.c1x (o:(Int × Int)):Ex:=(fun _=>(.exit 0)) o
noncomputable def r2_First.c1n (o:(Int × Int)):Nat:=(fun _=>0) o
theorem r2_First.c1_ok (k:Nat) (a0:(List V67)) (a1:(((List V27) × Unit) → Option (Int × Bool))):∀ (n:Nat) (v1 v2 v3:Int),Owp (r2_First.c1 k a0 a1 n v1 v2 v3) fun o=>LTriple PR (r2_First.cx k) (sub r2_First.code [1,1,0,1,0,0]) 0 (r2_First.c1p a0 a1 v1 v2 v3) (r2_First.c1x o) (r2_First.c1n o) (r2_First.c1q o)
  | 0,_,_,_=>fun _ h=>nomatch h
  | n+1,v1,v2,v3=>Owp.of (r2_First.c1.eq_2 ..) (
   Owp.bif (fun e4 =>
   Owp.req fun h5 =>
   Owp.bnd fun y6 e7 =>
   Owp.bnd fun y8 e9 =>
   Owp.bnd fun o12 e13 =>
   Owp.bnd fun o15 e16 =>
   fun y hy=>loop_back (r2_First.cok k) hmix 0 (r2_First.c1p a0 a1 o15.1 o15.2 (isub .i64 v3 (1:Int))) [tT,.res (.one (.ow T27 28)) y6,.res (.more (.dp T2) (.one (.dp T4))) y8,.cutR 6 ⟨[],[],(r2_First.c2p a0 a1 v1 v2 v3 y8),0,.normal,(r2_First.c2q a0 a1 v1 v2 v3 y8 o12),0⟩,.cut ⟨[],[],(r2_First.c3p a0 a1 o12 v1 v2 v3 y8),0,.normal,(r2_First.c3q a0 a1 v3 o15),0⟩] [] [] (via (cutP (aI (aI (aI (aI trivial e4) h5) e7) e9) [] (r2_First.c2p a0 a1 v1 v2 v3 y8) (((r2_First.c2_ok k a0 a1 v1 v2 v3 y8).ap e13)) (cutP trivial [] (r2_First.c3p a0 a1 o12 v1 v2 v3 y8) (((r2_First.c3_ok k a0 a1 o12 v1 v2 v3 y8).ap e16)) (finP trivial .normal [] (r2_First.c1p a0 a1 o15.1 o15.2 (isub .i64 v3 (1:Int)))))) (by kernel_rfl)) ((r2_First.c1_ok k a0 a1 n o15.1 o15.2 (isub .i64 v3 (1:Int))).ap hy)) (fun e4 =>
   Owp.some (loop_exit (r2_First.cok k) hmix [fF] [] [] (exne 0) (via (finP (aI trivial e4) (.exit 0) [] (r2_First.c1q (v1,v2))) (by kernel_rfl)))))
theorem r2_First.way (k:Nat) (a0:(List V67)) (a1:(((List V27) × Unit) → Option (Int × Bool))):Owp (r2_First k a0 a1) fun y=>∃ w c0,exec PR (r2_First.cx k) r2_First.code 0 (entry (.pair (.slice T67) (.pair (.fn2 (.pair T22 .unit) T2 T4) .unit)) (a0,a1,())).st w (Ret (r2_First.cx k) Try.f64 c0 (.more (.dp T2) (.more (.dp T2) (.one (.dp T2)))) y):=by
  unfold r2_First; exact
   Owp.bnd fun o17 e18 =>
   Owp.bif (fun e19 =>
   Owp.some (⟨[.cut ⟨[],[],(r2_First.c1p a0 a1 (0:Int) (-1:Int) (isub .i64 (len a0) (1:Int))),0,(.exit 0),(r2_First.c1q o17),0⟩,tT],[],via (cutP trivial [] (r2_First.c1p a0 a1 (0:Int) (-1:Int) (isub .i64 (len a0) (1:Int))) (((r2_First.c1_ok k a0 a1 k (0:Int) (-1:Int) (isub .i64 (len a0) (1:Int))).ap e18).triple) (retP (aI trivial e19) (.more (.dp T2) (.more (.dp T2) (.one (.dp T2)))) (((0:Int),(0:Int),(4:Int)):(Int × (Int × Int))))) (by kernel_rfl)⟩)) (fun e19 =>
   Owp.some (⟨[.cut ⟨[],[],(r2_First.c1p a0 a1 (0:Int) (-1:Int) (isub .i64 (len a0) (1:Int))),0,(.exit 0),(r2_First.c1q o17),0⟩,fF],[],via (cutP trivial [] (r2_First.c1p a0 a1 (0:Int) (-1:Int) (isub .i64 (len a0) (1:Int))) (((r2_First.c1_ok k a0 a1 k (0:Int) (-1:Int) (isub .i64 (len a0) (1:Int))).ap e18).triple) (retP (aI trivial e19) (.more (.dp T2) (.more (.dp T2) (.one (.dp T2)))) ((o17.1,o17.2,(0:Int)):(Int × (Int × Int))))) (by kernel_rfl)⟩))
theorem r2_First.ok (k:Nat):FnOk PR 64 (r2_First.sp k) :=
  fn_ok (r2_First.cok k) hmix Try.func64 (code:=r2_First.code) (by kernel_rfl) (by kernel_rfl) (by kernel_rfl) rfl rfl (by kernel_rfl) (by kernel_rfl) (by kernel_rfl) (fun x=>Nat.le_of_ble_eq_true (by kernel_rfl)) fun x y hy=>(r2_First.way k x.1 x.2.1).ap hy
noncomputable def r2_Out.code:Code:=Func.cd Try.f133
def r2_Out (k:Nat) (a0:(List V27)) (a1:Int):Option V27 :=
  req (nz (len a0)) <|
  req (inL (irem (iadd .i64 a1 1) (len a0)) a0) <|
  req (inL a1 a0) <|
  bnd (r2_sub k (el Z27 a0 (irem (iadd .i64 a1 1) (len a0))) (el Z27 a0 a1)) fun y4 =>
  some (y4.2.1,(ineg .i64 y4.1),())
noncomputable def r2_Out.sp (k:Nat):Go.Sx.Spec:=⟨(.pair T22 (.pair T2 .unit)),(.one (.dp T27)),fun x=>r2_Out k x.1 x.2.1,false⟩
noncomputable def r2_Out.cx (k:Nat):Go.Sx.Ctx:=⟨tys,[(135,r2_sub.sp k)],eqs,25,0,[],false⟩
theorem r2_Out.cok (k:Nat):CtxOk PR (r2_Out.cx k):=ctx_ok tysOk eqsOk (FnsOk.cons (r2_sub.ok k) FnsOk.nil) HsOk.nil
theorem r2_Out.way (k:Nat) (a0:(List V27)) (a1:Int):Owp (r2_Out k a0 a1) fun y=>∃ w c0,exec PR (r2_Out.cx k) r2_Out.code 0 (entry (.pair T22 (.pair T2 .unit)) (a0,a1,())).st w (Ret (r2_Out.cx k) Try.f133 c0 (.one (.dp T27)) y):=by
  unfold r2_Out; exact
   Owp.req fun h1 =>
   Owp.req fun h2 =>
   Owp.req fun h3 =>
   Owp.bnd fun y4 e5 =>
   Owp.some (⟨[rS T27 y4],[],via (retP (aI (aI (aI (aI trivial h1) h2) h3) e5) (.one (.dp T27)) ((y4.2.1,(ineg .i64 y4.1),()):V27)) (by kernel_rfl)⟩)
theorem r2_Out.ok (k:Nat):FnOk PR 133 (r2_Out.sp k) :=
  fn_ok (r2_Out.cok k) hmix Try.func133 (code:=r2_Out.code) (by kernel_rfl) (by kernel_rfl) (by kernel_rfl) rfl rfl (by kernel_rfl) (by kernel_rfl) (by kernel_rfl) (fun x=>Nat.le_of_ble_eq_true (by kernel_rfl)) fun x y hy=>(r2_Out.way k x.1 x.2.1).ap hy
noncomputable def r2_part.code:Code:=Func.cd Try.f137
def r2_part.c1 (k:Nat) (a0 a1:(List Int)) (y1:Bool):Option (((List Int) × (List Int))) :=
  bif' y1
  (bnd (r2_Big_Neg k a0) fun y4 =>
   bnd (r2_Big_Neg k a1) fun y6 =>
   some (y4,y6))
  (some (a0,a1))
def r2_part.c3 (k:Nat) (v10 v11 y21:Int):Option (Int) :=
  bif' (ile y21 0)
  (some (iadd .i64 v10 v11))
  (some v10)
def r2_part.c2 (k:Nat) (o8:((List Int) × (List Int))):Nat → Int → Int → Option (Int)
  | 0,_,_=>none
  | n+1,v10,v11 =>
   bif' (igt v11 0)
   (bnd (r2_Of k (iadd .i64 v10 v11)) fun y13 =>
   bnd (r2_Big_Mul k y13 o8.2) fun y15 =>
   bnd (r2_Of k 65536) fun y17 =>
   bnd (r2_Big_Mul k o8.1 y17) fun y19 =>
   bnd (r2_Big_Cmp k y15 y19) fun y21 =>
   bnd (r2_part.c3 k v10 v11 y21) fun o24 =>
   r2_part.c2 k o8 n o24 (iquo .i64 v11 2))
   (some v10)
def r2_part (k:Nat) (a0 a1:(List Int)):Option Int :=
  bnd (r2_Big_Below k a1) fun y1 =>
  bnd (r2_part.c1 k a0 a1 y1) fun o8 =>
  bnd (r2_part.c2 k o8 k 0 65536) fun o26 =>
  some (imin o26 65536)
noncomputable def r2_part.sp (k:Nat):Go.Sx.Spec:=⟨(.pair T141 (.pair T141 .unit)),(.one (.dp T2)),fun x=>r2_part k x.1 x.2.1,false⟩
noncomputable def r2_part.cx (k:Nat):Go.Sx.Ctx:=⟨tys,[(182,r2_Big_Below.sp k),(183,r2_Big_Neg.sp k),(179,r2_Of.sp k),(180,r2_Big_Mul.sp k),(136,r2_Big_Cmp.sp k)],eqs,33,0,[],false⟩
theorem r2_part.cok (k:Nat):CtxOk PR (r2_part.cx k):=ctx_ok tysOk eqsOk (FnsOk.cons (r2_Big_Below.ok k) (FnsOk.cons (r2_Big_Neg.ok k) (FnsOk.cons (r2_Of.ok k) (FnsOk.cons (r2_Big_Mul.ok k) (FnsOk.cons (r2_Big_Cmp.ok k) FnsOk.nil))))) HsOk.nil
noncomputable def r2_part.c1p (a0 a1:(List Int)) (y1:Bool):SL:=⟨[(2,(.val .ptr ⟨0,0,(0:Int),0,0⟩)),(3,(.val .ptr ⟨1,0,(0:Int),0,0⟩)),(8,(.val T4 y1))],[(0,.cells T141 a0),(1,.cells T141 a1)]⟩
noncomputable def r2_part.c1q (o:((List Int) × (List Int))):SL:=(fun v=>⟨[(2,(.val .ptr ⟨0,0,(0:Int),0,0⟩)),(3,(.val .ptr ⟨1,0,(0:Int),0,0⟩))],[(0,.cells T141 v.1),(1,.cells T141 v.2)]⟩) o
noncomputable def r2_part.c1x (o:((List Int) × (List Int))):Ex:=(fun _=>.normal) o
noncomputable def r2_part.c1n (o:((List Int) × (List Int))):Nat:=(fun _=>2) o
theorem r2_part.c1_ok (k:Nat) (a0 a1:(List Int)) (y1:Bool):Owp (r2_part.c1 k a0 a1 y1) fun o=>Triple PR (r2_part.cx k) (sub r2_part.code [1,0,1]) 2 (r2_part.c1p a0 a1 y1) (r2_part.c1x o) (r2_part.c1n o) (r2_part.c1q o):=by
  unfold r2_part.c1; exact
   Owp.bif (fun e3 =>
   Owp.bnd fun y4 e5 =>
   Owp.bnd fun y6 e7 =>
   Owp.some (triple_way (r2_part.cok k) hmix [tT,rS T141 y4,rS T141 y6] [] [(0,0),(1,1)] (via (finP (aI (aI (aI trivial e3) e5) e7) .normal [(0,0),(1,1)] (r2_part.c1q (y4,y6))) (by kernel_rfl)))) (fun e3 =>
   Owp.some (triple_way (r2_part.cok k) hmix [fF] [] [(0,0),(1,1)] (via (finP (aI trivial e3) .normal [(0,0),(1,1)] (r2_part.c1q (a0,a1))) (by kernel_rfl))))
noncomputable def r2_part.c3p (o8:((List Int) × (List Int))) (v10 v11 y21:Int):SL:=⟨[(2,(.val .ptr ⟨0,0,(0:Int),0,0⟩)),(3,(.val .ptr ⟨1,0,(0:Int),0,0⟩)),(5,(.val T2 v10)),(6,(.val T2 v11)),(27,(.val T4 (ile y21 (0:Int))))],[(0,.cells T141 o8.1),(1,.cells T141 o8.2)]⟩
noncomputable def r2_part.c3q (o8:((List Int) × (List Int))) (v11 o:Int):SL:=(fun v=>⟨[(2,(.val .ptr ⟨0,0,(0:Int),0,0⟩)),(3,(.val .ptr ⟨1,0,(0:Int),0,0⟩)),(5,(.val T2 v)),(6,(.val T2 v11))],[(0,.cells T141 o8.1),(1,.cells T141 o8.2)]⟩) o
noncomputable def r2_part.c3x (o:Int):Ex:=(fun _=>.normal) o
noncomputable def r2_part.c3n (o:Int):Nat:=(fun _=>2) o
theorem r2_part.c3_ok (k:Nat) (o8:((List Int) × (List Int))) (v10 v11 y21:Int):Owp (r2_part.c3 k v10 v11 y21) fun o=>Triple PR (r2_part.cx k) (sub r2_part.code [1,1,1,0,1,0,0,1,0,0,1]) 2 (r2_part.c3p o8 v10 v11 y21) (r2_part.c3x o) (r2_part.c3n o) (r2_part.c3q o8 v11 o):=by
  unfold r2_part.c3; exact
   Owp.bif (fun e23 =>
   Owp.some (triple_way (r2_part.cok k) hmix [tT] [] [(0,0),(1,1)] (via (finP (aI trivial e23) .normal [(0,0),(1,1)] (r2_part.c3q o8 v11 (iadd .i64 v10 v11))) (by kernel_rfl)))) (fun e23 =>
   Owp.some (triple_way (r2_part.cok k) hmix [fF] [] [(0,0),(1,1)] (via (finP (aI trivial e23) .normal [(0,0),(1,1)] (r2_part.c3q o8 v11 v10)) (by kernel_rfl))))
noncomputable def r2_part.c2p (o8:((List Int) × (List Int))) (v10 v11:Int):SL:=⟨[(2,(.val .ptr ⟨0,0,(0:Int),0,0⟩)),(3,(.val .ptr ⟨1,0,(0:Int),0,0⟩)),(5,(.val T2 v10)),(6,(.val T2 v11))],[(0,.cells T141 o8.1),(1,.cells T141 o8.2)]⟩
noncomputable def r2_part.c2q (o:Int):SL:=(fun v=>⟨[(5,(.val T2 v))],[]⟩) o
noncomputable def r2_part.c2x (o:Int):Ex:=(fun _=>(.exit 0)) o
noncomputable def r2_part.c2n (o:Int):Nat:=(fun _=>0) o
theorem r2_part.c2_ok (k:Nat) (o8:((List Int) × (List Int))):∀ (n:Nat) (v10 v11:Int),Owp (r2_part.c2 k o8 n v10 v11) fun o=>LTriple PR (r2_part.cx k) (sub r2_part.code [1,1,1,0,1,0,0]) 2 (r2_part.c2p o8 v10 v11) (r2_part.c2x o) (r2_part.c2n o) (r2_part.c2q o)
  | 0,_,_=>fun _ h=>nomatch h
  | n+1,v10,v11=>Owp.of (r2_part.c2.eq_2 ..) (
   Owp.bif (fun e12 =>
   Owp.bnd fun y13 e14 =>
   Owp.bnd fun y15 e16 =>
   Owp.bnd fun y17 e18 =>
   Owp.bnd fun y19 e20 =>
   Owp.bnd fun y21 e22 =>
   Owp.bnd fun o24 e25 =>
   fun y hy=>loop_back (r2_part.cok k) hmix 2 (r2_part.c2p o8 o24 (iquo .i64 v11 (2:Int))) [tT,rS T141 y13,rS T141 y15,rS T141 y17,rS T141 y19,rS T2 y21,.cut ⟨[],[(0,0),(1,1)],(r2_part.c3p o8 v10 v11 y21),2,.normal,(r2_part.c3q o8 v11 o24),2⟩] [] [(0,0),(1,1)] (via (cutP (aI (aI (aI (aI (aI (aI trivial e12) e14) e16) e18) e20) e22) [(0,0),(1,1)] (r2_part.c3p o8 v10 v11 y21) (((r2_part.c3_ok k o8 v10 v11 y21).ap e25)) (finP (aI trivial (by decide:nz (2:Int))) .normal [(0,0),(1,1)] (r2_part.c2p o8 o24 (iquo .i64 v11 (2:Int))))) (by kernel_rfl)) ((r2_part.c2_ok k o8 n o24 (iquo .i64 v11 (2:Int))).ap hy)) (fun e12 =>
   Owp.some (loop_exit (r2_part.cok k) hmix [fF] [] [] (exne 0) (via (finP (aI trivial e12) (.exit 0) [] (r2_part.c2q v10)) (by kernel_rfl)))))
theorem r2_part.way (k:Nat) (a0 a1:(List Int)):Owp (r2_part k a0 a1) fun y=>∃ w c0,exec PR (r2_part.cx k) r2_part.code 0 (entry (.pair T141 (.pair T141 .unit)) (a0,a1,())).st w (Ret (r2_part.cx k) Try.f137 c0 (.one (.dp T2)) y):=by
  unfold r2_part; exact
   Owp.bnd fun y1 e2 =>
   Owp.bnd fun o8 e9 =>
   Owp.bnd fun o26 e27 =>
   Owp.some (⟨[rS T4 y1,.cut ⟨[],[(0,0),(1,1)],(r2_part.c1p a0 a1 y1),2,.normal,(r2_part.c1q o8),2⟩,.cut ⟨[],[(0,0),(1,1)],(r2_part.c2p o8 (0:Int) (65536:Int)),2,(.exit 0),(r2_part.c2q o26),0⟩],[],via (cutP (aI trivial e2) [(0,0),(1,1)] (r2_part.c1p a0 a1 y1) (((r2_part.c1_ok k a0 a1 y1).ap e9)) (cutP trivial [(0,0),(1,1)] (r2_part.c2p o8 (0:Int) (65536:Int)) (((r2_part.c2_ok k o8 k (0:Int) (65536:Int)).ap e27).triple) (retP trivial (.one (.dp T2)) ((imin o26 (65536:Int)):Int)))) (by kernel_rfl)⟩)
theorem r2_part.ok (k:Nat):FnOk PR 137 (r2_part.sp k) :=
  fn_ok (r2_part.cok k) hmix Try.func137 (code:=r2_part.code) (by kernel_rfl) (by kernel_rfl) (by kernel_rfl) rfl rfl (by kernel_rfl) (by kernel_rfl) (by kernel_rfl) (fun x=>Nat.le_of_ble_eq_true (by kernel_rfl)) fun x y hy=>(r2_part.way k x.1 x.2.1).ap hy
noncomputable def r2_Line.code:Code:=Func.cd Try.f66
def r2_Line.c1 (k:Nat) (a0:(List V27)) (a1:V27):Nat → Bool → Int → Option (Bool)
  | 0,_,_=>none
  | n+1,v1,v2 =>
   bif' (ilt v2 (len a0))
   (req (inL v2 a0) <|
   bif' v1
   (req (nz (len a0)) <|
   req (inL (irem (iadd .i64 v2 1) (len a0)) a0) <|
   bnd (r2_left k (el Z27 a0 v2) (el Z27 a0 (irem (iadd .i64 v2 1) (len a0))) a1) fun y8 =>
   r2_Line.c1 k a0 a1 n (ige y8 0) (iadd .i64 v2 1))
   (r2_Line.c1 k a0 a1 n false (iadd .i64 v2 1)))
   (some v1)
def r2_Line.c4 (k:Nat) (y36 y40:(List Int)) (y42:Int):Option ((List Int)) :=
  bif' (ilt y42 0)
  (some y40)
  (some y36)
def r2_Line.c3 (k:Nat) (a0:(List V27)) (a1 a2:V27) (v15:Int) (y27 y29:(List Int)) (y31:Int):Option (Int) :=
  bif' (ieq y31 0)
  (bnd (r2_sub k (el Z27 a0 v15) a1) fun y34 =>
   bnd (r2_Dot k y34 a2) fun y36 =>
   bnd (r2_sub k (el Z27 a0 (irem (iadd .i64 v15 1) (len a0))) a1) fun y38 =>
   bnd (r2_Dot k y38 a2) fun y40 =>
   bnd (r2_Big_Cmp k y40 y36) fun y42 =>
   bnd (r2_Line.c4 k y36 y40 y42) fun o45 =>
   bnd (r2_Dot k a2 a2) fun y47 =>
   bnd (r2_part k o45 y47) fun y49 =>
   some y49)
  (bnd (r2_part k y27 y29) fun y51 =>
   some y51)
def r2_Line.c5 (k:Nat) (o53 v13:Int) (v14:Bool):Option (Bool) :=
  bif' v14
  (some (ilt o53 v13))
  (some true)
def r2_Line.c2 (k:Nat) (a0:(List V27)) (a1 a2:V27):Nat → Int → Bool → Int → Option ((Int × Bool))
  | 0,_,_,_=>none
  | n+1,v13,v14,v15 =>
   bif' (ilt v15 (len a0))
   (req (inL v15 a0) <|
   req (nz (len a0)) <|
   req (inL (irem (iadd .i64 v15 1) (len a0)) a0) <|
   bnd (r2_cross k (el Z27 a0 v15) (el Z27 a0 (irem (iadd .i64 v15 1) (len a0))) a1 ((iadd .i64 a1.1 a2.1),(iadd .i64 a1.2.1 a2.2.1),())) fun y20 =>
   bif' y20
   (bnd (r2_Out k a0 v15) fun y23 =>
   bnd (r2_sub k (el Z27 a0 v15) a1) fun y25 =>
   bnd (r2_Dot k y23 y25) fun y27 =>
   bnd (r2_Dot k y23 a2) fun y29 =>
   bnd (r2_Big_Cmp k y29 (List.replicate 8 0)) fun y31 =>
   bnd (r2_Line.c3 k a0 a1 a2 v15 y27 y29 y31) fun o53 =>
   bnd (r2_Line.c5 k o53 v13 v14) fun o56 =>
   bif' o56
   (r2_Line.c2 k a0 a1 a2 n o53 true (iadd .i64 v15 1))
   (r2_Line.c2 k a0 a1 a2 n v13 v14 (iadd .i64 v15 1)))
   (r2_Line.c2 k a0 a1 a2 n v13 v14 (iadd .i64 v15 1)))
   (some (v13,v14))
def r2_Line (k:Nat) (a0:(List V27)) (a1 a2:V27):Option (Int × Bool) :=
  bnd (r2_Line.c1 k a0 a1 k true 0) fun o10 =>
  bif' o10
  (some (0,true))
  (bnd (r2_Line.c2 k a0 a1 a2 k 0 false 0) fun o59 =>
   some (o59.1,o59.2))
noncomputable def r2_Line.sp (k:Nat):Go.Sx.Spec:=⟨(.pair T22 T41),(.more (.dp T2) (.one (.dp T4))),fun x=>r2_Line k x.1 x.2.1 x.2.2.1,false⟩
noncomputable def r2_Line.cx (k:Nat):Go.Sx.Ctx:=⟨tys,[(130,r2_left.sp k),(132,r2_cross.sp k),(133,r2_Out.sp k),(135,r2_sub.sp k),(134,r2_Dot.sp k),(136,r2_Big_Cmp.sp k),(137,r2_part.sp k)],eqs,130,0,[],false⟩
theorem r2_Line.cok (k:Nat):CtxOk PR (r2_Line.cx k):=ctx_ok tysOk eqsOk (FnsOk.cons (r2_left.ok k) (FnsOk.cons (r2_cross.ok k) (FnsOk.cons (r2_Out.ok k) (FnsOk.cons (r2_sub.ok k) (FnsOk.cons (r2_Dot.ok k) (FnsOk.cons (r2_Big_Cmp.ok k) (FnsOk.cons (r2_part.ok k) FnsOk.nil))))))) HsOk.nil
noncomputable def r2_Line.c1p (a0:(List V27)) (a1 a2:V27) (v1:Bool) (v2:Int):SL:=⟨[(0,(.val T22 a0)),(4,(.val .ptr ⟨0,0,(0:Int),0,0⟩)),(5,(.val .ptr ⟨1,0,(0:Int),0,0⟩)),(8,(.val T4 v1)),(24,(.val T22 a0)),(25,(.val T2 (len a0))),(26,(.val T2 v2))],[(0,.cells T27 a1),(1,.cells T27 a2)]⟩
noncomputable def r2_Line.c1q (a0:(List V27)) (a1 a2:V27) (o:Bool):SL:=(fun v=>⟨[(0,(.val T22 a0)),(4,(.val .ptr ⟨0,0,(0:Int),0,0⟩)),(5,(.val .ptr ⟨1,0,(0:Int),0,0⟩)),(8,(.val T4 v))],[(0,.cells T27 a1),(1,.cells T27 a2)]⟩) o
noncomputable def r2_Line.c1x (o:Bool):Ex:=(fun _=>(.exit 0)) o
noncomputable def r2_Line.c1n (o:Bool):Nat:=(fun _=>2) o
theorem r2_Line.c1_ok (k:Nat) (a0:(List V27)) (a1 a2:V27):∀ (n:Nat) (v1:Bool) (v2:Int),Owp (r2_Line.c1 k a0 a1 n v1 v2) fun o=>LTriple PR (r2_Line.cx k) (sub r2_Line.code [1,1,0,1,0,0]) 2 (r2_Line.c1p a0 a1 a2 v1 v2) (r2_Line.c1x o) (r2_Line.c1n o) (r2_Line.c1q a0 a1 a2 o)
  | 0,_,_=>fun _ h=>nomatch h
  | n+1,v1,v2=>Owp.of (r2_Line.c1.eq_2 ..) (
   Owp.bif (fun e3 =>
   Owp.req fun h4 =>
   Owp.bif (fun e5 =>
   Owp.req fun h6 =>
   Owp.req fun h7 =>
   Owp.bnd fun y8 e9 =>
   fun y hy=>loop_back (r2_Line.cok k) hmix 2 (r2_Line.c1p a0 a1 a2 (ige y8 (0:Int)) (iadd .i64 v2 (1:Int))) [tT,tT,tT,tT,tT,tT,tT,tT,tT,tT,tT,tT,rS T2 y8,tT,tT] [] [(0,0),(1,1)] (via (finP (aI (aI (aI (aI (aI (aI (aI (aI (aI (aI (aI (aI (aI (aI (aI trivial e3) h4) e5) e5) e5) e5) e5) e5) (aI e5 h6)) (aI e5 h7)) e5) e5) (aI e5 e9)) e5) e5) .normal [(0,0),(1,1)] (r2_Line.c1p a0 a1 a2 (ige y8 (0:Int)) (iadd .i64 v2 (1:Int)))) (by kernel_rfl)) ((r2_Line.c1_ok k a0 a1 a2 n (ige y8 (0:Int)) (iadd .i64 v2 (1:Int))).ap hy)) (fun e5 =>
   fun y hy=>loop_back (r2_Line.cok k) hmix 2 (r2_Line.c1p a0 a1 a2 false (iadd .i64 v2 (1:Int))) [tT,fF,fF,fF,fF,fF,fF,fF,fF,fF,fF,fF,tT,fF,fF] [] [(0,0),(1,1)] (via (finP (aI (aI (aI (aI (aI (aI (aI (aI (aI (aI (aI (aI (aI (aI (aI trivial e3) h4) e5) e5) e5) e5) e5) e5) e5) e5) e5) e5) e5) e5) e5) .normal [(0,0),(1,1)] (r2_Line.c1p a0 a1 a2 false (iadd .i64 v2 (1:Int)))) (by kernel_rfl)) ((r2_Line.c1_ok k a0 a1 a2 n false (iadd .i64 v2 (1:Int))).ap hy))) (fun e3 =>
   Owp.some (loop_exit (r2_Line.cok k) hmix [fF] [] [(0,0),(1,1)] (exne 0) (via (finP (aI trivial e3) (.exit 0) [(0,0),(1,1)] (r2_Line.c1q a0 a1 a2 v1)) (by kernel_rfl)))))
noncomputable def r2_Line.c4p (a0:(List V27)) (a1 a2:V27) (v13:Int) (v14:Bool) (v15:Int) (y36 y40:(List Int)) (y42:Int):SL:=⟨[(0,(.val T22 a0)),(4,(.val .ptr ⟨0,0,(0:Int),0,0⟩)),(5,(.val .ptr ⟨1,0,(0:Int),0,0⟩)),(11,(.val .ptr ⟨2,0,(0:Int),0,0⟩)),(12,(.val T2 v13)),(13,(.val T4 v14)),(18,(.val .ptr ⟨3,0,(0:Int),0,0⟩)),(22,(.val .ptr ⟨4,0,(0:Int),0,0⟩)),(23,(.val .ptr ⟨5,0,(0:Int),0,0⟩)),(59,(.val T22 a0)),(60,(.val T2 (len a0))),(61,(.val T2 v15)),(109,(.val T4 (ilt y42 (0:Int))))],[(0,.cells T27 a1),(1,.cells T27 a2),(2,.cells T27 ((iadd .i64 a1.1 a2.1),(iadd .i64 a1.2.1 a2.2.1),())),(3,.cells T27 a2),(4,.cells T141 y36),(5,.cells T141 y40)]⟩
noncomputable def r2_Line.c4q (a0:(List V27)) (a1 a2:V27) (v13:Int) (v14:Bool) (v15:Int) (o:(List Int)):SL:=(fun v=>⟨[(0,(.val T22 a0)),(4,(.val .ptr ⟨0,0,(0:Int),0,0⟩)),(5,(.val .ptr ⟨1,0,(0:Int),0,0⟩)),(11,(.val .ptr ⟨2,0,(0:Int),0,0⟩)),(12,(.val T2 v13)),(13,(.val T4 v14)),(18,(.val .ptr ⟨3,0,(0:Int),0,0⟩)),(22,(.val .ptr ⟨4,0,(0:Int),0,0⟩)),(59,(.val T22 a0)),(60,(.val T2 (len a0))),(61,(.val T2 v15))],[(0,.cells T27 a1),(1,.cells T27 a2),(2,.cells T27 ((iadd .i64 a1.1 a2.1),(iadd .i64 a1.2.1 a2.2.1),())),(3,.cells T27 a2),(4,.cells T141 v)]⟩) o
noncomputable def r2_Line.c4x (o:(List Int)):Ex:=(fun _=>.normal) o
noncomputable def r2_Line.c4n (o:(List Int)):Nat:=(fun _=>5) o
theorem r2_Line.c4_ok (k:Nat) (a0:(List V27)) (a1 a2:V27) (v13:Int) (v14:Bool) (v15:Int) (y36 y40:(List Int)) (y42:Int):Owp (r2_Line.c4 k y36 y40 y42) fun o=>Triple PR (r2_Line.cx k) (sub r2_Line.code [1,1,1,1,1,1,0,1,0,0,1,1,0,0,1,1,1,1,1,1,0,1,0,1,0,1]) 6 (r2_Line.c4p a0 a1 a2 v13 v14 v15 y36 y40 y42) (r2_Line.c4x o) (r2_Line.c4n o) (r2_Line.c4q a0 a1 a2 v13 v14 v15 o):=by
  unfold r2_Line.c4; exact
   Owp.bif (fun e44 =>
   Owp.some (triple_way (r2_Line.cok k) hmix [tT] [] [(0,0),(1,1),(2,2),(3,3),(4,4)] (via (finP (aI trivial e44) .normal [(0,0),(1,1),(2,2),(3,3),(4,4)] (r2_Line.c4q a0 a1 a2 v13 v14 v15 y40)) (by kernel_rfl)))) (fun e44 =>
   Owp.some (triple_way (r2_Line.cok k) hmix [fF] [] [(0,0),(1,1),(2,2),(3,3),(4,4)] (via (finP (aI trivial e44) .normal [(0,0),(1,1),(2,2),(3,3),(4,4)] (r2_Line.c4q a0 a1 a2 v13 v14 v15 y36)) (by kernel_rfl))))
noncomputable def r2_Line.c3p (a0:(List V27)) (a1 a2:V27) (v13:Int) (v14:Bool) (v15:Int) (y27 y29:(List Int)) (y31:Int):SL:=⟨[(0,(.val T22 a0)),(4,(.val .ptr ⟨0,0,(0:Int),0,0⟩)),(5,(.val .ptr ⟨1,0,(0:Int),0,0⟩)),(11,(.val .ptr ⟨2,0,(0:Int),0,0⟩)),(12,(.val T2 v13)),(13,(.val T4 v14)),(15,(.val .ptr ⟨3,0,(0:Int),0,0⟩)),(16,(.val .ptr ⟨4,0,(0:Int),0,0⟩)),(18,(.val .ptr ⟨5,0,(0:Int),0,0⟩)),(19,(.val .ptr ⟨6,0,(0:Int),0,0⟩)),(20,(.val .ptr ⟨7,0,(0:Int),0,0⟩)),(59,(.val T22 a0)),(60,(.val T2 (len a0))),(61,(.val T2 v15)),(95,(.val T4 (ieq y31 (0:Int))))],[(0,.cells T27 a1),(1,.cells T27 a2),(2,.cells T27 ((iadd .i64 a1.1 a2.1),(iadd .i64 a1.2.1 a2.2.1),())),(3,.cells T27 (el Z27 a0 v15)),(4,.cells T27 (el Z27 a0 (irem (iadd .i64 v15 (1:Int)) (len a0)))),(5,.cells T27 a2),(6,.cells T141 y27),(7,.cells T141 y29)]⟩
noncomputable def r2_Line.c3q (a0:(List V27)) (a1 a2:V27) (v13:Int) (v14:Bool) (v15 o:Int):SL:=(fun v=>⟨[(0,(.val T22 a0)),(4,(.val .ptr ⟨0,0,(0:Int),0,0⟩)),(5,(.val .ptr ⟨1,0,(0:Int),0,0⟩)),(11,(.val .ptr ⟨2,0,(0:Int),0,0⟩)),(12,(.val T2 v13)),(13,(.val T4 v14)),(21,(.val T2 v)),(59,(.val T22 a0)),(60,(.val T2 (len a0))),(61,(.val T2 v15))],[(0,.cells T27 a1),(1,.cells T27 a2),(2,.cells T27 ((iadd .i64 a1.1 a2.1),(iadd .i64 a1.2.1 a2.2.1),()))]⟩) o
noncomputable def r2_Line.c3x (o:Int):Ex:=(fun _=>.normal) o
noncomputable def r2_Line.c3n (o:Int):Nat:=(fun _=>3) o
theorem r2_Line.c3_ok (k:Nat) (a0:(List V27)) (a1 a2:V27) (v13:Int) (v14:Bool) (v15:Int) (y27 y29:(List Int)) (y31:Int):Owp (r2_Line.c3 k a0 a1 a2 v15 y27 y29 y31) fun o=>Triple PR (r2_Line.cx k) (sub r2_Line.code [1,1,1,1,1,1,0,1,0,0,1,1,0,0,1,1,1,1,1,1,0,1]) 8 (r2_Line.c3p a0 a1 a2 v13 v14 v15 y27 y29 y31) (r2_Line.c3x o) (r2_Line.c3n o) (r2_Line.c3q a0 a1 a2 v13 v14 v15 o):=by
  unfold r2_Line.c3; exact
   Owp.bif (fun e33 =>
   Owp.bnd fun y34 e35 =>
   Owp.bnd fun y36 e37 =>
   Owp.bnd fun y38 e39 =>
   Owp.bnd fun y40 e41 =>
   Owp.bnd fun y42 e43 =>
   Owp.bnd fun o45 e46 =>
   Owp.bnd fun y47 e48 =>
   Owp.bnd fun y49 e50 =>
   Owp.some (triple_way (r2_Line.cok k) hmix [tT,rS T27 y34,rS T141 y36,rS T27 y38,rS T141 y40,rS T2 y42,.cut ⟨[],[(0,0),(1,1),(2,2),(3,5),(4,18),(5,19)],(r2_Line.c4p a0 a1 a2 v13 v14 v15 y36 y40 y42),6,.normal,(r2_Line.c4q a0 a1 a2 v13 v14 v15 o45),5⟩,rS T141 y47,rS T2 y49] [] [(0,0),(1,1),(2,2)] (via (cutP (aI (aI (aI (aI (aI (aI trivial e33) e35) e37) e39) e41) e43) [(0,0),(1,1),(2,2),(3,5),(4,18),(5,19)] (r2_Line.c4p a0 a1 a2 v13 v14 v15 y36 y40 y42) (((r2_Line.c4_ok k a0 a1 a2 v13 v14 v15 y36 y40 y42).ap e46)) (finP (aI (aI trivial e48) e50) .normal [(0,0),(1,1),(2,2)] (r2_Line.c3q a0 a1 a2 v13 v14 v15 y49))) (by kernel_rfl)))) (fun e33 =>
   Owp.bnd fun y51 e52 =>
   Owp.some (triple_way (r2_Line.cok k) hmix [fF,rS T2 y51] [] [(0,0),(1,1),(2,2)] (via (finP (aI (aI trivial e33) e52) .normal [(0,0),(1,1),(2,2)] (r2_Line.c3q a0 a1 a2 v13 v14 v15 y51)) (by kernel_rfl))))
noncomputable def r2_Line.c5p (a0:(List V27)) (a1 a2:V27) (o53 v13:Int) (v14:Bool) (v15:Int):SL:=⟨[(0,(.val T22 a0)),(4,(.val .ptr ⟨0,0,(0:Int),0,0⟩)),(5,(.val .ptr ⟨1,0,(0:Int),0,0⟩)),(11,(.val .ptr ⟨2,0,(0:Int),0,0⟩)),(12,(.val T2 v13)),(13,(.val T4 v14)),(21,(.val T2 o53)),(59,(.val T22 a0)),(60,(.val T2 (len a0))),(61,(.val T2 v15))],[(0,.cells T27 a1),(1,.cells T27 a2),(2,.cells T27 ((iadd .i64 a1.1 a2.1),(iadd .i64 a1.2.1 a2.2.1),()))]⟩
noncomputable def r2_Line.c5q (a0:(List V27)) (a1 a2:V27) (o53 v13:Int) (v14:Bool) (v15:Int) (o:Bool):SL:=(fun v=>⟨[(0,(.val T22 a0)),(4,(.val .ptr ⟨0,0,(0:Int),0,0⟩)),(5,(.val .ptr ⟨1,0,(0:Int),0,0⟩)),(11,(.val .ptr ⟨2,0,(0:Int),0,0⟩)),(12,(.val T2 v13)),(13,(.val T4 v14)),(21,(.val T2 o53)),(59,(.val T22 a0)),(60,(.val T2 (len a0))),(61,(.val T2 v15)),(125,(.val T4 v))],[(0,.cells T27 a1),(1,.cells T27 a2),(2,.cells T27 ((iadd .i64 a1.1 a2.1),(iadd .i64 a1.2.1 a2.2.1),()))]⟩) o
noncomputable def r2_Line.c5x (o:Bool):Ex:=(fun _=>.normal) o
noncomputable def r2_Line.c5n (o:Bool):Nat:=(fun _=>3) o
theorem r2_Line.c5_ok (k:Nat) (a0:(List V27)) (a1 a2:V27) (o53 v13:Int) (v14:Bool) (v15:Int):Owp (r2_Line.c5 k o53 v13 v14) fun o=>Triple PR (r2_Line.cx k) (sub r2_Line.code [1,1,1,1,1,1,0,1,0,0,1,1,0,0,1,1,1,1,1,1,1,0]) 3 (r2_Line.c5p a0 a1 a2 o53 v13 v14 v15) (r2_Line.c5x o) (r2_Line.c5n o) (r2_Line.c5q a0 a1 a2 o53 v13 v14 v15 o):=by
  unfold r2_Line.c5; exact
   Owp.bif (fun e55 =>
   Owp.some (triple_way (r2_Line.cok k) hmix [fF,fF,fF,fF] [] [(0,0),(1,1),(2,2)] (via (finP (aI (aI (aI (aI trivial (congrArg not e55)) (congrArg not e55)) (congrArg not e55)) (congrArg not e55)) .normal [(0,0),(1,1),(2,2)] (r2_Line.c5q a0 a1 a2 o53 v13 v14 v15 (ilt o53 v13))) (by kernel_rfl)))) (fun e55 =>
   Owp.some (triple_way (r2_Line.cok k) hmix [tT,tT,tT,tT] [] [(0,0),(1,1),(2,2)] (via (finP (aI (aI (aI (aI trivial (congrArg not e55)) (congrArg not e55)) (congrArg not e55)) (congrArg not e55)) .normal [(0,0),(1,1),(2,2)] (r2_Line.c5q a0 a1 a2 o53 v13 v14 v15 true)) (by kernel_rfl))))
noncomputable def r2_Line.c2p (a0:(List V27)) (a1 a2:V27) (v13:Int) (v14:Bool) (v15:Int):SL:=⟨[(0,(.val T22 a0)),(4,(.val .ptr ⟨0,0,(0:Int),0,0⟩)),(5,(.val .ptr ⟨1,0,(0:Int),0,0⟩)),(11,(.val .ptr ⟨2,0,(0:Int),0,0⟩)),(12,(.val T2 v13)),(13,(.val T4 v14)),(59,(.val T22 a0)),(60,(.val T2 (len a0))),(61,(.val T2 v15))],[(0,.cells T27 a1),(1,.cells T27 a2),(2,.cells T27 ((iadd .i64 a1.1 a2.1),(iadd .i64 a1.2.1 a2.2.1),()))]⟩
noncomputable def r2_Line.c2q (o:(Int × Bool)):SL:=(fun v=>⟨[(12,(.val T2 v.1)),(13,(.val T4 v.2))],[]⟩) o
noncomputable def r2_Line.c2x (o:(Int × Bool)):Ex:=(fun _=>(.exit 2)) o
noncomputable def r2_Line.c2n (o:(Int × Bool)):Nat:=(fun _=>0) o
theorem r2_Line.c2_ok (k:Nat) (a0:(List V27)) (a1 a2:V27):∀ (n:Nat) (v13:Int) (v14:Bool) (v15:Int),Owp (r2_Line.c2 k a0 a1 a2 n v13 v14 v15) fun o=>LTriple PR (r2_Line.cx k) (sub r2_Line.code [1,1,1,1,1,1,0,1,0,0]) 3 (r2_Line.c2p a0 a1 a2 v13 v14 v15) (r2_Line.c2x o) (r2_Line.c2n o) (r2_Line.c2q o)
  | 0,_,_,_=>fun _ h=>nomatch h
  | n+1,v13,v14,v15=>Owp.of (r2_Line.c2.eq_2 ..) (
   Owp.bif (fun e16 =>
   Owp.req fun h17 =>
   Owp.req fun h18 =>
   Owp.req fun h19 =>
   Owp.bnd fun y20 e21 =>
   Owp.bif (fun e22 =>
   Owp.bnd fun y23 e24 =>
   Owp.bnd fun y25 e26 =>
   Owp.bnd fun y27 e28 =>
   Owp.bnd fun y29 e30 =>
   Owp.bnd fun y31 e32 =>
   Owp.bnd fun o53 e54 =>
   Owp.bnd fun o56 e57 =>
   Owp.bif (fun e58 =>
   fun y hy=>loop_back (r2_Line.cok k) hmix 3 (r2_Line.c2p a0 a1 a2 o53 true (iadd .i64 v15 (1:Int))) [tT,rS T4 y20,fF,rS T27 y23,rS T27 y25,rS T141 y27,rS T141 y29,rS T2 y31,.cut ⟨[],[(0,0),(1,1),(2,2),(3,7),(4,18),(5,31),(6,42),(7,43)],(r2_Line.c3p a0 a1 a2 v13 v14 v15 y27 y29 y31),8,.normal,(r2_Line.c3q a0 a1 a2 v13 v14 v15 o53),3⟩,.cutR 25 ⟨[],[(0,0),(1,1),(2,2)],(r2_Line.c5p a0 a1 a2 o53 v13 v14 v15),3,.normal,(r2_Line.c5q a0 a1 a2 o53 v13 v14 v15 o56),3⟩,tT] [] [(0,0),(1,1),(2,2)] (via (cutP (aI (aI (aI (aI (aI (aI (aI (aI (aI (aI (aI trivial e16) h17) h18) h19) e21) (congrArg not e22)) e24) e26) e28) e30) e32) [(0,0),(1,1),(2,2),(3,7),(4,18),(5,31),(6,42),(7,43)] (r2_Line.c3p a0 a1 a2 v13 v14 v15 y27 y29 y31) (((r2_Line.c3_ok k a0 a1 a2 v13 v14 v15 y27 y29 y31).ap e54)) (cutP trivial [(0,0),(1,1),(2,2)] (r2_Line.c5p a0 a1 a2 o53 v13 v14 v15) (((r2_Line.c5_ok k a0 a1 a2 o53 v13 v14 v15).ap e57)) (finP (aI trivial e58) .normal [(0,0),(1,1),(2,2)] (r2_Line.c2p a0 a1 a2 o53 true (iadd .i64 v15 (1:Int)))))) (by kernel_rfl)) ((r2_Line.c2_ok k a0 a1 a2 n o53 true (iadd .i64 v15 (1:Int))).ap hy)) (fun e58 =>
   fun y hy=>loop_back (r2_Line.cok k) hmix 3 (r2_Line.c2p a0 a1 a2 v13 v14 (iadd .i64 v15 (1:Int))) [tT,rS T4 y20,fF,rS T27 y23,rS T27 y25,rS T141 y27,rS T141 y29,rS T2 y31,.cut ⟨[],[(0,0),(1,1),(2,2),(3,7),(4,18),(5,31),(6,42),(7,43)],(r2_Line.c3p a0 a1 a2 v13 v14 v15 y27 y29 y31),8,.normal,(r2_Line.c3q a0 a1 a2 v13 v14 v15 o53),3⟩,.cutR 25 ⟨[],[(0,0),(1,1),(2,2)],(r2_Line.c5p a0 a1 a2 o53 v13 v14 v15),3,.normal,(r2_Line.c5q a0 a1 a2 o53 v13 v14 v15 o56),3⟩,fF] [] [(0,0),(1,1),(2,2)] (via (cutP (aI (aI (aI (aI (aI (aI (aI (aI (aI (aI (aI trivial e16) h17) h18) h19) e21) (congrArg not e22)) e24) e26) e28) e30) e32) [(0,0),(1,1),(2,2),(3,7),(4,18),(5,31),(6,42),(7,43)] (r2_Line.c3p a0 a1 a2 v13 v14 v15 y27 y29 y31) (((r2_Line.c3_ok k a0 a1 a2 v13 v14 v15 y27 y29 y31).ap e54)) (cutP trivial [(0,0),(1,1),(2,2)] (r2_Line.c5p a0 a1 a2 o53 v13 v14 v15) (((r2_Line.c5_ok k a0 a1 a2 o53 v13 v14 v15).ap e57)) (finP (aI trivial e58) .normal [(0,0),(1,1),(2,2)] (r2_Line.c2p a0 a1 a2 v13 v14 (iadd .i64 v15 (1:Int)))))) (by kernel_rfl)) ((r2_Line.c2_ok k a0 a1 a2 n v13 v14 (iadd .i64 v15 (1:Int))).ap hy))) (fun e22 =>
   fun y hy=>loop_back (r2_Line.cok k) hmix 3 (r2_Line.c2p a0 a1 a2 v13 v14 (iadd .i64 v15 (1:Int))) [tT,rS T4 y20,tT] [] [(0,0),(1,1),(2,2)] (via (finP (aI (aI (aI (aI (aI (aI trivial e16) h17) h18) h19) e21) (congrArg not e22)) .normal [(0,0),(1,1),(2,2)] (r2_Line.c2p a0 a1 a2 v13 v14 (iadd .i64 v15 (1:Int)))) (by kernel_rfl)) ((r2_Line.c2_ok k a0 a1 a2 n v13 v14 (iadd .i64 v15 (1:Int))).ap hy))) (fun e16 =>
   Owp.some (loop_exit (r2_Line.cok k) hmix [fF] [] [] (exne 2) (via (finP (aI trivial e16) (.exit 2) [] (r2_Line.c2q (v13,v14))) (by kernel_rfl)))))
theorem r2_Line.way (k:Nat) (a0:(List V27)) (a1 a2:V27):Owp (r2_Line k a0 a1 a2) fun y=>∃ w c0,exec PR (r2_Line.cx k) r2_Line.code 0 (entry (.pair T22 T41) (a0,a1,a2,())).st w (Ret (r2_Line.cx k) Try.f66 c0 (.more (.dp T2) (.one (.dp T4))) y):=by
  unfold r2_Line; exact
   Owp.bnd fun o10 e11 =>
   Owp.bif (fun e12 =>
   Owp.some (⟨[.cut ⟨[],[(0,0),(1,1)],(r2_Line.c1p a0 a1 a2 true (0:Int)),2,(.exit 0),(r2_Line.c1q a0 a1 a2 o10),2⟩,tT],[],via (cutP trivial [(0,0),(1,1)] (r2_Line.c1p a0 a1 a2 true (0:Int)) (((r2_Line.c1_ok k a0 a1 a2 k true (0:Int)).ap e11).triple) (retP (aI trivial e12) (.more (.dp T2) (.one (.dp T4))) (((0:Int),true):(Int × Bool)))) (by kernel_rfl)⟩)) (fun e12 =>
   Owp.bnd fun o59 e60 =>
   Owp.some (⟨[.cut ⟨[],[(0,0),(1,1)],(r2_Line.c1p a0 a1 a2 true (0:Int)),2,(.exit 0),(r2_Line.c1q a0 a1 a2 o10),2⟩,fF,.cut ⟨[],[(0,0),(1,1),(2,14)],(r2_Line.c2p a0 a1 a2 (0:Int) false (0:Int)),3,(.exit 2),(r2_Line.c2q o59),0⟩],[],via (cutP trivial [(0,0),(1,1)] (r2_Line.c1p a0 a1 a2 true (0:Int)) (((r2_Line.c1_ok k a0 a1 a2 k true (0:Int)).ap e11).triple) (cutP (aI trivial e12) [(0,0),(1,1),(2,14)] (r2_Line.c2p a0 a1 a2 (0:Int) false (0:Int)) (((r2_Line.c2_ok k a0 a1 a2 k (0:Int) false (0:Int)).ap e60).triple) (retP trivial (.more (.dp T2) (.one (.dp T4))) ((o59.1,o59.2):(Int × Bool))))) (by kernel_rfl)⟩))
theorem r2_Line.ok (k:Nat):FnOk PR 66 (r2_Line.sp k) :=
  fn_ok (r2_Line.cok k) hmix Try.func66 (code:=r2_Line.code) (by kernel_rfl) (by kernel_rfl) (by kernel_rfl) rfl rfl (by kernel_rfl) (by kernel_rfl) (by kernel_rfl) (fun x=>Nat.le_of_ble_eq_true (by kernel_rfl)) fun x y hy=>(r2_Line.way k x.1 x.2.1 x.2.2.1).ap hy
noncomputable def tourlaw2_RayShapes_1.code:Code:=Func.cd Try.f65
def tourlaw2_RayShapes_1 (k:Nat) (a0 a1:(List V27)) (a2:V27):Option (Int × Bool) :=
  bnd (r2_Minus k a0 a1) fun y1 =>
  bnd (r2_Line k y1 (0,0,()) a2) fun y3 =>
  some (y3.1,y3.2)
noncomputable def tourlaw2_RayShapes_1.sp (k:Nat):Go.Sx.Spec:=⟨(.pair T22 (.pair (.ref T22) (.pair (.ref T27) .unit))),(.more (.dp T2) (.one (.dp T4))),fun x=>tourlaw2_RayShapes_1 k x.1 x.2.1 x.2.2.1,false⟩
noncomputable def tourlaw2_RayShapes_1.cx (k:Nat):Go.Sx.Ctx:=⟨tys,[(67,r2_Minus.sp k),(66,r2_Line.sp k)],eqs,14,0,[],false⟩
theorem tourlaw2_RayShapes_1.cok (k:Nat):CtxOk PR (tourlaw2_RayShapes_1.cx k):=ctx_ok tysOk eqsOk (FnsOk.cons (r2_Minus.ok k) (FnsOk.cons (r2_Line.ok k) FnsOk.nil)) HsOk.nil
theorem tourlaw2_RayShapes_1.way (k:Nat) (a0 a1:(List V27)) (a2:V27):Owp (tourlaw2_RayShapes_1 k a0 a1 a2) fun y=>∃ w c0,exec PR (tourlaw2_RayShapes_1.cx k) tourlaw2_RayShapes_1.code 0 (entry (.pair T22 (.pair (.ref T22) (.pair (.ref T27) .unit))) (a0,a1,a2,())).st w (Ret (tourlaw2_RayShapes_1.cx k) Try.f65 c0 (.more (.dp T2) (.one (.dp T4))) y):=by
  unfold tourlaw2_RayShapes_1; exact
   Owp.bnd fun y1 e2 =>
   Owp.bnd fun y3 e4 =>
   Owp.some (⟨[.res (.one (.ow T27 28)) y1,.res (.more (.dp T2) (.one (.dp T4))) y3],[],via (retP (aI (aI trivial e2) e4) (.more (.dp T2) (.one (.dp T4))) ((y3.1,y3.2):(Int × Bool))) (by kernel_rfl)⟩)
theorem tourlaw2_RayShapes_1.ok (k:Nat):FnOk PR 65 (tourlaw2_RayShapes_1.sp k) :=
  fn_ok (tourlaw2_RayShapes_1.cok k) hmix Try.func65 (code:=tourlaw2_RayShapes_1.code) (by kernel_rfl) (by kernel_rfl) (by kernel_rfl) rfl rfl (by kernel_rfl) (by kernel_rfl) (by kernel_rfl) (fun x=>Nat.le_of_ble_eq_true (by kernel_rfl)) fun x y hy=>(tourlaw2_RayShapes_1.way k x.1 x.2.1 x.2.2.1).ap hy
end Go.Proofs.T1
