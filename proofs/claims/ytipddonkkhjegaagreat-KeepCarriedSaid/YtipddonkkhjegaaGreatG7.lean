import Derived.Test.YtipddonkkhjegaaGreatG0
import Derived.Test.YtipddonkkhjegaaGreatG1
import Derived.Test.YtipddonkkhjegaaGreatG2
import Derived.Test.YtipddonkkhjegaaGreatG4
namespace Go.Proofs.T1
open Go Go.Sx Go.Proofs
set_option maxRecDepth 100000
set_option linter.unusedVariables false
noncomputable def contact_dot.code:Code:=Func.cd Tryz.f65
def contact_dot (k:Nat) (a0 a1:V26):Option Int :=
 some (iadd .i64 (imul .i64 a0.1 a1.1) (imul .i64 a0.2.1 a1.2.1))
noncomputable def contact_dot.sp (k:Nat):Go.Sx.Spec:=⟨T74,(.one (.dp T2)),fun x=>contact_dot k x.1 x.2.1,false⟩
noncomputable def contact_dot.cx (k:Nat):Go.Sx.Ctx:=⟨tys,[],eqs,16,0,[],false⟩
theorem contact_dot.cok (k:Nat):CtxOk PR (contact_dot.cx k):=ctx_ok tysOk eqsOk FnsOk.nil HsOk.nil
theorem contact_dot.way (k:Nat) (a0 a1:V26):Owp (contact_dot k a0 a1) fun y=>∃ w c0,exec PR (contact_dot.cx k) contact_dot.code 0 (entry T74 (a0,a1,())).st w (Ret (contact_dot.cx k) Tryz.f65 c0 (.one (.dp T2)) y):=by
 unfold contact_dot; exact
  oS (⟨[],[],via (retP tv0 (.one (.dp T2)) ((iadd .i64 (imul .i64 a0.1 a1.1) (imul .i64 a0.2.1 a1.2.1)):Int)) (by kernel_rfl)⟩)
theorem contact_dot.ok (k:Nat):FnOk PR 65 (contact_dot.sp k) :=
 fn_ok (contact_dot.cok k) hmix Tryz.func65 (code:=contact_dot.code) (by kernel_rfl) (by kernel_rfl) (by kernel_rfl) rfl rfl (by kernel_rfl) (by kernel_rfl) (by kernel_rfl) (fun x=>Nat.le_of_ble_eq_true (by kernel_rfl)) fun x y hy=>(contact_dot.way k x.1 x.2.1).ap hy
noncomputable def contact_facing.code:Code:=Func.cd Tryz.f63
def contact_facing.c1 (k:Nat) (a0:(List V26)) (a1:V26):Nat→Int→Int→Option (Int)
 | 0,_,_=>none
 | n+1,v1,v2 =>
  bif' (ilt v2 (len a0))
  (req (inL v2 a0) <|bnd (contact_dot k (el Z26 a0 v2) a1) fun y5 =>
  req (inL v1 a0) <|bnd (contact_dot k (el Z26 a0 v1) a1) fun y8 =>
  bif' (ilt y5 y8)
  (contact_facing.c1 k a0 a1 n v2 (iadd .i64 v2 1))
  (contact_facing.c1 k a0 a1 n v1 (iadd .i64 v2 1)))
  (some v1)
def contact_facing (k:Nat) (a0:(List V26)) (a1:V26):Option Int :=
 bnd (contact_facing.c1 k a0 a1 k 0 0) fun o11 =>
 req (nz (len a0)) <|req (inL (irem (isub .i64 (iadd .i64 o11 (len a0)) 1) (len a0)) a0) <|bnd (contact_dot k (el Z26 a0 (irem (isub .i64 (iadd .i64 o11 (len a0)) 1) (len a0))) a1) fun y15 =>
 req (inL (irem (iadd .i64 o11 1) (len a0)) a0) <|bnd (contact_dot k (el Z26 a0 (irem (iadd .i64 o11 1) (len a0))) a1) fun y18 =>
 bif' (ilt y15 y18)
 (some (irem (isub .i64 (iadd .i64 o11 (len a0)) 1) (len a0)))
 (some o11)
noncomputable def contact_facing.sp (k:Nat):Go.Sx.Spec:=⟨(.pair T56 (.pair T26 .unit)),(.one (.dp T2)),fun x=>contact_facing k x.1 x.2.1,false⟩
noncomputable def contact_facing.cx (k:Nat):Go.Sx.Ctx:=⟨tys,[(65,contact_dot.sp k)],eqs,55,0,[],false⟩
theorem contact_facing.cok (k:Nat):CtxOk PR (contact_facing.cx k):=ctx_ok tysOk eqsOk (fC (contact_dot.ok k) FnsOk.nil) HsOk.nil
noncomputable def contact_facing.c1p (a0:(List V26)) (a1:V26) (v1 v2:Int):SL:=⟨[(0,(.val T56 a0)),(3,(.val .ptr ⟨0,0,(0:Int),0,0⟩)),(5,(.val T2 v1)),(9,(.val T56 a0)),(10,(.val T2 (len a0))),(11,(.val T2 v2))],[(0,.cells T26 a1)]⟩
noncomputable def contact_facing.c1q (a0:(List V26)) (a1:V26) (o:Int):SL:=(fun v=>⟨[(0,(.val T56 a0)),(3,(.val .ptr ⟨0,0,(0:Int),0,0⟩)),(5,(.val T2 v))],[(0,.cells T26 a1)]⟩) o
noncomputable def contact_facing.c1x (o:Int):Ex:=(fun _=>(.exit 0)) o
noncomputable def contact_facing.c1n (o:Int):Nat:=(fun _=>1) o
theorem contact_facing.c1_ok (k:Nat) (a0:(List V26)) (a1:V26):∀ (n:Nat) (v1 v2:Int),Owp (contact_facing.c1 k a0 a1 n v1 v2) fun o=>LTriple PR (contact_facing.cx k) (sub contact_facing.code [1,1,0,1,0,0]) 1 (contact_facing.c1p a0 a1 v1 v2) (contact_facing.c1x o) (contact_facing.c1n o) (contact_facing.c1q a0 a1 o)
 | 0,_,_=>fun _ h=>nomatch h
 | n+1,v1,v2=>Owp.of (contact_facing.c1.eq_2 ..) (
  oF (fun e3 =>
  oR fun h4 =>
  oB fun y5 e6 =>
  oR fun h7 =>
  oB fun y8 e9 =>
  oF (fun e10 =>
  fun y hy=>loop_back (contact_facing.cok k) hmix 1 (contact_facing.c1p a0 a1 v2 (iadd .i64 v2 (1:Int))) [tT,rS T2 y5,rS T2 y8,tT] [] [(0,0)] (via (finP (aI (aI (aI (aI (aI (aI tv0 e3) h4) e6) h7) e9) e10) .normal [(0,0)] (contact_facing.c1p a0 a1 v2 (iadd .i64 v2 (1:Int)))) (by kernel_rfl)) ((contact_facing.c1_ok k a0 a1 n v2 (iadd .i64 v2 (1:Int))).ap hy)) (fun e10 =>
  fun y hy=>loop_back (contact_facing.cok k) hmix 1 (contact_facing.c1p a0 a1 v1 (iadd .i64 v2 (1:Int))) [tT,rS T2 y5,rS T2 y8,fF] [] [(0,0)] (via (finP (aI (aI (aI (aI (aI (aI tv0 e3) h4) e6) h7) e9) e10) .normal [(0,0)] (contact_facing.c1p a0 a1 v1 (iadd .i64 v2 (1:Int)))) (by kernel_rfl)) ((contact_facing.c1_ok k a0 a1 n v1 (iadd .i64 v2 (1:Int))).ap hy))) (fun e3 =>
  oS (loop_exit (contact_facing.cok k) hmix [fF] [] [(0,0)] (exne 0) (via (finP (aI tv0 e3) (.exit 0) [(0,0)] (contact_facing.c1q a0 a1 v1)) (by kernel_rfl)))))
theorem contact_facing.way (k:Nat) (a0:(List V26)) (a1:V26):Owp (contact_facing k a0 a1) fun y=>∃ w c0,exec PR (contact_facing.cx k) contact_facing.code 0 (entry (.pair T56 (.pair T26 .unit)) (a0,a1,())).st w (Ret (contact_facing.cx k) Tryz.f63 c0 (.one (.dp T2)) y):=by
 unfold contact_facing; exact
  oB fun o11 e12 =>
  oR fun h13 =>
  oR fun h14 =>
  oB fun y15 e16 =>
  oR fun h17 =>
  oB fun y18 e19 =>
  oF (fun e20 =>
  oS (⟨[.cut ⟨[],[(0,0)],(contact_facing.c1p a0 a1 (0:Int) (0:Int)),1,(.exit 0),(contact_facing.c1q a0 a1 o11),1⟩,rS T2 y15,rS T2 y18,tT],[],via (cutP tv0 [(0,0)] (contact_facing.c1p a0 a1 (0:Int) (0:Int)) (((contact_facing.c1_ok k a0 a1 k (0:Int) (0:Int)).ap e12).triple) (retP (aI (aI (aI (aI (aI (aI (aI tv0 h13) h14) e16) h13) h17) e19) e20) (.one (.dp T2)) ((irem (isub .i64 (iadd .i64 o11 (len a0)) (1:Int)) (len a0)):Int))) (by kernel_rfl)⟩)) (fun e20 =>
  oS (⟨[.cut ⟨[],[(0,0)],(contact_facing.c1p a0 a1 (0:Int) (0:Int)),1,(.exit 0),(contact_facing.c1q a0 a1 o11),1⟩,rS T2 y15,rS T2 y18,fF],[],via (cutP tv0 [(0,0)] (contact_facing.c1p a0 a1 (0:Int) (0:Int)) (((contact_facing.c1_ok k a0 a1 k (0:Int) (0:Int)).ap e12).triple) (retP (aI (aI (aI (aI (aI (aI (aI tv0 h13) h14) e16) h13) h17) e19) e20) (.one (.dp T2)) (o11:Int))) (by kernel_rfl)⟩))
theorem contact_facing.ok (k:Nat):FnOk PR 63 (contact_facing.sp k) :=
 fn_ok (contact_facing.cok k) hmix Tryz.func63 (code:=contact_facing.code) (by kernel_rfl) (by kernel_rfl) (by kernel_rfl) rfl rfl (by kernel_rfl) (by kernel_rfl) (by kernel_rfl) (fun x=>Nat.le_of_ble_eq_true (by kernel_rfl)) fun x y hy=>(contact_facing.way k x.1 x.2.1).ap hy
noncomputable def contact_minus.code:Code:=Func.cd Tryz.f66
def contact_minus (k:Nat) (a0 a1:V26):Option V26 :=
 some ((isub .i64 a0.1 a1.1),(isub .i64 a0.2.1 a1.2.1),())
noncomputable def contact_minus.sp (k:Nat):Go.Sx.Spec:=⟨T74,(.one (.dp T26)),fun x=>contact_minus k x.1 x.2.1,false⟩
noncomputable def contact_minus.cx (k:Nat):Go.Sx.Ctx:=⟨tys,[],eqs,16,0,[],false⟩
theorem contact_minus.cok (k:Nat):CtxOk PR (contact_minus.cx k):=ctx_ok tysOk eqsOk FnsOk.nil HsOk.nil
theorem contact_minus.way (k:Nat) (a0 a1:V26):Owp (contact_minus k a0 a1) fun y=>∃ w c0,exec PR (contact_minus.cx k) contact_minus.code 0 (entry T74 (a0,a1,())).st w (Ret (contact_minus.cx k) Tryz.f66 c0 (.one (.dp T26)) y):=by
 unfold contact_minus; exact
  oS (⟨[],[],via (retP tv0 (.one (.dp T26)) (((isub .i64 a0.1 a1.1),(isub .i64 a0.2.1 a1.2.1),()):V26)) (by kernel_rfl)⟩)
theorem contact_minus.ok (k:Nat):FnOk PR 66 (contact_minus.sp k) :=
 fn_ok (contact_minus.cok k) hmix Tryz.func66 (code:=contact_minus.code) (by kernel_rfl) (by kernel_rfl) (by kernel_rfl) rfl rfl (by kernel_rfl) (by kernel_rfl) (by kernel_rfl) (fun x=>Nat.le_of_ble_eq_true (by kernel_rfl)) fun x y hy=>(contact_minus.way k x.1 x.2.1).ap hy
noncomputable def contact_between.code:Code:=Func.cd Tryz.f120
def contact_between (k:Nat) (a0 a1:V26) (a2 a3:Int):Option V26 :=
 bnd (poly_Times k (isub .i64 a1.1 a0.1) a2) fun y1 =>
 bnd (poly_Wide_Over k y1 (isub .i64 a2 a3)) fun y3 =>
 bnd (poly_Times k (isub .i64 a1.2.1 a0.2.1) a2) fun y5 =>
 bnd (poly_Wide_Over k y5 (isub .i64 a2 a3)) fun y7 =>
 some ((iadd .i64 a0.1 y3.1),(iadd .i64 a0.2.1 y7.1),())
noncomputable def contact_between.sp (k:Nat):Go.Sx.Spec:=⟨(.pair T26 (.pair T26 T26)),(.one (.dp T26)),fun x=>contact_between k x.1 x.2.1 x.2.2.1 x.2.2.2.1,false⟩
noncomputable def contact_between.cx (k:Nat):Go.Sx.Ctx:=⟨tys,[(67,poly_Times.sp k),(68,poly_Wide_Over.sp k)],eqs,50,0,[],false⟩
theorem contact_between.cok (k:Nat):CtxOk PR (contact_between.cx k):=ctx_ok tysOk eqsOk (fC (poly_Times.ok k) (fC (poly_Wide_Over.ok k) FnsOk.nil)) HsOk.nil
theorem contact_between.way (k:Nat) (a0 a1:V26) (a2 a3:Int):Owp (contact_between k a0 a1 a2 a3) fun y=>∃ w c0,exec PR (contact_between.cx k) contact_between.code 0 (entry (.pair T26 (.pair T26 T26)) (a0,a1,a2,a3,())).st w (Ret (contact_between.cx k) Tryz.f120 c0 (.one (.dp T26)) y):=by
 unfold contact_between; exact
  oB fun y1 e2 =>
  oB fun y3 e4 =>
  oB fun y5 e6 =>
  oB fun y7 e8 =>
  oS (⟨[rS T115 y1,.res (.more (.dp T2) (.one (.dp T2))) y3,rS T115 y5,.res (.more (.dp T2) (.one (.dp T2))) y7],[],via (retP (aI (aI (aI (aI tv0 e2) e4) e6) e8) (.one (.dp T26)) (((iadd .i64 a0.1 y3.1),(iadd .i64 a0.2.1 y7.1),()):V26)) (by kernel_rfl)⟩)
theorem contact_between.ok (k:Nat):FnOk PR 120 (contact_between.sp k) :=
 fn_ok (contact_between.cok k) hmix Tryz.func120 (code:=contact_between.code) (by kernel_rfl) (by kernel_rfl) (by kernel_rfl) rfl rfl (by kernel_rfl) (by kernel_rfl) (by kernel_rfl) (fun x=>Nat.le_of_ble_eq_true (by kernel_rfl)) fun x y hy=>(contact_between.way k x.1 x.2.1 x.2.2.1 x.2.2.2.1).ap hy
noncomputable def contact_clip.code:Code:=Func.cd Tryz.f70
def contact_clip.c1 (k:Nat) (y3 y7:Int):Option (Bool) :=
 bif' (ilt y3 0)
 (some (ilt y7 0))
 (some false)
def contact_clip.c2 (k:Nat) (a0 a1:V26) (y3 y7:Int):Option ((V26 × V26)) :=
 bif' (ilt y3 0)
 (bnd (contact_between k a0 a1 y3 y7) fun y14 =>
  some (y14,a1))
 (bif' (ilt y7 0)
  (bnd (contact_between k a0 a1 y3 y7) fun y17 =>
  some (a0,y17))
  (some (a0,a1)))
def contact_clip (k:Nat) (a0 a1 a2 a3:V26):Option (V26 × (V26 × Bool)) :=
 bnd (contact_minus k a0 a2) fun y1 =>
 bnd (contact_dot k y1 a3) fun y3 =>
 bnd (contact_minus k a1 a2) fun y5 =>
 bnd (contact_dot k y5 a3) fun y7 =>
 bnd (contact_clip.c1 k y3 y7) fun o10 =>
 bif' o10
 (some (a0,a1,false))
 (bnd (contact_clip.c2 k a0 a1 y3 y7) fun o19 =>
  some (o19.1,o19.2,true))
noncomputable def contact_clip.sp (k:Nat):Go.Sx.Spec:=⟨(.pair T26 (.pair T26 T74)),(.more (.dp T26) (.more (.dp T26) (.one (.dp T4)))),fun x=>contact_clip k x.1 x.2.1 x.2.2.1 x.2.2.2.1,false⟩
noncomputable def contact_clip.cx (k:Nat):Go.Sx.Ctx:=⟨tys,[(66,contact_minus.sp k),(65,contact_dot.sp k),(120,contact_between.sp k)],eqs,50,0,[],false⟩
theorem contact_clip.cok (k:Nat):CtxOk PR (contact_clip.cx k):=ctx_ok tysOk eqsOk (fC (contact_minus.ok k) (fC (contact_dot.ok k) (fC (contact_between.ok k) FnsOk.nil))) HsOk.nil
noncomputable def contact_clip.c1p (a0 a1:V26) (y3 y7:Int):SL:=⟨[(4,(.val .ptr ⟨0,0,(0:Int),0,0⟩)),(5,(.val .ptr ⟨1,0,(0:Int),0,0⟩)),(8,(.val .ptr ⟨2,0,(0:Int),0,0⟩)),(9,(.val .ptr ⟨3,0,(0:Int),0,0⟩)),(11,(.val T2 y3)),(12,(.val T2 y7))],[(0,.cells T26 a0),(1,.cells T26 a1),(2,.cells T26 ((0:Int),(0:Int),())),(3,.cells T26 ((0:Int),(0:Int),()))]⟩
noncomputable def contact_clip.c1q (a0 a1:V26) (y3 y7:Int) (o:Bool):SL:=(fun v=>⟨[(4,(.val .ptr ⟨0,0,(0:Int),0,0⟩)),(5,(.val .ptr ⟨1,0,(0:Int),0,0⟩)),(8,(.val .ptr ⟨2,0,(0:Int),0,0⟩)),(9,(.val .ptr ⟨3,0,(0:Int),0,0⟩)),(11,(.val T2 y3)),(12,(.val T2 y7)),(23,(.val T4 v))],[(0,.cells T26 a0),(1,.cells T26 a1),(2,.cells T26 ((0:Int),(0:Int),())),(3,.cells T26 ((0:Int),(0:Int),()))]⟩) o
noncomputable def contact_clip.c1x (o:Bool):Ex:=(fun _=>.normal) o
noncomputable def contact_clip.c1n (o:Bool):Nat:=(fun _=>4) o
theorem contact_clip.c1_ok (k:Nat) (a0 a1:V26) (y3 y7:Int):Owp (contact_clip.c1 k y3 y7) fun o=>Triple PR (contact_clip.cx k) (sub contact_clip.code [1,1,0,0,0]) 4 (contact_clip.c1p a0 a1 y3 y7) (contact_clip.c1x o) (contact_clip.c1n o) (contact_clip.c1q a0 a1 y3 y7 o):=by
 unfold contact_clip.c1; exact
  oF (fun e9 =>
  oS (tW (contact_clip.cok k) hmix [tT,tT,tT] [] [(0,0),(1,1),(2,2),(3,3)] (via (finP (aI (aI (aI tv0 e9) e9) e9) .normal [(0,0),(1,1),(2,2),(3,3)] (contact_clip.c1q a0 a1 y3 y7 (ilt y7 (0:Int)))) (by kernel_rfl)))) (fun e9 =>
  oS (tW (contact_clip.cok k) hmix [fF,fF,fF] [] [(0,0),(1,1),(2,2),(3,3)] (via (finP (aI (aI (aI tv0 e9) e9) e9) .normal [(0,0),(1,1),(2,2),(3,3)] (contact_clip.c1q a0 a1 y3 y7 false)) (by kernel_rfl))))
noncomputable def contact_clip.c2p (a0 a1:V26) (y3 y7:Int):SL:=⟨[(4,(.val .ptr ⟨0,0,(0:Int),0,0⟩)),(5,(.val .ptr ⟨1,0,(0:Int),0,0⟩)),(8,(.val .ptr ⟨2,0,(0:Int),0,0⟩)),(9,(.val .ptr ⟨3,0,(0:Int),0,0⟩)),(11,(.val T2 y3)),(12,(.val T2 y7)),(32,(.val T4 (ilt y3 (0:Int))))],[(0,.cells T26 a0),(1,.cells T26 a1),(2,.cells T26 ((0:Int),(0:Int),())),(3,.cells T26 ((0:Int),(0:Int),()))]⟩
noncomputable def contact_clip.c2q (o:(V26 × V26)):SL:=(fun v=>⟨[(4,(.val .ptr ⟨0,0,(0:Int),0,0⟩)),(5,(.val .ptr ⟨1,0,(0:Int),0,0⟩)),(8,(.val .ptr ⟨2,0,(0:Int),0,0⟩)),(9,(.val .ptr ⟨3,0,(0:Int),0,0⟩))],[(0,.cells T26 v.1),(1,.cells T26 v.2),(2,.cells T26 ((0:Int),(0:Int),())),(3,.cells T26 ((0:Int),(0:Int),()))]⟩) o
noncomputable def contact_clip.c2x (o:(V26 × V26)):Ex:=(fun _=>.normal) o
noncomputable def contact_clip.c2n (o:(V26 × V26)):Nat:=(fun _=>4) o
theorem contact_clip.c2_ok (k:Nat) (a0 a1:V26) (y3 y7:Int):Owp (contact_clip.c2 k a0 a1 y3 y7) fun o=>Triple PR (contact_clip.cx k) (sub contact_clip.code [1,1,0,0,1,1,1]) 4 (contact_clip.c2p a0 a1 y3 y7) (contact_clip.c2x o) (contact_clip.c2n o) (contact_clip.c2q o):=by
 unfold contact_clip.c2; exact
  oF (fun e13 =>
  oB fun y14 e15 =>
  oS (tW (contact_clip.cok k) hmix [tT,rS T26 y14] [] [(0,0),(1,1),(2,2),(3,3)] (via (finP (aI (aI tv0 e13) e15) .normal [(0,0),(1,1),(2,2),(3,3)] (contact_clip.c2q (y14,a1))) (by kernel_rfl)))) (fun e13 =>
  oF (fun e16 =>
  oB fun y17 e18 =>
  oS (tW (contact_clip.cok k) hmix [fF,tT,rS T26 y17] [] [(0,0),(1,1),(2,2),(3,3)] (via (finP (aI (aI (aI tv0 e13) e16) e18) .normal [(0,0),(1,1),(2,2),(3,3)] (contact_clip.c2q (a0,y17))) (by kernel_rfl)))) (fun e16 =>
  oS (tW (contact_clip.cok k) hmix [fF,fF] [] [(0,0),(1,1),(2,2),(3,3)] (via (finP (aI (aI tv0 e13) e16) .normal [(0,0),(1,1),(2,2),(3,3)] (contact_clip.c2q (a0,a1))) (by kernel_rfl)))))
theorem contact_clip.way (k:Nat) (a0 a1 a2 a3:V26):Owp (contact_clip k a0 a1 a2 a3) fun y=>∃ w c0,exec PR (contact_clip.cx k) contact_clip.code 0 (entry (.pair T26 (.pair T26 T74)) (a0,a1,a2,a3,())).st w (Ret (contact_clip.cx k) Tryz.f70 c0 (.more (.dp T26) (.more (.dp T26) (.one (.dp T4)))) y):=by
 unfold contact_clip; exact
  oB fun y1 e2 =>
  oB fun y3 e4 =>
  oB fun y5 e6 =>
  oB fun y7 e8 =>
  oB fun o10 e11 =>
  oF (fun e12 =>
  oS (⟨[rS T26 y1,rS T2 y3,rS T26 y5,rS T2 y7,.cutR 2 ⟨[],[(0,0),(1,1),(2,4),(3,5)],(contact_clip.c1p a0 a1 y3 y7),4,.normal,(contact_clip.c1q a0 a1 y3 y7 o10),4⟩,tT],[],via (cutP (aI (aI (aI (aI tv0 e2) e4) e6) e8) [(0,0),(1,1),(2,4),(3,5)] (contact_clip.c1p a0 a1 y3 y7) (((contact_clip.c1_ok k a0 a1 y3 y7).ap e11)) (retP (aI tv0 e12) (.more (.dp T26) (.more (.dp T26) (.one (.dp T4)))) ((a0,a1,false):(V26 × (V26 × Bool))))) (by kernel_rfl)⟩)) (fun e12 =>
  oB fun o19 e20 =>
  oS (⟨[rS T26 y1,rS T2 y3,rS T26 y5,rS T2 y7,.cutR 2 ⟨[],[(0,0),(1,1),(2,4),(3,5)],(contact_clip.c1p a0 a1 y3 y7),4,.normal,(contact_clip.c1q a0 a1 y3 y7 o10),4⟩,fF,.cut ⟨[],[(0,0),(1,1),(2,2),(3,3)],(contact_clip.c2p a0 a1 y3 y7),4,.normal,(contact_clip.c2q o19),4⟩],[],via (cutP (aI (aI (aI (aI tv0 e2) e4) e6) e8) [(0,0),(1,1),(2,4),(3,5)] (contact_clip.c1p a0 a1 y3 y7) (((contact_clip.c1_ok k a0 a1 y3 y7).ap e11)) (cutP (aI tv0 e12) [(0,0),(1,1),(2,2),(3,3)] (contact_clip.c2p a0 a1 y3 y7) (((contact_clip.c2_ok k a0 a1 y3 y7).ap e20)) (retP tv0 (.more (.dp T26) (.more (.dp T26) (.one (.dp T4)))) ((o19.1,o19.2,true):(V26 × (V26 × Bool)))))) (by kernel_rfl)⟩))
theorem contact_clip.ok (k:Nat):FnOk PR 70 (contact_clip.sp k) :=
 fn_ok (contact_clip.cok k) hmix Tryz.func70 (code:=contact_clip.code) (by kernel_rfl) (by kernel_rfl) (by kernel_rfl) rfl rfl (by kernel_rfl) (by kernel_rfl) (by kernel_rfl) (fun x=>Nat.le_of_ble_eq_true (by kernel_rfl)) fun x y hy=>(contact_clip.way k x.1 x.2.1 x.2.2.1 x.2.2.2.1).ap hy
noncomputable def contact_Of_1.code:Code:=Func.cd Tryz.f64
def contact_Of_1 (k:Nat) (a0 a1 a2:V26):Option (Int × Bool) :=
 bnd (contact_minus k a1 a0) fun y1 =>
 bnd (contact_dot k y1 a2) fun y3 =>
 bnd (poly_Times k y3 1) fun y5 =>
 bnd (sat_Length k a2) fun y7 =>
 bnd (poly_Wide_Over k y5 y7) fun y9 =>
 some (y9.1,(ige y3 0))
noncomputable def contact_Of_1.sp (k:Nat):Go.Sx.Spec:=⟨(.pair T26 (.pair (.ref T26) (.pair (.ref T26) .unit))),(.more (.dp T2) (.one (.dp T4))),fun x=>contact_Of_1 k x.1 x.2.1 x.2.2.1,false⟩
noncomputable def contact_Of_1.cx (k:Nat):Go.Sx.Ctx:=⟨tys,[(66,contact_minus.sp k),(65,contact_dot.sp k),(67,poly_Times.sp k),(69,sat_Length.sp k),(68,poly_Wide_Over.sp k)],eqs,25,0,[],false⟩
theorem contact_Of_1.cok (k:Nat):CtxOk PR (contact_Of_1.cx k):=ctx_ok tysOk eqsOk (fC (contact_minus.ok k) (fC (contact_dot.ok k) (fC (poly_Times.ok k) (fC (sat_Length.ok k) (fC (poly_Wide_Over.ok k) FnsOk.nil))))) HsOk.nil
theorem contact_Of_1.way (k:Nat) (a0 a1 a2:V26):Owp (contact_Of_1 k a0 a1 a2) fun y=>∃ w c0,exec PR (contact_Of_1.cx k) contact_Of_1.code 0 (entry (.pair T26 (.pair (.ref T26) (.pair (.ref T26) .unit))) (a0,a1,a2,())).st w (Ret (contact_Of_1.cx k) Tryz.f64 c0 (.more (.dp T2) (.one (.dp T4))) y):=by
 unfold contact_Of_1; exact
  oB fun y1 e2 =>
  oB fun y3 e4 =>
  oB fun y5 e6 =>
  oB fun y7 e8 =>
  oB fun y9 e10 =>
  oS (⟨[rS T26 y1,rS T2 y3,rS T115 y5,rS T2 y7,.res (.more (.dp T2) (.one (.dp T2))) y9],[],via (retP (aI (aI (aI (aI (aI tv0 e2) e4) e6) e8) e10) (.more (.dp T2) (.one (.dp T4))) ((y9.1,(ige y3 (0:Int))):(Int × Bool))) (by kernel_rfl)⟩)
theorem contact_Of_1.ok (k:Nat):FnOk PR 64 (contact_Of_1.sp k) :=
 fn_ok (contact_Of_1.cok k) hmix Tryz.func64 (code:=contact_Of_1.code) (by kernel_rfl) (by kernel_rfl) (by kernel_rfl) rfl rfl (by kernel_rfl) (by kernel_rfl) (by kernel_rfl) (fun x=>Nat.le_of_ble_eq_true (by kernel_rfl)) fun x y hy=>(contact_Of_1.way k x.1 x.2.1 x.2.2.1).ap hy
noncomputable def contact_Of.code:Code:=Func.cd Tryz.f31
def contact_Of.c1 (k:Nat) (y1:((Bool × V26) × (Bool × Int))):Option (Bool) :=
 bif' (ine y1.2.2 0)
 (some true)
 (some (!y1.2.1))
def contact_Of.c2 (k:Nat) (a0 a1:(List V26)) (y1:((Bool × V26) × (Bool × Int))):Option (((List V26) × ((List V26) × Int))) :=
 bif' y1.1.1
 (some (a1,a0,(iadd .i64 8 y1.1.2.1)))
 (some (a0,a1,y1.1.2.1))
def contact_Of.c3 (k:Nat) (o10:((List V26) × ((List V26) × Int))) (y1:((Bool × V26) × (Bool × Int))) (y24:(V26 × (V26 × Bool))):Option ((Bool × (V26 × V26))) :=
 bif' y24.2.2
 (bnd (contact_minus k (el Z26 o10.1 y1.1.2.1) (el Z26 o10.1 (irem (iadd .i64 y1.1.2.1 1) (len o10.1)))) fun y27 =>
  bnd (contact_clip k y24.1 y24.2.1 (el Z26 o10.1 (irem (iadd .i64 y1.1.2.1 1) (len o10.1))) y27) fun y29 =>
  some (y29.2.2,y29.1,y29.2.1))
 (some (y24.2.2,y24.1,y24.2.1))
def contact_Of.c5 (k:Nat) (o31:(Bool × (V26 × V26))) (v33:Int) (y37:(Int × Bool)):Option (Bool) :=
 bif' o31.1
 (bif' y37.2
  (bif' (ieq v33 0)
  (some true)
  (some (!(Ty.eqb T26 o31.2.2 o31.2.1))))
  (some false))
 (some false)
def contact_Of.c4 (k:Nat) (o10:((List V26) × ((List V26) × Int))) (o31:(Bool × (V26 × V26))) (y1:((Bool × V26) × (Bool × Int))) (y7:(Bool × (Int × V26))) (y12:V26) (y17:Int):Nat→Int→(List (V26 × (V26 × V26)))→Option ((List (V26 × (V26 × V26))))
 | 0,_,_=>none
 | n+1,v33,v34 =>
  bif' (ilt v33 (len [o31.2.1,o31.2.2]))
  (req (inL v33 [o31.2.1,o31.2.2]) <|bnd (contact_Of_1 k (el Z26 [o31.2.1,o31.2.2] v33) (el Z26 o10.1 y1.1.2.1) y12) fun y37 =>
  bnd (contact_Of.c5 k o31 v33 y37) fun o42 =>
  bif' o42
  (req (room 48 v34 [((el Z26 [o31.2.1,o31.2.2] v33),y7.2.2,y37.1,(iadd .i64 (imul .i64 (iadd .i64 (imul .i64 o10.2.2 8) y17) 2) v33),())]) <|contact_Of.c4 k o10 o31 y1 y7 y12 y17 n (iadd .i64 v33 1) (v34++[((el Z26 [o31.2.1,o31.2.2] v33),y7.2.2,y37.1,(iadd .i64 (imul .i64 (iadd .i64 (imul .i64 o10.2.2 8) y17) 2) v33),())]))
  (contact_Of.c4 k o10 o31 y1 y7 y12 y17 n (iadd .i64 v33 1) v34))
  (some v34)
def contact_Of (k:Nat) (a0 a1:(List V26)):Option (List (V26 × (V26 × V26))) :=
 bnd (sat_Least k a0 a1) fun y1 =>
 bnd (contact_Of.c1 k y1) fun o4 =>
 bif' o4
 (some [])
 (bnd (sat_Test k a0 a1) fun y7 =>
  bnd (contact_Of.c2 k a0 a1 y1) fun o10 =>
  bnd (sat_Normal k o10.1 y1.1.2.1) fun y12 =>
  req (inL y1.1.2.1 o10.1) <|req (nz (len o10.1)) <|req (inL (irem (iadd .i64 y1.1.2.1 1) (len o10.1)) o10.1) <|bnd (contact_facing k o10.2.1 y12) fun y17 =>
  req (inL y17 o10.2.1) <|req (nz (len o10.2.1)) <|req (inL (irem (iadd .i64 y17 1) (len o10.2.1)) o10.2.1) <|bnd (contact_minus k (el Z26 o10.1 (irem (iadd .i64 y1.1.2.1 1) (len o10.1))) (el Z26 o10.1 y1.1.2.1)) fun y22 =>
  bnd (contact_clip k (el Z26 o10.2.1 y17) (el Z26 o10.2.1 (irem (iadd .i64 y17 1) (len o10.2.1))) (el Z26 o10.1 y1.1.2.1) y22) fun y24 =>
  bnd (contact_Of.c3 k o10 y1 y24) fun o31 =>
  bnd (contact_Of.c4 k o10 o31 y1 y7 y12 y17 k 0 []) fun o46 =>
  bif' (ieq (len o46) 0)
  (bnd (poly_Support k o10.2.1 ((ineg .i64 y12.1),(ineg .i64 y12.2.1),())) fun y49 =>
  req (inL y49 o10.2.1) <|bnd (contact_Of_1 k (el Z26 o10.2.1 y49) (el Z26 o10.1 y1.1.2.1) y12) fun y52 =>
  req (room 48 o46 [((el Z26 o10.2.1 y49),y7.2.2,y52.1,(imul .i64 (iadd .i64 (imul .i64 o10.2.2 8) y17) 2),())]) <|some (o46++[((el Z26 o10.2.1 y49),y7.2.2,y52.1,(imul .i64 (iadd .i64 (imul .i64 o10.2.2 8) y17) 2),())]))
  (some o46))
noncomputable def contact_Of.sp (k:Nat):Go.Sx.Spec:=⟨(.pair T56 (.pair T56 .unit)),(.one (.ow (.pair T26 (.pair T26 T26)) 72)),fun x=>contact_Of k x.1 x.2.1,false⟩
noncomputable def contact_Of.cx (k:Nat):Go.Sx.Ctx:=⟨tys,[(60,sat_Least.sp k),(61,sat_Test.sp k),(62,sat_Normal.sp k),(63,contact_facing.sp k),(66,contact_minus.sp k),(70,contact_clip.sp k),(64,contact_Of_1.sp k),(71,poly_Support.sp k)],eqs,190,0,[],false⟩
theorem contact_Of.cok (k:Nat):CtxOk PR (contact_Of.cx k):=ctx_ok tysOk eqsOk (fC (sat_Least.ok k) (fC (sat_Test.ok k) (fC (sat_Normal.ok k) (fC (contact_facing.ok k) (fC (contact_minus.ok k) (fC (contact_clip.ok k) (fC (contact_Of_1.ok k) (fC (poly_Support.ok k) FnsOk.nil)))))))) HsOk.nil
noncomputable def contact_Of.c1p (a0 a1:(List V26)) (y1:((Bool × V26) × (Bool × Int))):SL:=⟨[(0,(.val T56 a0)),(1,(.val T56 a1)),(5,(.val .ptr ⟨0,0,(0:Int),0,0⟩)),(6,(.val T4 y1.2.1)),(7,(.val T2 y1.2.2))],[(0,.cells (.pair T4 T26) y1.1)]⟩
noncomputable def contact_Of.c1q (a0 a1:(List V26)) (y1:((Bool × V26) × (Bool × Int))) (o:Bool):SL:=(fun v=>⟨[(0,(.val T56 a0)),(1,(.val T56 a1)),(5,(.val .ptr ⟨0,0,(0:Int),0,0⟩)),(42,(.val T4 v))],[(0,.cells (.pair T4 T26) y1.1)]⟩) o
noncomputable def contact_Of.c1x (o:Bool):Ex:=(fun _=>.normal) o
noncomputable def contact_Of.c1n (o:Bool):Nat:=(fun _=>1) o
theorem contact_Of.c1_ok (k:Nat) (a0 a1:(List V26)) (y1:((Bool × V26) × (Bool × Int))):Owp (contact_Of.c1 k y1) fun o=>Triple PR (contact_Of.cx k) (sub contact_Of.code [1,1,0,0]) 1 (contact_Of.c1p a0 a1 y1) (contact_Of.c1x o) (contact_Of.c1n o) (contact_Of.c1q a0 a1 y1 o):=by
 unfold contact_Of.c1; exact
  oF (fun e3 =>
  oS (tW (contact_Of.cok k) hmix [tT,tT,tT] [] [(0,0)] (via (finP (aI (aI (aI tv0 e3) e3) e3) .normal [(0,0)] (contact_Of.c1q a0 a1 y1 true)) (by kernel_rfl)))) (fun e3 =>
  oS (tW (contact_Of.cok k) hmix [fF,fF,fF] [] [(0,0)] (via (finP (aI (aI (aI tv0 e3) e3) e3) .normal [(0,0)] (contact_Of.c1q a0 a1 y1 (!y1.2.1))) (by kernel_rfl))))
noncomputable def contact_Of.c2p (a0 a1:(List V26)) (y1:((Bool × V26) × (Bool × Int))) (y7:(Bool × (Int × V26))):SL:=⟨[(0,(.val T56 a0)),(1,(.val T56 a1)),(5,(.val .ptr ⟨0,0,(0:Int),0,0⟩)),(10,(.val .ptr ⟨1,0,(0:Int),0,0⟩)),(11,(.val T56 a0)),(12,(.val T56 a1)),(13,(.val T2 y1.1.2.1)),(55,(.val T4 y1.1.1))],[(0,.cells (.pair T4 T26) y1.1),(1,.cells T26 y7.2.2)]⟩
noncomputable def contact_Of.c2q (y1:((Bool × V26) × (Bool × Int))) (y7:(Bool × (Int × V26))) (o:((List V26) × ((List V26) × Int))):SL:=(fun v=>⟨[(5,(.val .ptr ⟨0,0,(0:Int),0,0⟩)),(10,(.val .ptr ⟨1,0,(0:Int),0,0⟩)),(11,(.val T56 v.1)),(12,(.val T56 v.2.1)),(13,(.val T2 v.2.2))],[(0,.cells (.pair T4 T26) y1.1),(1,.cells T26 y7.2.2)]⟩) o
noncomputable def contact_Of.c2x (o:((List V26) × ((List V26) × Int))):Ex:=(fun _=>.normal) o
noncomputable def contact_Of.c2n (o:((List V26) × ((List V26) × Int))):Nat:=(fun _=>2) o
theorem contact_Of.c2_ok (k:Nat) (a0 a1:(List V26)) (y1:((Bool × V26) × (Bool × Int))) (y7:(Bool × (Int × V26))):Owp (contact_Of.c2 k a0 a1 y1) fun o=>Triple PR (contact_Of.cx k) (sub contact_Of.code [1,1,1,1,1,0,1]) 2 (contact_Of.c2p a0 a1 y1 y7) (contact_Of.c2x o) (contact_Of.c2n o) (contact_Of.c2q y1 y7 o):=by
 unfold contact_Of.c2; exact
  oF (fun e9 =>
  oS (tW (contact_Of.cok k) hmix [tT] [] [(0,0),(1,1)] (via (finP (aI tv0 e9) .normal [(0,0),(1,1)] (contact_Of.c2q y1 y7 (a1,a0,(iadd .i64 (8:Int) y1.1.2.1)))) (by kernel_rfl)))) (fun e9 =>
  oS (tW (contact_Of.cok k) hmix [fF] [] [(0,0),(1,1)] (via (finP (aI tv0 e9) .normal [(0,0),(1,1)] (contact_Of.c2q y1 y7 (a0,a1,y1.1.2.1))) (by kernel_rfl))))
noncomputable def contact_Of.c3p (o10:((List V26) × ((List V26) × Int))) (y1:((Bool × V26) × (Bool × Int))) (y7:(Bool × (Int × V26))) (y12:V26) (y17:Int) (y24:(V26 × (V26 × Bool))):SL:=⟨[(10,(.val .ptr ⟨0,0,(0:Int),0,0⟩)),(12,(.val T56 o10.2.1)),(13,(.val T2 (imul .i64 (iadd .i64 (imul .i64 o10.2.2 (8:Int)) y17) (2:Int)))),(14,(.val .ptr ⟨1,0,(0:Int),0,0⟩)),(15,(.val .ptr ⟨2,0,(0:Int),0,0⟩)),(16,(.val .ptr ⟨3,0,(0:Int),0,0⟩)),(18,(.val .clo (64,[⟨2,0,(0:Int),0,0⟩,⟨1,0,(0:Int),0,0⟩]))),(19,(.val .ptr ⟨4,0,(0:Int),0,0⟩)),(20,(.val .ptr ⟨5,0,(0:Int),0,0⟩)),(21,(.val T4 y24.2.2)),(109,(.val T4 y24.2.2))],[(0,.cells T26 y7.2.2),(1,.cells T26 y12),(2,.cells T26 (el Z26 o10.1 y1.1.2.1)),(3,.cells T26 (el Z26 o10.1 (irem (iadd .i64 y1.1.2.1 (1:Int)) (len o10.1)))),(4,.cells T26 y24.1),(5,.cells T26 y24.2.1)]⟩
noncomputable def contact_Of.c3q (o10:((List V26) × ((List V26) × Int))) (y1:((Bool × V26) × (Bool × Int))) (y7:(Bool × (Int × V26))) (y12:V26) (y17:Int) (o:(Bool × (V26 × V26))):SL:=(fun v=>⟨[(10,(.val .ptr ⟨0,0,(0:Int),0,0⟩)),(12,(.val T56 o10.2.1)),(13,(.val T2 (imul .i64 (iadd .i64 (imul .i64 o10.2.2 (8:Int)) y17) (2:Int)))),(14,(.val .ptr ⟨1,0,(0:Int),0,0⟩)),(18,(.val .clo (64,[⟨2,0,(0:Int),0,0⟩,⟨1,0,(0:Int),0,0⟩]))),(19,(.val .ptr ⟨3,0,(0:Int),0,0⟩)),(20,(.val .ptr ⟨4,0,(0:Int),0,0⟩)),(21,(.val T4 v.1))],[(0,.cells T26 y7.2.2),(1,.cells T26 y12),(2,.cells T26 (el Z26 o10.1 y1.1.2.1)),(3,.cells T26 v.2.1),(4,.cells T26 v.2.2)]⟩) o
noncomputable def contact_Of.c3x (o:(Bool × (V26 × V26))):Ex:=(fun _=>.normal) o
noncomputable def contact_Of.c3n (o:(Bool × (V26 × V26))):Nat:=(fun _=>5) o
theorem contact_Of.c3_ok (k:Nat) (o10:((List V26) × ((List V26) × Int))) (y1:((Bool × V26) × (Bool × Int))) (y7:(Bool × (Int × V26))) (y12:V26) (y17:Int) (y24:(V26 × (V26 × Bool))):Owp (contact_Of.c3 k o10 y1 y24) fun o=>Triple PR (contact_Of.cx k) (sub contact_Of.code [1,1,1,1,1,1,1,1,1,1,1,1,0,1]) 6 (contact_Of.c3p o10 y1 y7 y12 y17 y24) (contact_Of.c3x o) (contact_Of.c3n o) (contact_Of.c3q o10 y1 y7 y12 y17 o):=by
 unfold contact_Of.c3; exact
  oF (fun e26 =>
  oB fun y27 e28 =>
  oB fun y29 e30 =>
  oS (tW (contact_Of.cok k) hmix [tT,rS T26 y27,.res (.more (.dp T26) (.more (.dp T26) (.one (.dp T4)))) y29] [] [(0,0),(1,1),(2,2),(3,4),(4,5)] (via (finP (aI (aI (aI tv0 e26) e28) e30) .normal [(0,0),(1,1),(2,2),(3,4),(4,5)] (contact_Of.c3q o10 y1 y7 y12 y17 (y29.2.2,y29.1,y29.2.1))) (by kernel_rfl)))) (fun e26 =>
  oS (tW (contact_Of.cok k) hmix [fF] [] [(0,0),(1,1),(2,2),(3,4),(4,5)] (via (finP (aI tv0 e26) .normal [(0,0),(1,1),(2,2),(3,4),(4,5)] (contact_Of.c3q o10 y1 y7 y12 y17 (y24.2.2,y24.1,y24.2.1))) (by kernel_rfl))))
noncomputable def contact_Of.c5p (o10:((List V26) × ((List V26) × Int))) (o31:(Bool × (V26 × V26))) (v33:Int) (v34:(List (V26 × (V26 × V26)))) (y1:((Bool × V26) × (Bool × Int))) (y7:(Bool × (Int × V26))) (y12:V26) (y17:Int) (y37:(Int × Bool)):SL:=⟨[(10,(.val .ptr ⟨0,0,(0:Int),0,0⟩)),(12,(.val T56 o10.2.1)),(13,(.val T2 (imul .i64 (iadd .i64 (imul .i64 o10.2.2 (8:Int)) y17) (2:Int)))),(14,(.val .ptr ⟨1,0,(0:Int),0,0⟩)),(18,(.val .clo (64,[⟨2,0,(0:Int),0,0⟩,⟨1,0,(0:Int),0,0⟩]))),(19,(.val .ptr ⟨3,0,(0:Int),0,0⟩)),(20,(.val .ptr ⟨4,0,(0:Int),0,0⟩)),(21,(.val T4 o31.1)),(22,(.val .own (5:Nat))),(23,(.val T2 v33)),(24,(.val .ptr ⟨6,0,(0:Int),0,0⟩)),(25,(.val T2 y37.1)),(26,(.val T4 y37.2)),(123,(.val .own (7:Nat))),(124,(.val T2 (len [o31.2.1,o31.2.2]))),(125,(.val T2 v33))],[(0,.cells T26 y7.2.2),(1,.cells T26 y12),(2,.cells T26 (el Z26 o10.1 y1.1.2.1)),(3,.cells T26 o31.2.1),(4,.cells T26 o31.2.2),(5,.row (.pair T26 (.pair T26 T26)) v34 72),(6,.cells T26 (el Z26 [o31.2.1,o31.2.2] v33)),(7,.row T26 [o31.2.1,o31.2.2] 27)]⟩
noncomputable def contact_Of.c5q (o10:((List V26) × ((List V26) × Int))) (o31:(Bool × (V26 × V26))) (v33:Int) (v34:(List (V26 × (V26 × V26)))) (y1:((Bool × V26) × (Bool × Int))) (y7:(Bool × (Int × V26))) (y12:V26) (y17:Int) (y37:(Int × Bool)) (o:Bool):SL:=(fun v=>⟨[(10,(.val .ptr ⟨0,0,(0:Int),0,0⟩)),(12,(.val T56 o10.2.1)),(13,(.val T2 (imul .i64 (iadd .i64 (imul .i64 o10.2.2 (8:Int)) y17) (2:Int)))),(14,(.val .ptr ⟨1,0,(0:Int),0,0⟩)),(18,(.val .clo (64,[⟨2,0,(0:Int),0,0⟩,⟨1,0,(0:Int),0,0⟩]))),(19,(.val .ptr ⟨3,0,(0:Int),0,0⟩)),(20,(.val .ptr ⟨4,0,(0:Int),0,0⟩)),(21,(.val T4 o31.1)),(22,(.val .own (5:Nat))),(23,(.val T2 v33)),(24,(.val .ptr ⟨6,0,(0:Int),0,0⟩)),(25,(.val T2 y37.1)),(123,(.val .own (7:Nat))),(124,(.val T2 (len [o31.2.1,o31.2.2]))),(125,(.val T2 v33)),(148,(.val T4 v))],[(0,.cells T26 y7.2.2),(1,.cells T26 y12),(2,.cells T26 (el Z26 o10.1 y1.1.2.1)),(3,.cells T26 o31.2.1),(4,.cells T26 o31.2.2),(5,.row (.pair T26 (.pair T26 T26)) v34 72),(6,.cells T26 (el Z26 [o31.2.1,o31.2.2] v33)),(7,.row T26 [o31.2.1,o31.2.2] 27)]⟩) o
noncomputable def contact_Of.c5x (o:Bool):Ex:=(fun _=>.normal) o
noncomputable def contact_Of.c5n (o:Bool):Nat:=(fun _=>8) o
theorem contact_Of.c5_ok (k:Nat) (o10:((List V26) × ((List V26) × Int))) (o31:(Bool × (V26 × V26))) (v33:Int) (v34:(List (V26 × (V26 × V26)))) (y1:((Bool × V26) × (Bool × Int))) (y7:(Bool × (Int × V26))) (y12:V26) (y17:Int) (y37:(Int × Bool)):Owp (contact_Of.c5 k o31 v33 y37) fun o=>Triple PR (contact_Of.cx k) (sub contact_Of.code [1,1,1,1,1,1,1,1,1,1,1,1,1,1,0,1,0,0,1,1,0,0,1,1,0]) 8 (contact_Of.c5p o10 o31 v33 v34 y1 y7 y12 y17 y37) (contact_Of.c5x o) (contact_Of.c5n o) (contact_Of.c5q o10 o31 v33 v34 y1 y7 y12 y17 y37 o):=by
 unfold contact_Of.c5; exact
  oF (fun e39 =>
  oF (fun e40 =>
  oF (fun e41 =>
  oS (tW (contact_Of.cok k) hmix [tT,tT,tT,tT,tT,tT,tT,tT,tT,tT,tT] [] [(0,0),(1,1),(2,2),(3,3),(4,4),(5,5),(6,6),(7,7)] (via (finP (aI (aI (aI (aI (aI (aI (aI (aI (aI (aI tv0 e39) e39) e40) e40) e40) e41) e41) e41) (aI e40 e41)) e40) .normal [(0,0),(1,1),(2,2),(3,3),(4,4),(5,5),(6,6),(7,7)] (contact_Of.c5q o10 o31 v33 v34 y1 y7 y12 y17 y37 true)) (by kernel_rfl)))) (fun e41 =>
  oS (tW (contact_Of.cok k) hmix [tT,tT,tT,tT,tT,fF,fF,fF,tT,fF,tT] [] [(0,0),(1,1),(2,2),(3,3),(4,4),(5,5),(6,6),(7,7)] (via (finP (aI (aI (aI (aI (aI (aI (aI (aI (aI (aI tv0 e39) e39) e40) e40) e40) e41) e41) e41) (aI e40 e41)) e40) .normal [(0,0),(1,1),(2,2),(3,3),(4,4),(5,5),(6,6),(7,7)] (contact_Of.c5q o10 o31 v33 v34 y1 y7 y12 y17 y37 (!(Ty.eqb T26 o31.2.2 o31.2.1)))) (by kernel_rfl))))) (fun e40 =>
  oS (tW (contact_Of.cok k) hmix [tT,tT,fF,fF,fF,tT,tT,tT,fF,tT,fF] [] [(0,0),(1,1),(2,2),(3,3),(4,4),(5,5),(6,6),(7,7)] (via (finP (aI (aI (aI (aI (aI (aI (aI tv0 e39) e39) e40) e40) e40) e40) e40) .normal [(0,0),(1,1),(2,2),(3,3),(4,4),(5,5),(6,6),(7,7)] (contact_Of.c5q o10 o31 v33 v34 y1 y7 y12 y17 y37 false)) (by kernel_rfl))))) (fun e39 =>
  oS (tW (contact_Of.cok k) hmix [fF,fF,fF,fF,fF,tT,tT,tT,fF,tT,fF] [] [(0,0),(1,1),(2,2),(3,3),(4,4),(5,5),(6,6),(7,7)] (via (finP (aI (aI (aI (aI (aI (aI (aI tv0 e39) e39) ff) ff) ff) ff) ff) .normal [(0,0),(1,1),(2,2),(3,3),(4,4),(5,5),(6,6),(7,7)] (contact_Of.c5q o10 o31 v33 v34 y1 y7 y12 y17 y37 false)) (by kernel_rfl))))
noncomputable def contact_Of.c4p (o10:((List V26) × ((List V26) × Int))) (o31:(Bool × (V26 × V26))) (y1:((Bool × V26) × (Bool × Int))) (y7:(Bool × (Int × V26))) (y12:V26) (y17 v33:Int) (v34:(List (V26 × (V26 × V26)))):SL:=⟨[(10,(.val .ptr ⟨0,0,(0:Int),0,0⟩)),(12,(.val T56 o10.2.1)),(13,(.val T2 (imul .i64 (iadd .i64 (imul .i64 o10.2.2 (8:Int)) y17) (2:Int)))),(14,(.val .ptr ⟨1,0,(0:Int),0,0⟩)),(18,(.val .clo (64,[⟨2,0,(0:Int),0,0⟩,⟨1,0,(0:Int),0,0⟩]))),(19,(.val .ptr ⟨3,0,(0:Int),0,0⟩)),(20,(.val .ptr ⟨4,0,(0:Int),0,0⟩)),(21,(.val T4 o31.1)),(22,(.val .own (5:Nat))),(123,(.val .own (6:Nat))),(124,(.val T2 (len [o31.2.1,o31.2.2]))),(125,(.val T2 v33))],[(0,.cells T26 y7.2.2),(1,.cells T26 y12),(2,.cells T26 (el Z26 o10.1 y1.1.2.1)),(3,.cells T26 o31.2.1),(4,.cells T26 o31.2.2),(5,.row (.pair T26 (.pair T26 T26)) v34 72),(6,.row T26 [o31.2.1,o31.2.2] 27)]⟩
noncomputable def contact_Of.c4q (o10:((List V26) × ((List V26) × Int))) (y1:((Bool × V26) × (Bool × Int))) (y7:(Bool × (Int × V26))) (y12:V26) (y17:Int) (o:(List (V26 × (V26 × V26)))):SL:=(fun v=>⟨[(10,(.val .ptr ⟨0,0,(0:Int),0,0⟩)),(12,(.val T56 o10.2.1)),(13,(.val T2 (imul .i64 (iadd .i64 (imul .i64 o10.2.2 (8:Int)) y17) (2:Int)))),(14,(.val .ptr ⟨1,0,(0:Int),0,0⟩)),(18,(.val .clo (64,[⟨2,0,(0:Int),0,0⟩,⟨1,0,(0:Int),0,0⟩]))),(22,(.val .own (3:Nat)))],[(0,.cells T26 y7.2.2),(1,.cells T26 y12),(2,.cells T26 (el Z26 o10.1 y1.1.2.1)),(3,.row (.pair T26 (.pair T26 T26)) v 72)]⟩) o
noncomputable def contact_Of.c4x (o:(List (V26 × (V26 × V26)))):Ex:=(fun _=>(.exit 0)) o
noncomputable def contact_Of.c4n (o:(List (V26 × (V26 × V26)))):Nat:=(fun _=>4) o
theorem contact_Of.c4_ok (k:Nat) (o10:((List V26) × ((List V26) × Int))) (o31:(Bool × (V26 × V26))) (y1:((Bool × V26) × (Bool × Int))) (y7:(Bool × (Int × V26))) (y12:V26) (y17:Int):∀ (n:Nat) (v33:Int) (v34:(List (V26 × (V26 × V26)))),Owp (contact_Of.c4 k o10 o31 y1 y7 y12 y17 n v33 v34) fun o=>LTriple PR (contact_Of.cx k) (sub contact_Of.code [1,1,1,1,1,1,1,1,1,1,1,1,1,1,0,1,0,0]) 7 (contact_Of.c4p o10 o31 y1 y7 y12 y17 v33 v34) (contact_Of.c4x o) (contact_Of.c4n o) (contact_Of.c4q o10 y1 y7 y12 y17 o)
 | 0,_,_=>fun _ h=>nomatch h
 | n+1,v33,v34=>Owp.of (contact_Of.c4.eq_2 ..) (
  oF (fun e35 =>
  oR fun h36 =>
  oB fun y37 e38 =>
  oB fun o42 e43 =>
  oF (fun e44 =>
  oR fun h45 =>
  fun y hy=>loop_back (contact_Of.cok k) hmix 7 (contact_Of.c4p o10 o31 y1 y7 y12 y17 (iadd .i64 v33 (1:Int)) (v34++[((el Z26 [o31.2.1,o31.2.2] v33),y7.2.2,y37.1,(iadd .i64 (imul .i64 (iadd .i64 (imul .i64 o10.2.2 (8:Int)) y17) (2:Int)) v33),())])) [tT,.res (.more (.dp T2) (.one (.dp T4))) y37,.cutR 21 ⟨[],[(0,0),(1,1),(2,2),(3,3),(4,4),(5,5),(6,11),(7,6)],(contact_Of.c5p o10 o31 v33 v34 y1 y7 y12 y17 y37),8,.normal,(contact_Of.c5q o10 o31 v33 v34 y1 y7 y12 y17 y37 o42),8⟩,tT,tT] [] [(0,0),(1,1),(2,2),(3,3),(4,4),(5,17),(6,7)] (via (cutP (aI (aI (aI (aI tv0 e35) h36) h36) e38) [(0,0),(1,1),(2,2),(3,3),(4,4),(5,5),(6,11),(7,6)] (contact_Of.c5p o10 o31 v33 v34 y1 y7 y12 y17 y37) (((contact_Of.c5_ok k o10 o31 v33 v34 y1 y7 y12 y17 y37).ap e43)) (finP (aI (aI tv0 e44) h45) .normal [(0,0),(1,1),(2,2),(3,3),(4,4),(5,17),(6,7)] (contact_Of.c4p o10 o31 y1 y7 y12 y17 (iadd .i64 v33 (1:Int)) (v34++[((el Z26 [o31.2.1,o31.2.2] v33),y7.2.2,y37.1,(iadd .i64 (imul .i64 (iadd .i64 (imul .i64 o10.2.2 (8:Int)) y17) (2:Int)) v33),())])))) (by kernel_rfl)) ((contact_Of.c4_ok k o10 o31 y1 y7 y12 y17 n (iadd .i64 v33 (1:Int)) (v34++[((el Z26 [o31.2.1,o31.2.2] v33),y7.2.2,y37.1,(iadd .i64 (imul .i64 (iadd .i64 (imul .i64 o10.2.2 (8:Int)) y17) (2:Int)) v33),())])).ap hy)) (fun e44 =>
  fun y hy=>loop_back (contact_Of.cok k) hmix 7 (contact_Of.c4p o10 o31 y1 y7 y12 y17 (iadd .i64 v33 (1:Int)) v34) [tT,.res (.more (.dp T2) (.one (.dp T4))) y37,.cutR 21 ⟨[],[(0,0),(1,1),(2,2),(3,3),(4,4),(5,5),(6,11),(7,6)],(contact_Of.c5p o10 o31 v33 v34 y1 y7 y12 y17 y37),8,.normal,(contact_Of.c5q o10 o31 v33 v34 y1 y7 y12 y17 y37 o42),8⟩,fF] [] [(0,0),(1,1),(2,2),(3,3),(4,4),(5,5),(6,7)] (via (cutP (aI (aI (aI (aI tv0 e35) h36) h36) e38) [(0,0),(1,1),(2,2),(3,3),(4,4),(5,5),(6,11),(7,6)] (contact_Of.c5p o10 o31 v33 v34 y1 y7 y12 y17 y37) (((contact_Of.c5_ok k o10 o31 v33 v34 y1 y7 y12 y17 y37).ap e43)) (finP (aI tv0 e44) .normal [(0,0),(1,1),(2,2),(3,3),(4,4),(5,5),(6,7)] (contact_Of.c4p o10 o31 y1 y7 y12 y17 (iadd .i64 v33 (1:Int)) v34))) (by kernel_rfl)) ((contact_Of.c4_ok k o10 o31 y1 y7 y12 y17 n (iadd .i64 v33 (1:Int)) v34).ap hy))) (fun e35 =>
  oS (loop_exit (contact_Of.cok k) hmix [fF] [] [(0,0),(1,1),(2,2),(3,5)] (exne 0) (via (finP (aI tv0 e35) (.exit 0) [(0,0),(1,1),(2,2),(3,5)] (contact_Of.c4q o10 y1 y7 y12 y17 v34)) (by kernel_rfl)))))
theorem contact_Of.way (k:Nat) (a0 a1:(List V26)):Owp (contact_Of k a0 a1) fun y=>∃ w c0,exec PR (contact_Of.cx k) contact_Of.code 0 (entry (.pair T56 (.pair T56 .unit)) (a0,a1,())).st w (Ret (contact_Of.cx k) Tryz.f31 c0 (.one (.ow (.pair T26 (.pair T26 T26)) 72)) y):=by
 unfold contact_Of; exact
  oB fun y1 e2 =>
  oB fun o4 e5 =>
  oF (fun e6 =>
  oS (⟨[.res (.more (.dp (.pair T4 T26)) (.more (.dp T4) (.one (.dp T2)))) y1,.cutR 2 ⟨[],[(0,8)],(contact_Of.c1p a0 a1 y1),1,.normal,(contact_Of.c1q a0 a1 y1 o4),1⟩,tT],[.own 4 (.pair T26 (.pair T26 T26)) 72],via (cutP (aI tv0 e2) [(0,8)] (contact_Of.c1p a0 a1 y1) (((contact_Of.c1_ok k a0 a1 y1).ap e5)) (retP (aI tv0 e6) (.one (.ow (.pair T26 (.pair T26 T26)) 72)) ([]:(List (V26 × (V26 × V26)))))) (by kernel_rfl)⟩)) (fun e6 =>
  oB fun y7 e8 =>
  oB fun o10 e11 =>
  oB fun y12 e13 =>
  oR fun h14 =>
  oR fun h15 =>
  oR fun h16 =>
  oB fun y17 e18 =>
  oR fun h19 =>
  oR fun h20 =>
  oR fun h21 =>
  oB fun y22 e23 =>
  oB fun y24 e25 =>
  oB fun o31 e32 =>
  oB fun o46 e47 =>
  oF (fun e48 =>
  oB fun y49 e50 =>
  oR fun h51 =>
  oB fun y52 e53 =>
  oR fun h54 =>
  oS (⟨[.res (.more (.dp (.pair T4 T26)) (.more (.dp T4) (.one (.dp T2)))) y1,.cutR 2 ⟨[],[(0,8)],(contact_Of.c1p a0 a1 y1),1,.normal,(contact_Of.c1q a0 a1 y1 o4),1⟩,fF,.res (.more (.dp T4) (.more (.dp T2) (.one (.dp T26)))) y7,.cut ⟨[],[(0,0),(1,8)],(contact_Of.c2p a0 a1 y1 y7),2,.normal,(contact_Of.c2q y1 y7 o10),2⟩,rS T26 y12,rS T2 y17,rS T26 y22,.res (.more (.dp T26) (.more (.dp T26) (.one (.dp T4)))) y24,.cut ⟨[],[(0,1),(1,6),(2,22),(3,23),(4,59),(5,60)],(contact_Of.c3p o10 y1 y7 y12 y17 y24),6,.normal,(contact_Of.c3q o10 y1 y7 y12 y17 o31),5⟩,tT,.cut ⟨[.own 22 (.pair T26 (.pair T26 T26)) 72],[(0,0),(1,1),(2,2),(3,3),(4,4),(5,11),(6,8)],(contact_Of.c4p o10 o31 y1 y7 y12 y17 (0:Int) []),7,(.exit 0),(contact_Of.c4q o10 y1 y7 y12 y17 o46),4⟩,tT,rS T2 y49,.res (.more (.dp T2) (.one (.dp T4))) y52,tT],[],via (cutP (aI tv0 e2) [(0,8)] (contact_Of.c1p a0 a1 y1) (((contact_Of.c1_ok k a0 a1 y1).ap e5)) (cutP (aI (aI tv0 e6) e8) [(0,0),(1,8)] (contact_Of.c2p a0 a1 y1 y7) (((contact_Of.c2_ok k a0 a1 y1 y7).ap e11)) (cutP (aI (aI (aI (aI (aI (aI (aI (aI (aI (aI tv0 e13) h14) h15) h16) e18) h19) h20) h21) e23) e25) [(0,1),(1,6),(2,22),(3,23),(4,59),(5,60)] (contact_Of.c3p o10 y1 y7 y12 y17 y24) (((contact_Of.c3_ok k o10 y1 y7 y12 y17 y24).ap e32)) (cutP tv0 [(0,0),(1,1),(2,2),(3,3),(4,4),(5,11),(6,8)] (contact_Of.c4p o10 o31 y1 y7 y12 y17 (0:Int) []) (((contact_Of.c4_ok k o10 o31 y1 y7 y12 y17 k (0:Int) []).ap e47).triple) (retP (aI (aI (aI (aI (aI tv0 e48) e50) h51) e53) h54) (.one (.ow (.pair T26 (.pair T26 T26)) 72)) ((o46++[((el Z26 o10.2.1 y49),y7.2.2,y52.1,(imul .i64 (iadd .i64 (imul .i64 o10.2.2 (8:Int)) y17) (2:Int)),())]):(List (V26 × (V26 × V26))))))))) (by kernel_rfl)⟩)) (fun e48 =>
  oS (⟨[.res (.more (.dp (.pair T4 T26)) (.more (.dp T4) (.one (.dp T2)))) y1,.cutR 2 ⟨[],[(0,8)],(contact_Of.c1p a0 a1 y1),1,.normal,(contact_Of.c1q a0 a1 y1 o4),1⟩,fF,.res (.more (.dp T4) (.more (.dp T2) (.one (.dp T26)))) y7,.cut ⟨[],[(0,0),(1,8)],(contact_Of.c2p a0 a1 y1 y7),2,.normal,(contact_Of.c2q y1 y7 o10),2⟩,rS T26 y12,rS T2 y17,rS T26 y22,.res (.more (.dp T26) (.more (.dp T26) (.one (.dp T4)))) y24,.cut ⟨[],[(0,1),(1,6),(2,22),(3,23),(4,59),(5,60)],(contact_Of.c3p o10 y1 y7 y12 y17 y24),6,.normal,(contact_Of.c3q o10 y1 y7 y12 y17 o31),5⟩,tT,.cut ⟨[.own 22 (.pair T26 (.pair T26 T26)) 72],[(0,0),(1,1),(2,2),(3,3),(4,4),(5,11),(6,8)],(contact_Of.c4p o10 o31 y1 y7 y12 y17 (0:Int) []),7,(.exit 0),(contact_Of.c4q o10 y1 y7 y12 y17 o46),4⟩,fF],[],via (cutP (aI tv0 e2) [(0,8)] (contact_Of.c1p a0 a1 y1) (((contact_Of.c1_ok k a0 a1 y1).ap e5)) (cutP (aI (aI tv0 e6) e8) [(0,0),(1,8)] (contact_Of.c2p a0 a1 y1 y7) (((contact_Of.c2_ok k a0 a1 y1 y7).ap e11)) (cutP (aI (aI (aI (aI (aI (aI (aI (aI (aI (aI tv0 e13) h14) h15) h16) e18) h19) h20) h21) e23) e25) [(0,1),(1,6),(2,22),(3,23),(4,59),(5,60)] (contact_Of.c3p o10 y1 y7 y12 y17 y24) (((contact_Of.c3_ok k o10 y1 y7 y12 y17 y24).ap e32)) (cutP tv0 [(0,0),(1,1),(2,2),(3,3),(4,4),(5,11),(6,8)] (contact_Of.c4p o10 o31 y1 y7 y12 y17 (0:Int) []) (((contact_Of.c4_ok k o10 o31 y1 y7 y12 y17 k (0:Int) []).ap e47).triple) (retP (aI tv0 e48) (.one (.ow (.pair T26 (.pair T26 T26)) 72)) (o46:(List (V26 × (V26 × V26))))))))) (by kernel_rfl)⟩)))
theorem contact_Of.ok (k:Nat):FnOk PR 31 (contact_Of.sp k) :=
 fn_ok (contact_Of.cok k) hmix Tryz.func31 (code:=contact_Of.code) (by kernel_rfl) (by kernel_rfl) (by kernel_rfl) rfl rfl (by kernel_rfl) (by kernel_rfl) (by kernel_rfl) (fun x=>Nat.le_of_ble_eq_true (by kernel_rfl)) fun x y hy=>(contact_Of.way k x.1 x.2.1).ap hy
end Go.Proofs.T1
