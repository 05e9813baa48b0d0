import Derived.Test.YtipddonkkhjegaaGreatG0
import Derived.Test.YtipddonkkhjegaaGreatG1
import Derived.Test.YtipddonkkhjegaaGreatG2
namespace Go.Proofs.T1
open Go Go.Sx Go.Proofs
set_option maxRecDepth 100000
set_option linter.unusedVariables false
noncomputable def sat_both.code:Code:=Func.cd Tryz.f113
def sat_both (k:Nat) (a0 a1:(List V26)):Option Int :=
 bnd (poly_Check k a0) fun y1 =>
 bif' (ine y1 0)
 (some y1)
 (bnd (poly_Check k a1) fun y4 =>
  some y4)
noncomputable def sat_both.sp (k:Nat):Go.Sx.Spec:=⟨(.pair T56 (.pair T56 .unit)),(.one (.dp T2)),fun x=>sat_both k x.1 x.2.1,false⟩
noncomputable def sat_both.cx (k:Nat):Go.Sx.Ctx:=⟨tys,[(121,poly_Check.sp k)],eqs,13,0,[],false⟩
theorem sat_both.cok (k:Nat):CtxOk PR (sat_both.cx k):=ctx_ok tysOk eqsOk (fC (poly_Check.ok k) FnsOk.nil) HsOk.nil
theorem sat_both.way (k:Nat) (a0 a1:(List V26)):Owp (sat_both k a0 a1) fun y=>∃ w c0,exec PR (sat_both.cx k) sat_both.code 0 (entry (.pair T56 (.pair T56 .unit)) (a0,a1,())).st w (Ret (sat_both.cx k) Tryz.f113 c0 (.one (.dp T2)) y):=by
 unfold sat_both; exact
  oB fun y1 e2 =>
  oF (fun e3 =>
  oS (⟨[rS T2 y1,tT],[],via (retP (aI (aI tv0 e2) e3) (.one (.dp T2)) (y1:Int)) (by kernel_rfl)⟩)) (fun e3 =>
  oB fun y4 e5 =>
  oS (⟨[rS T2 y1,fF,rS T2 y4],[],via (retP (aI (aI (aI tv0 e2) e3) e5) (.one (.dp T2)) (y4:Int)) (by kernel_rfl)⟩))
theorem sat_both.ok (k:Nat):FnOk PR 113 (sat_both.sp k) :=
 fn_ok (sat_both.cok k) hmix Tryz.func113 (code:=sat_both.code) (by kernel_rfl) (by kernel_rfl) (by kernel_rfl) rfl rfl (by kernel_rfl) (by kernel_rfl) (by kernel_rfl) (fun x=>Nat.le_of_ble_eq_true (by kernel_rfl)) fun x y hy=>(sat_both.way k x.1 x.2.1).ap hy
noncomputable def sat_Normal.code:Code:=Func.cd Tryz.f62
def sat_Normal.c1 (k:Nat) (a0:(List V26)) (a1:Int):Option (Bool) :=
 bif' (ilt a1 0)
 (some true)
 (some (ige a1 (len a0)))
def sat_Normal (k:Nat) (a0:(List V26)) (a1:Int):Option V26 :=
 bnd (sat_Normal.c1 k a0 a1) fun o2 =>
 bif' o2
 (some (0,0,()))
 (req (inL a1 a0) <|req (nz (len a0)) <|req (inL (irem (iadd .i64 a1 1) (len a0)) a0) <|some ((isub .i64 (el Z26 a0 (irem (iadd .i64 a1 1) (len a0))).2.1 (el Z26 a0 a1).2.1),(isub .i64 (el Z26 a0 a1).1 (el Z26 a0 (irem (iadd .i64 a1 1) (len a0))).1),()))
noncomputable def sat_Normal.sp (k:Nat):Go.Sx.Spec:=⟨(.pair T56 (.pair T2 .unit)),(.one (.dp T26)),fun x=>sat_Normal k x.1 x.2.1,false⟩
noncomputable def sat_Normal.cx (k:Nat):Go.Sx.Ctx:=⟨tys,[],eqs,39,0,[],false⟩
theorem sat_Normal.cok (k:Nat):CtxOk PR (sat_Normal.cx k):=ctx_ok tysOk eqsOk FnsOk.nil HsOk.nil
noncomputable def sat_Normal.c1p (a0:(List V26)) (a1:Int):SL:=⟨[(0,(.val T56 a0)),(1,(.val T2 a1)),(4,(.val .ptr ⟨0,0,(0:Int),0,0⟩))],[(0,.cells T26 ((0:Int),(0:Int),()))]⟩
noncomputable def sat_Normal.c1q (a0:(List V26)) (a1:Int) (o:Bool):SL:=(fun v=>⟨[(0,(.val T56 a0)),(1,(.val T2 a1)),(4,(.val .ptr ⟨0,0,(0:Int),0,0⟩)),(14,(.val T4 v))],[(0,.cells T26 ((0:Int),(0:Int),()))]⟩) o
noncomputable def sat_Normal.c1x (o:Bool):Ex:=(fun _=>.normal) o
noncomputable def sat_Normal.c1n (o:Bool):Nat:=(fun _=>1) o
theorem sat_Normal.c1_ok (k:Nat) (a0:(List V26)) (a1:Int):Owp (sat_Normal.c1 k a0 a1) fun o=>Triple PR (sat_Normal.cx k) (sub sat_Normal.code [1,0,0]) 1 (sat_Normal.c1p a0 a1) (sat_Normal.c1x o) (sat_Normal.c1n o) (sat_Normal.c1q a0 a1 o):=by
 unfold sat_Normal.c1; exact
  oF (fun e1 =>
  oS (tW (sat_Normal.cok k) hmix [tT,tT,tT,tT,tT] [] [(0,0)] (via (finP (aI (aI (aI (aI (aI tv0 e1) e1) e1) e1) e1) .normal [(0,0)] (sat_Normal.c1q a0 a1 true)) (by kernel_rfl)))) (fun e1 =>
  oS (tW (sat_Normal.cok k) hmix [fF,fF,fF,fF,fF] [] [(0,0)] (via (finP (aI (aI (aI (aI (aI tv0 e1) e1) e1) e1) e1) .normal [(0,0)] (sat_Normal.c1q a0 a1 (ige a1 (len a0)))) (by kernel_rfl))))
theorem sat_Normal.way (k:Nat) (a0:(List V26)) (a1:Int):Owp (sat_Normal k a0 a1) fun y=>∃ w c0,exec PR (sat_Normal.cx k) sat_Normal.code 0 (entry (.pair T56 (.pair T2 .unit)) (a0,a1,())).st w (Ret (sat_Normal.cx k) Tryz.f62 c0 (.one (.dp T26)) y):=by
 unfold sat_Normal; exact
  oB fun o2 e3 =>
  oF (fun e4 =>
  oS (⟨[.cutR 1 ⟨[],[(0,0)],(sat_Normal.c1p a0 a1),1,.normal,(sat_Normal.c1q a0 a1 o2),1⟩,tT],[],via (cutP tv0 [(0,0)] (sat_Normal.c1p a0 a1) (((sat_Normal.c1_ok k a0 a1).ap e3)) (retP (aI tv0 e4) (.one (.dp T26)) (((0:Int),(0:Int),()):V26))) (by kernel_rfl)⟩)) (fun e4 =>
  oR fun h5 =>
  oR fun h6 =>
  oR fun h7 =>
  oS (⟨[.cutR 1 ⟨[],[(0,0)],(sat_Normal.c1p a0 a1),1,.normal,(sat_Normal.c1q a0 a1 o2),1⟩,fF],[],via (cutP tv0 [(0,0)] (sat_Normal.c1p a0 a1) (((sat_Normal.c1_ok k a0 a1).ap e3)) (retP (aI (aI (aI (aI tv0 e4) h5) h6) h7) (.one (.dp T26)) (((isub .i64 (el Z26 a0 (irem (iadd .i64 a1 (1:Int)) (len a0))).2.1 (el Z26 a0 a1).2.1),(isub .i64 (el Z26 a0 a1).1 (el Z26 a0 (irem (iadd .i64 a1 (1:Int)) (len a0))).1),()):V26))) (by kernel_rfl)⟩))
theorem sat_Normal.ok (k:Nat):FnOk PR 62 (sat_Normal.sp k) :=
 fn_ok (sat_Normal.cok k) hmix Tryz.func62 (code:=sat_Normal.code) (by kernel_rfl) (by kernel_rfl) (by kernel_rfl) rfl rfl (by kernel_rfl) (by kernel_rfl) (by kernel_rfl) (fun x=>Nat.le_of_ble_eq_true (by kernel_rfl)) fun x y hy=>(sat_Normal.way k x.1 x.2.1).ap hy
noncomputable def sat_deep.code:Code:=Func.cd Tryz.f114
def sat_deep.c2 (k:Nat) (a0 a1:(List V26)) (a2 v3 v4:Int) (y1:V26):Option (Bool) :=
 bif' (ieq v4 0)
 (some true)
 (some (igt (iadd .i64 (imul .i64 y1.1 (isub .i64 (el Z26 a0 a2).1 (el Z26 a1 v4).1)) (imul .i64 y1.2.1 (isub .i64 (el Z26 a0 a2).2.1 (el Z26 a1 v4).2.1))) v3))
def sat_deep.c1 (k:Nat) (a0 a1:(List V26)) (a2:Int) (y1:V26):Nat→Int→Int→Option (Int)
 | 0,_,_=>none
 | n+1,v3,v4 =>
  bif' (ilt v4 (len a1))
  (req (inL v4 a1) <|req (inL a2 a0) <|bnd (sat_deep.c2 k a0 a1 a2 v3 v4 y1) fun o9 =>
  bif' o9
  (sat_deep.c1 k a0 a1 a2 y1 n (iadd .i64 (imul .i64 y1.1 (isub .i64 (el Z26 a0 a2).1 (el Z26 a1 v4).1)) (imul .i64 y1.2.1 (isub .i64 (el Z26 a0 a2).2.1 (el Z26 a1 v4).2.1))) (iadd .i64 v4 1))
  (sat_deep.c1 k a0 a1 a2 y1 n v3 (iadd .i64 v4 1)))
  (some v3)
def sat_deep (k:Nat) (a0 a1:(List V26)) (a2:Int):Option Int :=
 bnd (sat_Normal k a0 a2) fun y1 =>
 bnd (sat_deep.c1 k a0 a1 a2 y1 k 0 0) fun o12 =>
 some o12
noncomputable def sat_deep.sp (k:Nat):Go.Sx.Spec:=⟨(.pair T56 (.pair T56 (.pair T2 .unit))),(.one (.dp T2)),fun x=>sat_deep k x.1 x.2.1 x.2.2.1,false⟩
noncomputable def sat_deep.cx (k:Nat):Go.Sx.Ctx:=⟨tys,[(62,sat_Normal.sp k)],eqs,55,0,[],false⟩
theorem sat_deep.cok (k:Nat):CtxOk PR (sat_deep.cx k):=ctx_ok tysOk eqsOk (fC (sat_Normal.ok k) FnsOk.nil) HsOk.nil
noncomputable def sat_deep.c2p (a0 a1:(List V26)) (a2 v3 v4:Int) (y1:V26):SL:=⟨[(0,(.val T56 a0)),(2,(.val T2 a2)),(7,(.val .ptr ⟨0,0,(0:Int),0,0⟩)),(8,(.val T2 v3)),(9,(.val T2 v4)),(11,(.val T2 (iadd .i64 (imul .i64 y1.1 (isub .i64 (el Z26 a0 a2).1 (el Z26 a1 v4).1)) (imul .i64 y1.2.1 (isub .i64 (el Z26 a0 a2).2.1 (el Z26 a1 v4).2.1))))),(15,(.val T56 a1)),(16,(.val T2 (len a1))),(17,(.val T2 v4))],[(0,.cells T26 y1)]⟩
noncomputable def sat_deep.c2q (a0 a1:(List V26)) (a2 v3 v4:Int) (y1:V26) (o:Bool):SL:=(fun v=>⟨[(0,(.val T56 a0)),(2,(.val T2 a2)),(7,(.val .ptr ⟨0,0,(0:Int),0,0⟩)),(8,(.val T2 v3)),(11,(.val T2 (iadd .i64 (imul .i64 y1.1 (isub .i64 (el Z26 a0 a2).1 (el Z26 a1 v4).1)) (imul .i64 y1.2.1 (isub .i64 (el Z26 a0 a2).2.1 (el Z26 a1 v4).2.1))))),(15,(.val T56 a1)),(16,(.val T2 (len a1))),(17,(.val T2 v4)),(51,(.val T4 v))],[(0,.cells T26 y1)]⟩) o
noncomputable def sat_deep.c2x (o:Bool):Ex:=(fun _=>.normal) o
noncomputable def sat_deep.c2n (o:Bool):Nat:=(fun _=>1) o
theorem sat_deep.c2_ok (k:Nat) (a0 a1:(List V26)) (a2 v3 v4:Int) (y1:V26):Owp (sat_deep.c2 k a0 a1 a2 v3 v4 y1) fun o=>Triple PR (sat_deep.cx k) (sub sat_deep.code [1,1,1,0,1,0,0,1,1,0,0,1,1,0]) 1 (sat_deep.c2p a0 a1 a2 v3 v4 y1) (sat_deep.c2x o) (sat_deep.c2n o) (sat_deep.c2q a0 a1 a2 v3 v4 y1 o):=by
 unfold sat_deep.c2; exact
  oF (fun e8 =>
  oS (tW (sat_deep.cok k) hmix [tT,tT,tT,tT] [] [(0,0)] (via (finP (aI (aI (aI (aI tv0 e8) e8) e8) e8) .normal [(0,0)] (sat_deep.c2q a0 a1 a2 v3 v4 y1 true)) (by kernel_rfl)))) (fun e8 =>
  oS (tW (sat_deep.cok k) hmix [fF,fF,fF,fF] [] [(0,0)] (via (finP (aI (aI (aI (aI tv0 e8) e8) e8) e8) .normal [(0,0)] (sat_deep.c2q a0 a1 a2 v3 v4 y1 (igt (iadd .i64 (imul .i64 y1.1 (isub .i64 (el Z26 a0 a2).1 (el Z26 a1 v4).1)) (imul .i64 y1.2.1 (isub .i64 (el Z26 a0 a2).2.1 (el Z26 a1 v4).2.1))) v3))) (by kernel_rfl))))
noncomputable def sat_deep.c1p (a0 a1:(List V26)) (a2:Int) (y1:V26) (v3 v4:Int):SL:=⟨[(0,(.val T56 a0)),(2,(.val T2 a2)),(7,(.val .ptr ⟨0,0,(0:Int),0,0⟩)),(8,(.val T2 v3)),(15,(.val T56 a1)),(16,(.val T2 (len a1))),(17,(.val T2 v4))],[(0,.cells T26 y1)]⟩
noncomputable def sat_deep.c1q (o:Int):SL:=(fun v=>⟨[(8,(.val T2 v))],[]⟩) o
noncomputable def sat_deep.c1x (o:Int):Ex:=(fun _=>(.exit 0)) o
noncomputable def sat_deep.c1n (o:Int):Nat:=(fun _=>0) o
theorem sat_deep.c1_ok (k:Nat) (a0 a1:(List V26)) (a2:Int) (y1:V26):∀ (n:Nat) (v3 v4:Int),Owp (sat_deep.c1 k a0 a1 a2 y1 n v3 v4) fun o=>LTriple PR (sat_deep.cx k) (sub sat_deep.code [1,1,1,0,1,0,0]) 1 (sat_deep.c1p a0 a1 a2 y1 v3 v4) (sat_deep.c1x o) (sat_deep.c1n o) (sat_deep.c1q o)
 | 0,_,_=>fun _ h=>nomatch h
 | n+1,v3,v4=>Owp.of (sat_deep.c1.eq_2 ..) (
  oF (fun e5 =>
  oR fun h6 =>
  oR fun h7 =>
  oB fun o9 e10 =>
  oF (fun e11 =>
  fun y hy=>loop_back (sat_deep.cok k) hmix 1 (sat_deep.c1p a0 a1 a2 y1 (iadd .i64 (imul .i64 y1.1 (isub .i64 (el Z26 a0 a2).1 (el Z26 a1 v4).1)) (imul .i64 y1.2.1 (isub .i64 (el Z26 a0 a2).2.1 (el Z26 a1 v4).2.1))) (iadd .i64 v4 (1:Int))) [tT,.cutR 7 ⟨[],[(0,0)],(sat_deep.c2p a0 a1 a2 v3 v4 y1),1,.normal,(sat_deep.c2q a0 a1 a2 v3 v4 y1 o9),1⟩,tT] [] [(0,0)] (via (cutP (aI (aI (aI (aI tv0 e5) h6) h7) h7) [(0,0)] (sat_deep.c2p a0 a1 a2 v3 v4 y1) (((sat_deep.c2_ok k a0 a1 a2 v3 v4 y1).ap e10)) (finP (aI tv0 e11) .normal [(0,0)] (sat_deep.c1p a0 a1 a2 y1 (iadd .i64 (imul .i64 y1.1 (isub .i64 (el Z26 a0 a2).1 (el Z26 a1 v4).1)) (imul .i64 y1.2.1 (isub .i64 (el Z26 a0 a2).2.1 (el Z26 a1 v4).2.1))) (iadd .i64 v4 (1:Int))))) (by kernel_rfl)) ((sat_deep.c1_ok k a0 a1 a2 y1 n (iadd .i64 (imul .i64 y1.1 (isub .i64 (el Z26 a0 a2).1 (el Z26 a1 v4).1)) (imul .i64 y1.2.1 (isub .i64 (el Z26 a0 a2).2.1 (el Z26 a1 v4).2.1))) (iadd .i64 v4 (1:Int))).ap hy)) (fun e11 =>
  fun y hy=>loop_back (sat_deep.cok k) hmix 1 (sat_deep.c1p a0 a1 a2 y1 v3 (iadd .i64 v4 (1:Int))) [tT,.cutR 7 ⟨[],[(0,0)],(sat_deep.c2p a0 a1 a2 v3 v4 y1),1,.normal,(sat_deep.c2q a0 a1 a2 v3 v4 y1 o9),1⟩,fF] [] [(0,0)] (via (cutP (aI (aI (aI (aI tv0 e5) h6) h7) h7) [(0,0)] (sat_deep.c2p a0 a1 a2 v3 v4 y1) (((sat_deep.c2_ok k a0 a1 a2 v3 v4 y1).ap e10)) (finP (aI tv0 e11) .normal [(0,0)] (sat_deep.c1p a0 a1 a2 y1 v3 (iadd .i64 v4 (1:Int))))) (by kernel_rfl)) ((sat_deep.c1_ok k a0 a1 a2 y1 n v3 (iadd .i64 v4 (1:Int))).ap hy))) (fun e5 =>
  oS (loop_exit (sat_deep.cok k) hmix [fF] [] [] (exne 0) (via (finP (aI tv0 e5) (.exit 0) [] (sat_deep.c1q v3)) (by kernel_rfl)))))
theorem sat_deep.way (k:Nat) (a0 a1:(List V26)) (a2:Int):Owp (sat_deep k a0 a1 a2) fun y=>∃ w c0,exec PR (sat_deep.cx k) sat_deep.code 0 (entry (.pair T56 (.pair T56 (.pair T2 .unit))) (a0,a1,a2,())).st w (Ret (sat_deep.cx k) Tryz.f114 c0 (.one (.dp T2)) y):=by
 unfold sat_deep; exact
  oB fun y1 e2 =>
  oB fun o12 e13 =>
  oS (⟨[rS T26 y1,.cut ⟨[],[(0,4)],(sat_deep.c1p a0 a1 a2 y1 (0:Int) (0:Int)),1,(.exit 0),(sat_deep.c1q o12),0⟩],[],via (cutP (aI tv0 e2) [(0,4)] (sat_deep.c1p a0 a1 a2 y1 (0:Int) (0:Int)) (((sat_deep.c1_ok k a0 a1 a2 y1 k (0:Int) (0:Int)).ap e13).triple) (retP tv0 (.one (.dp T2)) (o12:Int))) (by kernel_rfl)⟩)
theorem sat_deep.ok (k:Nat):FnOk PR 114 (sat_deep.sp k) :=
 fn_ok (sat_deep.cok k) hmix Tryz.func114 (code:=sat_deep.code) (by kernel_rfl) (by kernel_rfl) (by kernel_rfl) rfl rfl (by kernel_rfl) (by kernel_rfl) (by kernel_rfl) (fun x=>Nat.le_of_ble_eq_true (by kernel_rfl)) fun x y hy=>(sat_deep.way k x.1 x.2.1 x.2.2.1).ap hy
noncomputable def sat_root.code:Code:=Func.cd Tryz.f119
def sat_root.c1 (k:Nat) (a0:Int):Nat→Int→Int→Option (Int)
 | 0,_,_=>none
 | n+1,v1,v2 =>
  bif' (igt (isub .i64 v2 v1) 1)
  (bif' (ile (imul .i64 (iquo .i64 (iadd .i64 v1 v2) 2) (iquo .i64 (iadd .i64 v1 v2) 2)) a0)
  (sat_root.c1 k a0 n (iquo .i64 (iadd .i64 v1 v2) 2) v2)
  (sat_root.c1 k a0 n v1 (iquo .i64 (iadd .i64 v1 v2) 2)))
  (some v1)
def sat_root (k:Nat) (a0:Int):Option Int :=
 bnd (sat_root.c1 k a0 k 0 2147483648) fun o5 =>
 some o5
noncomputable def sat_root.sp (k:Nat):Go.Sx.Spec:=⟨(.pair T2 .unit),(.one (.dp T2)),fun x=>sat_root k x.1,false⟩
noncomputable def sat_root.cx (k:Nat):Go.Sx.Ctx:=⟨tys,[],eqs,22,0,[],false⟩
theorem sat_root.cok (k:Nat):CtxOk PR (sat_root.cx k):=ctx_ok tysOk eqsOk FnsOk.nil HsOk.nil
noncomputable def sat_root.c1p (a0 v1 v2:Int):SL:=⟨[(0,(.val T2 a0)),(3,(.val T2 v1)),(4,(.val T2 v2))],[]⟩
noncomputable def sat_root.c1q (o:Int):SL:=(fun v=>⟨[(3,(.val T2 v))],[]⟩) o
noncomputable def sat_root.c1x (o:Int):Ex:=(fun _=>(.exit 0)) o
noncomputable def sat_root.c1n (o:Int):Nat:=(fun _=>0) o
theorem sat_root.c1_ok (k:Nat) (a0:Int):∀ (n:Nat) (v1 v2:Int),Owp (sat_root.c1 k a0 n v1 v2) fun o=>LTriple PR (sat_root.cx k) (sub sat_root.code [1,1,0,0,0]) 0 (sat_root.c1p a0 v1 v2) (sat_root.c1x o) (sat_root.c1n o) (sat_root.c1q o)
 | 0,_,_=>fun _ h=>nomatch h
 | n+1,v1,v2=>Owp.of (sat_root.c1.eq_2 ..) (
  oF (fun e3 =>
  oF (fun e4 =>
  fun y hy=>loop_back (sat_root.cok k) hmix 0 (sat_root.c1p a0 (iquo .i64 (iadd .i64 v1 v2) (2:Int)) v2) [tT,tT] [] [] (via (finP (aI (aI (aI tv0 e3) (by decide:nz (2:Int))) e4) .normal [] (sat_root.c1p a0 (iquo .i64 (iadd .i64 v1 v2) (2:Int)) v2)) (by kernel_rfl)) ((sat_root.c1_ok k a0 n (iquo .i64 (iadd .i64 v1 v2) (2:Int)) v2).ap hy)) (fun e4 =>
  fun y hy=>loop_back (sat_root.cok k) hmix 0 (sat_root.c1p a0 v1 (iquo .i64 (iadd .i64 v1 v2) (2:Int))) [tT,fF] [] [] (via (finP (aI (aI (aI tv0 e3) (by decide:nz (2:Int))) e4) .normal [] (sat_root.c1p a0 v1 (iquo .i64 (iadd .i64 v1 v2) (2:Int)))) (by kernel_rfl)) ((sat_root.c1_ok k a0 n v1 (iquo .i64 (iadd .i64 v1 v2) (2:Int))).ap hy))) (fun e3 =>
  oS (loop_exit (sat_root.cok k) hmix [fF] [] [] (exne 0) (via (finP (aI tv0 e3) (.exit 0) [] (sat_root.c1q v1)) (by kernel_rfl)))))
theorem sat_root.way (k:Nat) (a0:Int):Owp (sat_root k a0) fun y=>∃ w c0,exec PR (sat_root.cx k) sat_root.code 0 (entry (.pair T2 .unit) (a0,())).st w (Ret (sat_root.cx k) Tryz.f119 c0 (.one (.dp T2)) y):=by
 unfold sat_root; exact
  oB fun o5 e6 =>
  oS (⟨[.cut ⟨[],[],(sat_root.c1p a0 (0:Int) (2147483648:Int)),0,(.exit 0),(sat_root.c1q o5),0⟩],[],via (cutP tv0 [] (sat_root.c1p a0 (0:Int) (2147483648:Int)) (((sat_root.c1_ok k a0 k (0:Int) (2147483648:Int)).ap e6).triple) (retP tv0 (.one (.dp T2)) (o5:Int))) (by kernel_rfl)⟩)
theorem sat_root.ok (k:Nat):FnOk PR 119 (sat_root.sp k) :=
 fn_ok (sat_root.cok k) hmix Tryz.func119 (code:=sat_root.code) (by kernel_rfl) (by kernel_rfl) (by kernel_rfl) rfl rfl (by kernel_rfl) (by kernel_rfl) (by kernel_rfl) (fun x=>Nat.le_of_ble_eq_true (by kernel_rfl)) fun x y hy=>(sat_root.way k x.1).ap hy
noncomputable def sat_Length.code:Code:=Func.cd Tryz.f69
def sat_Length (k:Nat) (a0:V26):Option Int :=
 bnd (sat_root k (iadd .i64 (imul .i64 a0.1 a0.1) (imul .i64 a0.2.1 a0.2.1))) fun y1 =>
 some y1
noncomputable def sat_Length.sp (k:Nat):Go.Sx.Spec:=⟨(.pair T26 .unit),(.one (.dp T2)),fun x=>sat_Length k x.1,false⟩
noncomputable def sat_Length.cx (k:Nat):Go.Sx.Ctx:=⟨tys,[(119,sat_root.sp k)],eqs,15,0,[],false⟩
theorem sat_Length.cok (k:Nat):CtxOk PR (sat_Length.cx k):=ctx_ok tysOk eqsOk (fC (sat_root.ok k) FnsOk.nil) HsOk.nil
theorem sat_Length.way (k:Nat) (a0:V26):Owp (sat_Length k a0) fun y=>∃ w c0,exec PR (sat_Length.cx k) sat_Length.code 0 (entry (.pair T26 .unit) (a0,())).st w (Ret (sat_Length.cx k) Tryz.f69 c0 (.one (.dp T2)) y):=by
 unfold sat_Length; exact
  oB fun y1 e2 =>
  oS (⟨[rS T2 y1],[],via (retP (aI tv0 e2) (.one (.dp T2)) (y1:Int)) (by kernel_rfl)⟩)
theorem sat_Length.ok (k:Nat):FnOk PR 69 (sat_Length.sp k) :=
 fn_ok (sat_Length.cok k) hmix Tryz.func69 (code:=sat_Length.code) (by kernel_rfl) (by kernel_rfl) (by kernel_rfl) rfl rfl (by kernel_rfl) (by kernel_rfl) (by kernel_rfl) (fun x=>Nat.le_of_ble_eq_true (by kernel_rfl)) fun x y hy=>(sat_Length.way k x.1).ap hy
noncomputable def sat_Least.code:Code:=Func.cd Tryz.f60
def sat_Least.c3 (k:Nat) (v11:Bool) (v15:Int) (y26:(Int × Int)):Option (Bool) :=
 bif' v11
 (some (ilt y26.1 v15))
 (some true)
def sat_Least.c2 (k:Nat) (a0 a1:(List V26)) (v5:Int):Nat→Bool→Int→Bool→Int→Int→Option (Unit ⊕ (Bool × (Bool × (Int × Int))))
 | 0,_,_,_,_,_=>none
 | n+1,v11,v12,v13,v14,v15 =>
  bif' (ilt v12 (len (el ([]:(List V26)) (el (List.replicate 2 []) [[a0,a1],[a1,a0]] v5) 0)))
  (bnd (sat_deep k (el ([]:(List V26)) (el (List.replicate 2 []) [[a0,a1],[a1,a0]] v5) 0) (el ([]:(List V26)) (el (List.replicate 2 []) [[a0,a1],[a1,a0]] v5) 1) v12) fun y17 =>
  bif' (ilt y17 0)
  (some (.inl ()))
  (bnd (sat_Normal k (el ([]:(List V26)) (el (List.replicate 2 []) [[a0,a1],[a1,a0]] v5) 0) v12) fun y20 =>
  bnd (poly_Times k y17 1) fun y22 =>
  bnd (sat_Length k y20) fun y24 =>
  bnd (poly_Wide_Over k y22 y24) fun y26 =>
  bnd (sat_Least.c3 k v11 v15 y26) fun o29 =>
  bif' o29
  (sat_Least.c2 k a0 a1 v5 n true (iadd .i64 v12 1) (ieq v5 1) v12 y26.1)
  (sat_Least.c2 k a0 a1 v5 n v11 (iadd .i64 v12 1) v13 v14 v15)))
  (some (.inr (v11,v13,v14,v15)))
def sat_Least.c1 (k:Nat) (a0 a1:(List V26)):Nat→Bool→Int→Bool→Int→Int→Option (Unit ⊕ (Bool × (Int × Int)))
 | 0,_,_,_,_,_=>none
 | n+1,v4,v5,v6,v7,v8 =>
  bif' (ilt v5 (len [[a0,a1],[a1,a0]]))
  (req (inL v5 [[a0,a1],[a1,a0]]) <|bnd (sat_Least.c2 k a0 a1 v5 k v4 0 v6 v7 v8) fun o32 =>
  two o32 (fun y34 =>
  some (.inl ())) (fun y36 =>
  sat_Least.c1 k a0 a1 n y36.1 (iadd .i64 v5 1) y36.2.1 y36.2.2.1 y36.2.2.2))
  (some (.inr (v6,v7,v8)))
def sat_Least (k:Nat) (a0 a1:(List V26)):Option ((Bool × V26) × (Bool × Int)) :=
 bnd (sat_both k a0 a1) fun y1 =>
 bif' (ine y1 0)
 (some ((false,0,0,()),false,y1))
 (bnd (sat_Least.c1 k a0 a1 k false 0 false 0 0) fun o38 =>
  two o38 (fun y40 =>
  some ((false,0,0,()),false,0)) (fun y42 =>
  some ((y42.1,y42.2.1,y42.2.2,()),true,0)))
noncomputable def sat_Least.sp (k:Nat):Go.Sx.Spec:=⟨(.pair T56 (.pair T56 .unit)),(.more (.dp (.pair T4 T26)) (.more (.dp T4) (.one (.dp T2)))),fun x=>sat_Least k x.1 x.2.1,false⟩
noncomputable def sat_Least.cx (k:Nat):Go.Sx.Ctx:=⟨tys,[(113,sat_both.sp k),(114,sat_deep.sp k),(62,sat_Normal.sp k),(67,poly_Times.sp k),(69,sat_Length.sp k),(68,poly_Wide_Over.sp k)],eqs,80,0,[],false⟩
theorem sat_Least.cok (k:Nat):CtxOk PR (sat_Least.cx k):=ctx_ok tysOk eqsOk (fC (sat_both.ok k) (fC (sat_deep.ok k) (fC (sat_Normal.ok k) (fC (poly_Times.ok k) (fC (sat_Length.ok k) (fC (poly_Wide_Over.ok k) FnsOk.nil)))))) HsOk.nil
noncomputable def sat_Least.c3p (a0 a1:(List V26)) (v5:Int) (v11:Bool) (v12:Int) (v13:Bool) (v14 v15:Int) (y26:(Int × Int)):SL:=⟨[(4,(.val .ptr ⟨0,0,(0:Int),0,0⟩)),(8,(.val .ptr ⟨1,0,(0:Int),0,0⟩)),(9,(.val T4 v11)),(10,(.val T2 v5)),(11,(.val .ptr ⟨2,0,(0:Int),0,0⟩)),(12,(.val T2 v12)),(15,(.val T2 y26.1)),(30,(.val .own (3:Nat))),(31,(.val T2 (len [[a0,a1],[a1,a0]]))),(32,(.val T2 v5)),(39,(.val T2 (len (el ([]:(List V26)) (el (List.replicate 2 []) [[a0,a1],[a1,a0]] v5) (0:Int))))),(40,(.val T2 v12))],[(0,.cells (.pair T4 T26) (false,(0:Int),(0:Int),())),(1,.cells (.pair T4 T26) (v13,v14,v15,())),(2,.cells (.arr 2 T56) (el (List.replicate 2 []) [[a0,a1],[a1,a0]] v5)),(3,.row (.arr 2 T56) [[a0,a1],[a1,a0]] 150)]⟩
noncomputable def sat_Least.c3q (a0 a1:(List V26)) (v5:Int) (v11:Bool) (v12:Int) (v13:Bool) (v14 v15:Int) (y26:(Int × Int)) (o:Bool):SL:=(fun v=>⟨[(4,(.val .ptr ⟨0,0,(0:Int),0,0⟩)),(8,(.val .ptr ⟨1,0,(0:Int),0,0⟩)),(9,(.val T4 v11)),(10,(.val T2 v5)),(11,(.val .ptr ⟨2,0,(0:Int),0,0⟩)),(12,(.val T2 v12)),(15,(.val T2 y26.1)),(30,(.val .own (3:Nat))),(31,(.val T2 (len [[a0,a1],[a1,a0]]))),(32,(.val T2 v5)),(39,(.val T2 (len (el ([]:(List V26)) (el (List.replicate 2 []) [[a0,a1],[a1,a0]] v5) (0:Int))))),(40,(.val T2 v12)),(71,(.val T4 v))],[(0,.cells (.pair T4 T26) (false,(0:Int),(0:Int),())),(1,.cells (.pair T4 T26) (v13,v14,v15,())),(2,.cells (.arr 2 T56) (el (List.replicate 2 []) [[a0,a1],[a1,a0]] v5)),(3,.row (.arr 2 T56) [[a0,a1],[a1,a0]] 150)]⟩) o
noncomputable def sat_Least.c3x (o:Bool):Ex:=(fun _=>.normal) o
noncomputable def sat_Least.c3n (o:Bool):Nat:=(fun _=>4) o
theorem sat_Least.c3_ok (k:Nat) (a0 a1:(List V26)) (v5:Int) (v11:Bool) (v12:Int) (v13:Bool) (v14 v15:Int) (y26:(Int × Int)):Owp (sat_Least.c3 k v11 v15 y26) fun o=>Triple PR (sat_Least.cx k) (sub sat_Least.code [1,1,1,1,0,1,0,0,1,1,0,0,1,1,0,0,1,1,0,0,1,1,1,1,1,0]) 4 (sat_Least.c3p a0 a1 v5 v11 v12 v13 v14 v15 y26) (sat_Least.c3x o) (sat_Least.c3n o) (sat_Least.c3q a0 a1 v5 v11 v12 v13 v14 v15 y26 o):=by
 unfold sat_Least.c3; exact
  oF (fun e28 =>
  oS (tW (sat_Least.cok k) hmix [fF,fF,fF,fF,fF] [] [(0,0),(1,1),(2,2),(3,3)] (via (finP (aI (aI (aI (aI (aI tv0 (congrArg not e28)) (congrArg not e28)) (congrArg not e28)) (congrArg not e28)) (congrArg not e28)) .normal [(0,0),(1,1),(2,2),(3,3)] (sat_Least.c3q a0 a1 v5 v11 v12 v13 v14 v15 y26 (ilt y26.1 v15))) (by kernel_rfl)))) (fun e28 =>
  oS (tW (sat_Least.cok k) hmix [tT,tT,tT,tT,tT] [] [(0,0),(1,1),(2,2),(3,3)] (via (finP (aI (aI (aI (aI (aI tv0 (congrArg not e28)) (congrArg not e28)) (congrArg not e28)) (congrArg not e28)) (congrArg not e28)) .normal [(0,0),(1,1),(2,2),(3,3)] (sat_Least.c3q a0 a1 v5 v11 v12 v13 v14 v15 y26 true)) (by kernel_rfl))))
noncomputable def sat_Least.c2p (a0 a1:(List V26)) (v5:Int) (v11:Bool) (v12:Int) (v13:Bool) (v14 v15:Int):SL:=⟨[(4,(.val .ptr ⟨0,0,(0:Int),0,0⟩)),(8,(.val .ptr ⟨1,0,(0:Int),0,0⟩)),(9,(.val T4 v11)),(10,(.val T2 v5)),(11,(.val .ptr ⟨2,0,(0:Int),0,0⟩)),(30,(.val .own (3:Nat))),(31,(.val T2 (len [[a0,a1],[a1,a0]]))),(32,(.val T2 v5)),(39,(.val T2 (len (el ([]:(List V26)) (el (List.replicate 2 []) [[a0,a1],[a1,a0]] v5) (0:Int))))),(40,(.val T2 v12))],[(0,.cells (.pair T4 T26) (false,(0:Int),(0:Int),())),(1,.cells (.pair T4 T26) (v13,v14,v15,())),(2,.cells (.arr 2 T56) (el (List.replicate 2 []) [[a0,a1],[a1,a0]] v5)),(3,.row (.arr 2 T56) [[a0,a1],[a1,a0]] 150)]⟩
noncomputable def sat_Least.c2q (a0 a1:(List V26)) (v5:Int) (o:Unit ⊕ (Bool × (Bool × (Int × Int)))):SL:=(fun o=>two o (fun v=>⟨[(4,(.val .ptr ⟨0,0,(0:Int),0,0⟩)),(5,(.val T4 false)),(6,(.val T2 (0:Int)))],[(0,.cells (.pair T4 T26) (false,(0:Int),(0:Int),()))]⟩) (fun v=>⟨[(4,(.val .ptr ⟨0,0,(0:Int),0,0⟩)),(8,(.val .ptr ⟨1,0,(0:Int),0,0⟩)),(9,(.val T4 v.1)),(30,(.val .own (2:Nat))),(31,(.val T2 (len [[a0,a1],[a1,a0]]))),(32,(.val T2 v5))],[(0,.cells (.pair T4 T26) (false,(0:Int),(0:Int),())),(1,.cells (.pair T4 T26) (v.2.1,v.2.2.1,v.2.2.2,())),(2,.row (.arr 2 T56) [[a0,a1],[a1,a0]] 150)]⟩)) o
noncomputable def sat_Least.c2x (o:Unit ⊕ (Bool × (Bool × (Int × Int)))):Ex:=(fun o=>two o (fun _=>.ret) (fun _=>(.exit 2))) o
noncomputable def sat_Least.c2n (o:Unit ⊕ (Bool × (Bool × (Int × Int)))):Nat:=(fun o=>two o (fun _=>1) (fun _=>3)) o
theorem sat_Least.c2_ok (k:Nat) (a0 a1:(List V26)) (v5:Int):∀ (n:Nat) (v11:Bool) (v12:Int) (v13:Bool) (v14 v15:Int),Owp (sat_Least.c2 k a0 a1 v5 n v11 v12 v13 v14 v15) fun o=>LTriple PR (sat_Least.cx k) (sub sat_Least.code [1,1,1,1,0,1,0,0,1,1,0,0,1,1,0,0]) 4 (sat_Least.c2p a0 a1 v5 v11 v12 v13 v14 v15) (sat_Least.c2x o) (sat_Least.c2n o) (sat_Least.c2q a0 a1 v5 o)
 | 0,_,_,_,_,_=>fun _ h=>nomatch h
 | n+1,v11,v12,v13,v14,v15=>Owp.of (sat_Least.c2.eq_2 ..) (
  oF (fun e16 =>
  oB fun y17 e18 =>
  oF (fun e19 =>
  oS (loop_exit (sat_Least.cok k) hmix [tT,rS T2 y17,tT] [] [(0,0)] exne_ret (via (finP (aI (aI (aI (aI (aI (aI (aI tv0 e16) (by decide:inR (0:Int) 2)) (by decide:inR (0:Int) 2)) (by decide:inR (1:Int) 2)) (by decide:inR (1:Int) 2)) e18) e19) .ret [(0,0)] (sat_Least.c2q a0 a1 v5 (.inl ()))) (by kernel_rfl)))) (fun e19 =>
  oB fun y20 e21 =>
  oB fun y22 e23 =>
  oB fun y24 e25 =>
  oB fun y26 e27 =>
  oB fun o29 e30 =>
  oF (fun e31 =>
  fun y hy=>loop_back (sat_Least.cok k) hmix 4 (sat_Least.c2p a0 a1 v5 true (iadd .i64 v12 (1:Int)) (ieq v5 (1:Int)) v12 y26.1) [tT,rS T2 y17,fF,rS T26 y20,rS T115 y22,rS T2 y24,.res (.more (.dp T2) (.one (.dp T2))) y26,.cutR 17 ⟨[],[(0,0),(1,1),(2,2),(3,3)],(sat_Least.c3p a0 a1 v5 v11 v12 v13 v14 v15 y26),4,.normal,(sat_Least.c3q a0 a1 v5 v11 v12 v13 v14 v15 y26 o29),4⟩,tT] [] [(0,0),(1,1),(2,2),(3,3)] (via (cutP (aI (aI (aI (aI (aI (aI (aI (aI (aI (aI (aI (aI (aI tv0 e16) (by decide:inR (0:Int) 2)) (by decide:inR (0:Int) 2)) (by decide:inR (1:Int) 2)) (by decide:inR (1:Int) 2)) e18) e19) (by decide:inR (0:Int) 2)) (by decide:inR (0:Int) 2)) e21) e23) e25) e27) [(0,0),(1,1),(2,2),(3,3)] (sat_Least.c3p a0 a1 v5 v11 v12 v13 v14 v15 y26) (((sat_Least.c3_ok k a0 a1 v5 v11 v12 v13 v14 v15 y26).ap e30)) (finP (aI tv0 e31) .normal [(0,0),(1,1),(2,2),(3,3)] (sat_Least.c2p a0 a1 v5 true (iadd .i64 v12 (1:Int)) (ieq v5 (1:Int)) v12 y26.1))) (by kernel_rfl)) ((sat_Least.c2_ok k a0 a1 v5 n true (iadd .i64 v12 (1:Int)) (ieq v5 (1:Int)) v12 y26.1).ap hy)) (fun e31 =>
  fun y hy=>loop_back (sat_Least.cok k) hmix 4 (sat_Least.c2p a0 a1 v5 v11 (iadd .i64 v12 (1:Int)) v13 v14 v15) [tT,rS T2 y17,fF,rS T26 y20,rS T115 y22,rS T2 y24,.res (.more (.dp T2) (.one (.dp T2))) y26,.cutR 17 ⟨[],[(0,0),(1,1),(2,2),(3,3)],(sat_Least.c3p a0 a1 v5 v11 v12 v13 v14 v15 y26),4,.normal,(sat_Least.c3q a0 a1 v5 v11 v12 v13 v14 v15 y26 o29),4⟩,fF] [] [(0,0),(1,1),(2,2),(3,3)] (via (cutP (aI (aI (aI (aI (aI (aI (aI (aI (aI (aI (aI (aI (aI tv0 e16) (by decide:inR (0:Int) 2)) (by decide:inR (0:Int) 2)) (by decide:inR (1:Int) 2)) (by decide:inR (1:Int) 2)) e18) e19) (by decide:inR (0:Int) 2)) (by decide:inR (0:Int) 2)) e21) e23) e25) e27) [(0,0),(1,1),(2,2),(3,3)] (sat_Least.c3p a0 a1 v5 v11 v12 v13 v14 v15 y26) (((sat_Least.c3_ok k a0 a1 v5 v11 v12 v13 v14 v15 y26).ap e30)) (finP (aI tv0 e31) .normal [(0,0),(1,1),(2,2),(3,3)] (sat_Least.c2p a0 a1 v5 v11 (iadd .i64 v12 (1:Int)) v13 v14 v15))) (by kernel_rfl)) ((sat_Least.c2_ok k a0 a1 v5 n v11 (iadd .i64 v12 (1:Int)) v13 v14 v15).ap hy)))) (fun e16 =>
  oS (loop_exit (sat_Least.cok k) hmix [fF] [] [(0,0),(1,1),(2,3)] (exne 2) (via (finP (aI tv0 e16) (.exit 2) [(0,0),(1,1),(2,3)] (sat_Least.c2q a0 a1 v5 (.inr (v11,v13,v14,v15)))) (by kernel_rfl)))))
noncomputable def sat_Least.c1p (a0 a1:(List V26)) (v4:Bool) (v5:Int) (v6:Bool) (v7 v8:Int):SL:=⟨[(4,(.val .ptr ⟨0,0,(0:Int),0,0⟩)),(8,(.val .ptr ⟨1,0,(0:Int),0,0⟩)),(9,(.val T4 v4)),(30,(.val .own (2:Nat))),(31,(.val T2 (len [[a0,a1],[a1,a0]]))),(32,(.val T2 v5))],[(0,.cells (.pair T4 T26) (false,(0:Int),(0:Int),())),(1,.cells (.pair T4 T26) (v6,v7,v8,())),(2,.row (.arr 2 T56) [[a0,a1],[a1,a0]] 150)]⟩
noncomputable def sat_Least.c1q (o:Unit ⊕ (Bool × (Int × Int))):SL:=(fun o=>two o (fun v=>⟨[(4,(.val .ptr ⟨0,0,(0:Int),0,0⟩)),(5,(.val T4 false)),(6,(.val T2 (0:Int)))],[(0,.cells (.pair T4 T26) (false,(0:Int),(0:Int),()))]⟩) (fun v=>⟨[(4,(.val .ptr ⟨0,0,(0:Int),0,0⟩)),(8,(.val .ptr ⟨1,0,(0:Int),0,0⟩))],[(0,.cells (.pair T4 T26) (false,(0:Int),(0:Int),())),(1,.cells (.pair T4 T26) (v.1,v.2.1,v.2.2,()))]⟩)) o
noncomputable def sat_Least.c1x (o:Unit ⊕ (Bool × (Int × Int))):Ex:=(fun o=>two o (fun _=>.ret) (fun _=>(.exit 0))) o
noncomputable def sat_Least.c1n (o:Unit ⊕ (Bool × (Int × Int))):Nat:=(fun o=>two o (fun _=>1) (fun _=>2)) o
theorem sat_Least.c1_ok (k:Nat) (a0 a1:(List V26)):∀ (n:Nat) (v4:Bool) (v5:Int) (v6:Bool) (v7 v8:Int),Owp (sat_Least.c1 k a0 a1 n v4 v5 v6 v7 v8) fun o=>LTriple PR (sat_Least.cx k) (sub sat_Least.code [1,1,1,1,0,1,0,0]) 3 (sat_Least.c1p a0 a1 v4 v5 v6 v7 v8) (sat_Least.c1x o) (sat_Least.c1n o) (sat_Least.c1q o)
 | 0,_,_,_,_,_=>fun _ h=>nomatch h
 | n+1,v4,v5,v6,v7,v8=>Owp.of (sat_Least.c1.eq_2 ..) (
  oF (fun e9 =>
  oR fun h10 =>
  oB fun o32 e33 =>
  Owp.two (fun y34 e35 =>
  oS (loop_exit (sat_Least.cok k) hmix [tT,.cut ⟨[],[(0,0),(1,1),(2,7),(3,2)],(sat_Least.c2p a0 a1 v5 v4 (0:Int) v6 v7 v8),4,.ret,(sat_Least.c2q a0 a1 v5 (.inl ())),1⟩] [] [(0,0)] exne_ret (via (cutP (aI (aI (aI (aI (aI tv0 e9) h10) h10) (by decide:inR (0:Int) 2)) (by decide:inR (0:Int) 2)) [(0,0),(1,1),(2,7),(3,2)] (sat_Least.c2p a0 a1 v5 v4 (0:Int) v6 v7 v8) (((sat_Least.c2_ok k a0 a1 v5 k v4 (0:Int) v6 v7 v8).ap (e33.trans (congrArg some e35))).triple) (finP tv0 .ret [(0,0)] (sat_Least.c1q (.inl ())))) (by kernel_rfl)))) (fun y36 e37 =>
  fun y hy=>loop_back (sat_Least.cok k) hmix 3 (sat_Least.c1p a0 a1 y36.1 (iadd .i64 v5 (1:Int)) y36.2.1 y36.2.2.1 y36.2.2.2) [tT,.cut ⟨[],[(0,0),(1,1),(2,7),(3,2)],(sat_Least.c2p a0 a1 v5 v4 (0:Int) v6 v7 v8),4,(.exit 2),(sat_Least.c2q a0 a1 v5 (.inr y36)),3⟩] [] [(0,0),(1,1),(2,2)] (via (cutP (aI (aI (aI (aI (aI tv0 e9) h10) h10) (by decide:inR (0:Int) 2)) (by decide:inR (0:Int) 2)) [(0,0),(1,1),(2,7),(3,2)] (sat_Least.c2p a0 a1 v5 v4 (0:Int) v6 v7 v8) (((sat_Least.c2_ok k a0 a1 v5 k v4 (0:Int) v6 v7 v8).ap (e33.trans (congrArg some e37))).triple) (finP tv0 .normal [(0,0),(1,1),(2,2)] (sat_Least.c1p a0 a1 y36.1 (iadd .i64 v5 (1:Int)) y36.2.1 y36.2.2.1 y36.2.2.2))) (by kernel_rfl)) ((sat_Least.c1_ok k a0 a1 n y36.1 (iadd .i64 v5 (1:Int)) y36.2.1 y36.2.2.1 y36.2.2.2).ap hy))) (fun e9 =>
  oS (loop_exit (sat_Least.cok k) hmix [fF] [] [(0,0),(1,1)] (exne 0) (via (finP (aI tv0 e9) (.exit 0) [(0,0),(1,1)] (sat_Least.c1q (.inr (v6,v7,v8)))) (by kernel_rfl)))))
theorem sat_Least.way (k:Nat) (a0 a1:(List V26)):Owp (sat_Least k a0 a1) fun y=>∃ w c0,exec PR (sat_Least.cx k) sat_Least.code 0 (entry (.pair T56 (.pair T56 .unit)) (a0,a1,())).st w (Ret (sat_Least.cx k) Tryz.f60 c0 (.more (.dp (.pair T4 T26)) (.more (.dp T4) (.one (.dp T2)))) y):=by
 unfold sat_Least; exact
  oB fun y1 e2 =>
  oF (fun e3 =>
  oS (⟨[rS T2 y1,tT],[],via (retP (aI (aI tv0 e2) e3) (.more (.dp (.pair T4 T26)) (.more (.dp T4) (.one (.dp T2)))) (((false,(0:Int),(0:Int),()),false,y1):((Bool × V26) × (Bool × Int)))) (by kernel_rfl)⟩)) (fun e3 =>
  oB fun o38 e39 =>
  Owp.two (fun y40 e41 =>
  oS (⟨[rS T2 y1,fF,tT,.cut ⟨[],[(0,0),(1,9),(2,17)],(sat_Least.c1p a0 a1 false (0:Int) false (0:Int) (0:Int)),3,.ret,(sat_Least.c1q (.inl ())),1⟩],[],via (cutP (aI (aI tv0 e2) e3) [(0,0),(1,9),(2,17)] (sat_Least.c1p a0 a1 false (0:Int) false (0:Int) (0:Int)) (((sat_Least.c1_ok k a0 a1 k false (0:Int) false (0:Int) (0:Int)).ap (e39.trans (congrArg some e41))).triple) (retP tv0 (.more (.dp (.pair T4 T26)) (.more (.dp T4) (.one (.dp T2)))) (((false,(0:Int),(0:Int),()),false,(0:Int)):((Bool × V26) × (Bool × Int))))) (by kernel_rfl)⟩)) (fun y42 e43 =>
  oS (⟨[rS T2 y1,fF,tT,.cut ⟨[],[(0,0),(1,9),(2,17)],(sat_Least.c1p a0 a1 false (0:Int) false (0:Int) (0:Int)),3,(.exit 0),(sat_Least.c1q (.inr y42)),2⟩],[],via (cutP (aI (aI tv0 e2) e3) [(0,0),(1,9),(2,17)] (sat_Least.c1p a0 a1 false (0:Int) false (0:Int) (0:Int)) (((sat_Least.c1_ok k a0 a1 k false (0:Int) false (0:Int) (0:Int)).ap (e39.trans (congrArg some e43))).triple) (retP tv0 (.more (.dp (.pair T4 T26)) (.more (.dp T4) (.one (.dp T2)))) (((y42.1,y42.2.1,y42.2.2,()),true,(0:Int)):((Bool × V26) × (Bool × Int))))) (by kernel_rfl)⟩)))
theorem sat_Least.ok (k:Nat):FnOk PR 60 (sat_Least.sp k) :=
 fn_ok (sat_Least.cok k) hmix Tryz.func60 (code:=sat_Least.code) (by kernel_rfl) (by kernel_rfl) (by kernel_rfl) rfl rfl (by kernel_rfl) (by kernel_rfl) (by kernel_rfl) (fun x=>Nat.le_of_ble_eq_true (by kernel_rfl)) fun x y hy=>(sat_Least.way k x.1 x.2.1).ap hy
noncomputable def sat_Test.code:Code:=Func.cd Tryz.f61
def sat_Test.c1 (k:Nat) (y1:((Bool × V26) × (Bool × Int))):Option (Bool) :=
 bif' (ine y1.2.2 0)
 (some true)
 (some (!y1.2.1))
def sat_Test (k:Nat) (a0 a1:(List V26)):Option (Bool × (Int × V26)) :=
 bnd (sat_Least k a0 a1) fun y1 =>
 bnd (sat_Test.c1 k y1) fun o4 =>
 bif' o4
 (some (false,0,(0,0,())))
 (bif' y1.1.1
  (bnd (sat_Normal k a1 y1.1.2.1) fun y8 =>
  bnd (vec_Unit k ((ineg .i64 y8.1),(ineg .i64 y8.2.1),())) fun y10 =>
  some (true,y1.1.2.2.1,y10))
  (bnd (sat_Normal k a0 y1.1.2.1) fun y12 =>
  bnd (vec_Unit k y12) fun y14 =>
  some (true,y1.1.2.2.1,y14)))
noncomputable def sat_Test.sp (k:Nat):Go.Sx.Spec:=⟨(.pair T56 (.pair T56 .unit)),(.more (.dp T4) (.more (.dp T2) (.one (.dp T26)))),fun x=>sat_Test k x.1 x.2.1,false⟩
noncomputable def sat_Test.cx (k:Nat):Go.Sx.Ctx:=⟨tys,[(60,sat_Least.sp k),(62,sat_Normal.sp k),(115,vec_Unit.sp k)],eqs,48,0,[],false⟩
theorem sat_Test.cok (k:Nat):CtxOk PR (sat_Test.cx k):=ctx_ok tysOk eqsOk (fC (sat_Least.ok k) (fC (sat_Normal.ok k) (fC (vec_Unit.ok k) FnsOk.nil))) HsOk.nil
noncomputable def sat_Test.c1p (a0 a1:(List V26)) (y1:((Bool × V26) × (Bool × Int))):SL:=⟨[(0,(.val T56 a0)),(1,(.val T56 a1)),(6,(.val .ptr ⟨0,0,(0:Int),0,0⟩)),(7,(.val .ptr ⟨1,0,(0:Int),0,0⟩)),(8,(.val T4 y1.2.1)),(9,(.val T2 y1.2.2))],[(0,.cells T26 ((0:Int),(0:Int),())),(1,.cells (.pair T4 T26) y1.1)]⟩
noncomputable def sat_Test.c1q (a0 a1:(List V26)) (y1:((Bool × V26) × (Bool × Int))) (o:Bool):SL:=(fun v=>⟨[(0,(.val T56 a0)),(1,(.val T56 a1)),(6,(.val .ptr ⟨0,0,(0:Int),0,0⟩)),(7,(.val .ptr ⟨1,0,(0:Int),0,0⟩)),(23,(.val T4 v))],[(0,.cells T26 ((0:Int),(0:Int),())),(1,.cells (.pair T4 T26) y1.1)]⟩) o
noncomputable def sat_Test.c1x (o:Bool):Ex:=(fun _=>.normal) o
noncomputable def sat_Test.c1n (o:Bool):Nat:=(fun _=>2) o
theorem sat_Test.c1_ok (k:Nat) (a0 a1:(List V26)) (y1:((Bool × V26) × (Bool × Int))):Owp (sat_Test.c1 k y1) fun o=>Triple PR (sat_Test.cx k) (sub sat_Test.code [1,1,0,0]) 2 (sat_Test.c1p a0 a1 y1) (sat_Test.c1x o) (sat_Test.c1n o) (sat_Test.c1q a0 a1 y1 o):=by
 unfold sat_Test.c1; exact
  oF (fun e3 =>
  oS (tW (sat_Test.cok k) hmix [tT,tT,tT] [] [(0,0),(1,1)] (via (finP (aI (aI (aI tv0 e3) e3) e3) .normal [(0,0),(1,1)] (sat_Test.c1q a0 a1 y1 true)) (by kernel_rfl)))) (fun e3 =>
  oS (tW (sat_Test.cok k) hmix [fF,fF,fF] [] [(0,0),(1,1)] (via (finP (aI (aI (aI tv0 e3) e3) e3) .normal [(0,0),(1,1)] (sat_Test.c1q a0 a1 y1 (!y1.2.1))) (by kernel_rfl))))
theorem sat_Test.way (k:Nat) (a0 a1:(List V26)):Owp (sat_Test k a0 a1) fun y=>∃ w c0,exec PR (sat_Test.cx k) sat_Test.code 0 (entry (.pair T56 (.pair T56 .unit)) (a0,a1,())).st w (Ret (sat_Test.cx k) Tryz.f61 c0 (.more (.dp T4) (.more (.dp T2) (.one (.dp T26)))) y):=by
 unfold sat_Test; exact
  oB fun y1 e2 =>
  oB fun o4 e5 =>
  oF (fun e6 =>
  oS (⟨[.res (.more (.dp (.pair T4 T26)) (.more (.dp T4) (.one (.dp T2)))) y1,.cutR 2 ⟨[],[(0,2),(1,10)],(sat_Test.c1p a0 a1 y1),2,.normal,(sat_Test.c1q a0 a1 y1 o4),2⟩,tT],[],via (cutP (aI tv0 e2) [(0,2),(1,10)] (sat_Test.c1p a0 a1 y1) (((sat_Test.c1_ok k a0 a1 y1).ap e5)) (retP (aI tv0 e6) (.more (.dp T4) (.more (.dp T2) (.one (.dp T26)))) ((false,(0:Int),((0:Int),(0:Int),())):(Bool × (Int × V26))))) (by kernel_rfl)⟩)) (fun e6 =>
  oF (fun e7 =>
  oB fun y8 e9 =>
  oB fun y10 e11 =>
  oS (⟨[.res (.more (.dp (.pair T4 T26)) (.more (.dp T4) (.one (.dp T2)))) y1,.cutR 2 ⟨[],[(0,2),(1,10)],(sat_Test.c1p a0 a1 y1),2,.normal,(sat_Test.c1q a0 a1 y1 o4),2⟩,fF,tT,rS T26 y8,rS T26 y10],[],via (cutP (aI tv0 e2) [(0,2),(1,10)] (sat_Test.c1p a0 a1 y1) (((sat_Test.c1_ok k a0 a1 y1).ap e5)) (retP (aI (aI (aI (aI tv0 e6) e7) e9) e11) (.more (.dp T4) (.more (.dp T2) (.one (.dp T26)))) ((true,y1.1.2.2.1,y10):(Bool × (Int × V26))))) (by kernel_rfl)⟩)) (fun e7 =>
  oB fun y12 e13 =>
  oB fun y14 e15 =>
  oS (⟨[.res (.more (.dp (.pair T4 T26)) (.more (.dp T4) (.one (.dp T2)))) y1,.cutR 2 ⟨[],[(0,2),(1,10)],(sat_Test.c1p a0 a1 y1),2,.normal,(sat_Test.c1q a0 a1 y1 o4),2⟩,fF,fF,rS T26 y12,rS T26 y14],[],via (cutP (aI tv0 e2) [(0,2),(1,10)] (sat_Test.c1p a0 a1 y1) (((sat_Test.c1_ok k a0 a1 y1).ap e5)) (retP (aI (aI (aI (aI tv0 e6) e7) e13) e15) (.more (.dp T4) (.more (.dp T2) (.one (.dp T26)))) ((true,y1.1.2.2.1,y14):(Bool × (Int × V26))))) (by kernel_rfl)⟩)))
theorem sat_Test.ok (k:Nat):FnOk PR 61 (sat_Test.sp k) :=
 fn_ok (sat_Test.cok k) hmix Tryz.func61 (code:=sat_Test.code) (by kernel_rfl) (by kernel_rfl) (by kernel_rfl) rfl rfl (by kernel_rfl) (by kernel_rfl) (by kernel_rfl) (fun x=>Nat.le_of_ble_eq_true (by kernel_rfl)) fun x y hy=>(sat_Test.way k x.1 x.2.1).ap hy
end Go.Proofs.T1
