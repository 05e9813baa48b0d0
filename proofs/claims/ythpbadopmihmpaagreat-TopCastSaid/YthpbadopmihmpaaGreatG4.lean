import Derived.Test.YthpbadopmihmpaaGreatG0
import Derived.Test.YthpbadopmihmpaaGreatG1
namespace Go.Proofs.T1
open Go Go.Sx Go.Proofs
set_option maxRecDepth 100000
set_option linter.unusedVariables false
noncomputable def near_lowest.code:Code:=Func.cd Tryz.f33
def near_lowest.c2 (k:Nat) (a0:(List V26)) (v1 v2:Int):Option (Bool) :=
 req (inL v1 a0) <|bif' (ilt (el Z26 a0 v2).2.1 (el Z26 a0 v1).2.1)
 (some true)
 (bif' (ieq (el Z26 a0 v2).2.1 (el Z26 a0 v1).2.1)
  (some (ilt (el Z26 a0 v2).1 (el Z26 a0 v1).1))
  (some false))
def near_lowest.c1 (k:Nat) (a0:(List V26)):Nat→Int→Int→Option (Int)
 | 0,_,_=>none
 | n+1,v1,v2 =>
  bif' (ilt v2 (len a0))
  (req (inL v2 a0) <|bnd (near_lowest.c2 k a0 v1 v2) fun o8 =>
  bif' o8
  (near_lowest.c1 k a0 n v2 (iadd .i64 v2 1))
  (near_lowest.c1 k a0 n v1 (iadd .i64 v2 1)))
  (some v1)
def near_lowest (k:Nat) (a0:(List V26)):Option Int :=
 bnd (near_lowest.c1 k a0 k 0 0) fun o11 =>
 some o11
noncomputable def near_lowest.sp (k:Nat):Go.Sx.Spec:=⟨(.pair T36 .unit),(.one (.dp T2)),fun x=>near_lowest k x.1,false⟩
noncomputable def near_lowest.cx (k:Nat):Go.Sx.Ctx:=⟨tys,[],eqs,44,0,[],false⟩
theorem near_lowest.cok (k:Nat):CtxOk PR (near_lowest.cx k):=ctx_ok tysOk eqsOk FnsOk.nil HsOk.nil
noncomputable def near_lowest.c2p (a0:(List V26)) (v1 v2:Int):SL:=⟨[(0,(.val T36 a0)),(3,(.val T2 v1)),(4,(.val T2 v2)),(5,(.val .ptr ⟨0,0,(0:Int),0,0⟩)),(6,(.val T36 a0)),(7,(.val T2 (len a0))),(8,(.val T2 v2))],[(0,.cells T26 (el Z26 a0 v2))]⟩
noncomputable def near_lowest.c2q (a0:(List V26)) (v1 v2:Int) (o:Bool):SL:=(fun v=>⟨[(0,(.val T36 a0)),(3,(.val T2 v1)),(4,(.val T2 v2)),(6,(.val T36 a0)),(7,(.val T2 (len a0))),(8,(.val T2 v2)),(40,(.val T4 v))],[]⟩) o
noncomputable def near_lowest.c2x (o:Bool):Ex:=(fun _=>.normal) o
noncomputable def near_lowest.c2n (o:Bool):Nat:=(fun _=>0) o
theorem near_lowest.c2_ok (k:Nat) (a0:(List V26)) (v1 v2:Int):Owp (near_lowest.c2 k a0 v1 v2) fun o=>Triple PR (near_lowest.cx k) (sub near_lowest.code [1,1,0,1,0,0,1,1,0,0,1,0]) 1 (near_lowest.c2p a0 v1 v2) (near_lowest.c2x o) (near_lowest.c2n o) (near_lowest.c2q a0 v1 v2 o):=by
 unfold near_lowest.c2; exact
  oR fun h5 =>
  oF (fun e6 =>
  oS (tW (near_lowest.cok k) hmix [tT,tT,tT,tT,tT,tT,tT,tT,tT,tT,tT,tT,tT,tT,tT,tT,tT,tT,tT,tT] [] [] (via (finP (aI (aI (aI (aI (aI (aI (aI (aI (aI (aI (aI (aI tv0 h5) e6) e6) e6) e6) e6) e6) e6) e6) e6) e6) e6) .normal [] (near_lowest.c2q a0 v1 v2 true)) (by kernel_rfl)))) (fun e6 =>
  oF (fun e7 =>
  oS (tW (near_lowest.cok k) hmix [fF,fF,fF,fF,fF,fF,fF,fF,fF,tT,tT,tT,tT,tT,tT,tT,tT,fF,tT,fF] [] [] (via (finP (aI (aI (aI (aI (aI (aI (aI (aI (aI (aI (aI (aI (aI (aI (aI (aI (aI (aI (aI (aI tv0 h5) e6) e6) e6) e6) (aI e6 h5)) e6) e6) e6) e6) e7) e7) e7) e7) (aI e7 h5)) e7) e7) e7) (aI e6 e7)) e6) .normal [] (near_lowest.c2q a0 v1 v2 (ilt (el Z26 a0 v2).1 (el Z26 a0 v1).1))) (by kernel_rfl)))) (fun e7 =>
  oS (tW (near_lowest.cok k) hmix [fF,fF,fF,fF,fF,fF,fF,fF,fF,fF,fF,fF,fF,fF,fF,fF,fF,fF,fF,fF] [] [] (via (finP (aI (aI (aI (aI (aI (aI (aI (aI (aI (aI (aI (aI (aI (aI (aI (aI (aI (aI (aI (aI tv0 h5) e6) e6) e6) e6) (aI e6 h5)) e6) e6) e6) e6) e7) e7) e7) e7) e7) e7) e7) e7) (aI e6 e7)) e6) .normal [] (near_lowest.c2q a0 v1 v2 false)) (by kernel_rfl)))))
noncomputable def near_lowest.c1p (a0:(List V26)) (v1 v2:Int):SL:=⟨[(0,(.val T36 a0)),(3,(.val T2 v1)),(6,(.val T36 a0)),(7,(.val T2 (len a0))),(8,(.val T2 v2))],[]⟩
noncomputable def near_lowest.c1q (o:Int):SL:=(fun v=>⟨[(3,(.val T2 v))],[]⟩) o
noncomputable def near_lowest.c1x (o:Int):Ex:=(fun _=>(.exit 0)) o
noncomputable def near_lowest.c1n (o:Int):Nat:=(fun _=>0) o
theorem near_lowest.c1_ok (k:Nat) (a0:(List V26)):∀ (n:Nat) (v1 v2:Int),Owp (near_lowest.c1 k a0 n v1 v2) fun o=>LTriple PR (near_lowest.cx k) (sub near_lowest.code [1,1,0,1,0,0]) 0 (near_lowest.c1p a0 v1 v2) (near_lowest.c1x o) (near_lowest.c1n o) (near_lowest.c1q o)
 | 0,_,_=>fun _ h=>nomatch h
 | n+1,v1,v2=>Owp.of (near_lowest.c1.eq_2 ..) (
  oF (fun e3 =>
  oR fun h4 =>
  oB fun o8 e9 =>
  oF (fun e10 =>
  fun y hy=>loop_back (near_lowest.cok k) hmix 0 (near_lowest.c1p a0 v2 (iadd .i64 v2 (1:Int))) [tT,.cutR 5 ⟨[],[(0,4)],(near_lowest.c2p a0 v1 v2),1,.normal,(near_lowest.c2q a0 v1 v2 o8),0⟩,tT] [] [] (via (cutP (aI (aI tv0 e3) h4) [(0,4)] (near_lowest.c2p a0 v1 v2) (((near_lowest.c2_ok k a0 v1 v2).ap e9)) (finP (aI tv0 e10) .normal [] (near_lowest.c1p a0 v2 (iadd .i64 v2 (1:Int))))) (by kernel_rfl)) ((near_lowest.c1_ok k a0 n v2 (iadd .i64 v2 (1:Int))).ap hy)) (fun e10 =>
  fun y hy=>loop_back (near_lowest.cok k) hmix 0 (near_lowest.c1p a0 v1 (iadd .i64 v2 (1:Int))) [tT,.cutR 5 ⟨[],[(0,4)],(near_lowest.c2p a0 v1 v2),1,.normal,(near_lowest.c2q a0 v1 v2 o8),0⟩,fF] [] [] (via (cutP (aI (aI tv0 e3) h4) [(0,4)] (near_lowest.c2p a0 v1 v2) (((near_lowest.c2_ok k a0 v1 v2).ap e9)) (finP (aI tv0 e10) .normal [] (near_lowest.c1p a0 v1 (iadd .i64 v2 (1:Int))))) (by kernel_rfl)) ((near_lowest.c1_ok k a0 n v1 (iadd .i64 v2 (1:Int))).ap hy))) (fun e3 =>
  oS (loop_exit (near_lowest.cok k) hmix [fF] [] [] (exne 0) (via (finP (aI tv0 e3) (.exit 0) [] (near_lowest.c1q v1)) (by kernel_rfl)))))
theorem near_lowest.way (k:Nat) (a0:(List V26)):Owp (near_lowest k a0) fun y=>∃ w c0,exec PR (near_lowest.cx k) near_lowest.code 0 (entry (.pair T36 .unit) (a0,())).st w (Ret (near_lowest.cx k) Tryz.f33 c0 (.one (.dp T2)) y):=by
 unfold near_lowest; exact
  oB fun o11 e12 =>
  oS (⟨[.cut ⟨[],[],(near_lowest.c1p a0 (0:Int) (0:Int)),0,(.exit 0),(near_lowest.c1q o11),0⟩],[],via (cutP tv0 [] (near_lowest.c1p a0 (0:Int) (0:Int)) (((near_lowest.c1_ok k a0 k (0:Int) (0:Int)).ap e12).triple) (retP tv0 (.one (.dp T2)) (o11:Int))) (by kernel_rfl)⟩)
theorem near_lowest.ok (k:Nat):FnOk PR 33 (near_lowest.sp k) :=
 fn_ok (near_lowest.cok k) hmix Tryz.func33 (code:=near_lowest.code) (by kernel_rfl) (by kernel_rfl) (by kernel_rfl) rfl rfl (by kernel_rfl) (by kernel_rfl) (by kernel_rfl) (fun x=>Nat.le_of_ble_eq_true (by kernel_rfl)) fun x y hy=>(near_lowest.way k x.1).ap hy
noncomputable def near_edge.code:Code:=Func.cd Tryz.f34
def near_edge (k:Nat) (a0:(List V26)) (a1 a2:Int):Option V26 :=
 req (nz (len a0)) <|req (inL (irem (iadd .i64 a1 a2) (len a0)) a0) <|req (inL (irem (iadd .i64 (iadd .i64 a1 a2) 1) (len a0)) a0) <|some ((isub .i64 (el Z26 a0 (irem (iadd .i64 (iadd .i64 a1 a2) 1) (len a0))).1 (el Z26 a0 (irem (iadd .i64 a1 a2) (len a0))).1),(isub .i64 (el Z26 a0 (irem (iadd .i64 (iadd .i64 a1 a2) 1) (len a0))).2.1 (el Z26 a0 (irem (iadd .i64 a1 a2) (len a0))).2.1),())
noncomputable def near_edge.sp (k:Nat):Go.Sx.Spec:=⟨(.pair T36 T26),(.one (.dp T26)),fun x=>near_edge k x.1 x.2.1 x.2.2.1,false⟩
noncomputable def near_edge.cx (k:Nat):Go.Sx.Ctx:=⟨tys,[],eqs,39,0,[],false⟩
theorem near_edge.cok (k:Nat):CtxOk PR (near_edge.cx k):=ctx_ok tysOk eqsOk FnsOk.nil HsOk.nil
theorem near_edge.way (k:Nat) (a0:(List V26)) (a1 a2:Int):Owp (near_edge k a0 a1 a2) fun y=>∃ w c0,exec PR (near_edge.cx k) near_edge.code 0 (entry (.pair T36 T26) (a0,a1,a2,())).st w (Ret (near_edge.cx k) Tryz.f34 c0 (.one (.dp T26)) y):=by
 unfold near_edge; exact
  oR fun h1 =>
  oR fun h2 =>
  oR fun h3 =>
  oS (⟨[],[],via (retP (aI (aI (aI (aI tv0 h1) h2) h1) h3) (.one (.dp T26)) (((isub .i64 (el Z26 a0 (irem (iadd .i64 (iadd .i64 a1 a2) (1:Int)) (len a0))).1 (el Z26 a0 (irem (iadd .i64 a1 a2) (len a0))).1),(isub .i64 (el Z26 a0 (irem (iadd .i64 (iadd .i64 a1 a2) (1:Int)) (len a0))).2.1 (el Z26 a0 (irem (iadd .i64 a1 a2) (len a0))).2.1),()):V26)) (by kernel_rfl)⟩)
theorem near_edge.ok (k:Nat):FnOk PR 34 (near_edge.sp k) :=
 fn_ok (near_edge.cok k) hmix Tryz.func34 (code:=near_edge.code) (by kernel_rfl) (by kernel_rfl) (by kernel_rfl) rfl rfl (by kernel_rfl) (by kernel_rfl) (by kernel_rfl) (fun x=>Nat.le_of_ble_eq_true (by kernel_rfl)) fun x y hy=>(near_edge.way k x.1 x.2.1 x.2.2.1).ap hy
noncomputable def near_cross.code:Code:=Func.cd Tryz.f35
def near_cross (k:Nat) (a0 a1:V26):Option Int :=
 some (isub .i64 (imul .i64 a0.1 a1.2.1) (imul .i64 a0.2.1 a1.1))
noncomputable def near_cross.sp (k:Nat):Go.Sx.Spec:=⟨T133,(.one (.dp T2)),fun x=>near_cross k x.1 x.2.1,false⟩
noncomputable def near_cross.cx (k:Nat):Go.Sx.Ctx:=⟨tys,[],eqs,16,0,[],false⟩
theorem near_cross.cok (k:Nat):CtxOk PR (near_cross.cx k):=ctx_ok tysOk eqsOk FnsOk.nil HsOk.nil
theorem near_cross.way (k:Nat) (a0 a1:V26):Owp (near_cross k a0 a1) fun y=>∃ w c0,exec PR (near_cross.cx k) near_cross.code 0 (entry T133 (a0,a1,())).st w (Ret (near_cross.cx k) Tryz.f35 c0 (.one (.dp T2)) y):=by
 unfold near_cross; exact
  oS (⟨[],[],via (retP tv0 (.one (.dp T2)) ((isub .i64 (imul .i64 a0.1 a1.2.1) (imul .i64 a0.2.1 a1.1)):Int)) (by kernel_rfl)⟩)
theorem near_cross.ok (k:Nat):FnOk PR 35 (near_cross.sp k) :=
 fn_ok (near_cross.cok k) hmix Tryz.func35 (code:=near_cross.code) (by kernel_rfl) (by kernel_rfl) (by kernel_rfl) rfl rfl (by kernel_rfl) (by kernel_rfl) (by kernel_rfl) (fun x=>Nat.le_of_ble_eq_true (by kernel_rfl)) fun x y hy=>(near_cross.way k x.1 x.2.1).ap hy
noncomputable def near_Minus.code:Code:=Func.cd Tryz.f20
def near_Minus.c1 (k:Nat) (a1:(List V26)):Nat→Int→(List V26)→Option ((List V26))
 | 0,_,_=>none
 | n+1,v7,v8 =>
  bif' (ilt v7 (len a1))
  (req (inL v7 a1) <|req (room 16 v8 [((ineg .i64 (el Z26 a1 v7).1),(ineg .i64 (el Z26 a1 v7).2.1),())]) <|near_Minus.c1 k a1 n (iadd .i64 v7 1) (v8++[((ineg .i64 (el Z26 a1 v7).1),(ineg .i64 (el Z26 a1 v7).2.1),())]))
  (some v8)
def near_Minus.c3 (k:Nat) (a0 o12:(List V26)) (v20 v21:Int):Option (Bool) :=
 bif' (ilt v20 (len a0))
 (some true)
 (some (ilt v21 (len o12)))
def near_Minus.c4 (k:Nat) (a0 o12:(List V26)) (v20 v21 y34:Int):Option (Bool) :=
 bif' (ieq v21 (len o12))
 (some true)
 (bif' (ilt v20 (len a0))
  (some (ige y34 0))
  (some false))
def near_Minus.c5 (k:Nat) (a0 o12:(List V26)) (v20 v21 y34:Int):Option (Bool) :=
 bif' (ieq v20 (len a0))
 (some true)
 (bif' (ilt v21 (len o12))
  (some (ile y34 0))
  (some false))
def near_Minus.c6 (k:Nat) (o38:Bool) (v20 v22 v23:Int) (y30:V26):Option ((Int × (Int × Int))) :=
 bif' o38
 (some ((iadd .i64 v20 1),(iadd .i64 v22 y30.1),(iadd .i64 v23 y30.2.1)))
 (some (v20,v22,v23))
def near_Minus.c2 (k:Nat) (a0 o12:(List V26)) (y14 y16:Int):Nat→Int→Int→Int→Int→(List V26)→Option ((List V26))
 | 0,_,_,_,_,_=>none
 | n+1,v20,v21,v22,v23,v24 =>
  bnd (near_Minus.c3 k a0 o12 v20 v21) fun o26 =>
  bif' o26
  (req (room 16 v24 [(v22,v23,())]) <|bnd (near_edge k a0 y14 v20) fun y30 =>
  bnd (near_edge k o12 y16 v21) fun y32 =>
  bnd (near_cross k y30 y32) fun y34 =>
  bnd (near_Minus.c4 k a0 o12 v20 v21 y34) fun o38 =>
  bnd (near_Minus.c5 k a0 o12 v20 v21 y34) fun o42 =>
  bnd (near_Minus.c6 k o38 v20 v22 v23 y30) fun o45 =>
  bif' o42
  (near_Minus.c2 k a0 o12 y14 y16 n o45.1 (iadd .i64 v21 1) (iadd .i64 o45.2.1 y32.1) (iadd .i64 o45.2.2 y32.2.1) (v24++[(v22,v23,())]))
  (near_Minus.c2 k a0 o12 y14 y16 n o45.1 v21 o45.2.1 o45.2.2 (v24++[(v22,v23,())])))
  (some v24)
def near_Minus (k:Nat) (a0 a1:(List V26)):Option ((List V26) × Int) :=
 bnd (poly_Check k a0) fun y1 =>
 bif' (ine y1 0)
 (some ([],y1))
 (bnd (poly_Check k a1) fun y4 =>
  bif' (ine y4 0)
  (some ([],y4))
  (bnd (near_Minus.c1 k a1 k 0 []) fun o12 =>
  bnd (near_lowest k a0) fun y14 =>
  bnd (near_lowest k o12) fun y16 =>
  req (inL y14 a0) <|req (inL y16 o12) <|bnd (near_Minus.c2 k a0 o12 y14 y16 k 0 0 (iadd .i64 (el Z26 a0 y14).1 (el Z26 o12 y16).1) (iadd .i64 (el Z26 a0 y14).2.1 (el Z26 o12 y16).2.1) []) fun o48 =>
  some (o48,0)))
noncomputable def near_Minus.sp (k:Nat):Go.Sx.Spec:=⟨(.pair T36 (.pair T36 .unit)),(.more (.ow T26 27) (.one (.dp T2))),fun x=>near_Minus k x.1 x.2.1,false⟩
noncomputable def near_Minus.cx (k:Nat):Go.Sx.Ctx:=⟨tys,[(18,poly_Check.sp k),(33,near_lowest.sp k),(34,near_edge.sp k),(35,near_cross.sp k)],eqs,160,0,[],false⟩
theorem near_Minus.cok (k:Nat):CtxOk PR (near_Minus.cx k):=ctx_ok tysOk eqsOk (fC (poly_Check.ok k) (fC (near_lowest.ok k) (fC (near_edge.ok k) (fC (near_cross.ok k) FnsOk.nil)))) HsOk.nil
noncomputable def near_Minus.c1p (a0 a1:(List V26)) (v7:Int) (v8:(List V26)):SL:=⟨[(0,(.val T36 a0)),(8,(.val .own (0:Nat))),(32,(.val T36 a1)),(33,(.val T2 (len a1))),(34,(.val T2 v7))],[(0,.row T26 v8 27)]⟩
noncomputable def near_Minus.c1q (a0 o:(List V26)):SL:=(fun v=>⟨[(0,(.val T36 a0)),(8,(.val .own (0:Nat)))],[(0,.row T26 v 27)]⟩) o
noncomputable def near_Minus.c1x (o:(List V26)):Ex:=(fun _=>(.exit 0)) o
noncomputable def near_Minus.c1n (o:(List V26)):Nat:=(fun _=>1) o
theorem near_Minus.c1_ok (k:Nat) (a0 a1:(List V26)):∀ (n:Nat) (v7:Int) (v8:(List V26)),Owp (near_Minus.c1 k a1 n v7 v8) fun o=>LTriple PR (near_Minus.cx k) (sub near_Minus.code [1,1,1,1,0,1,0,0]) 1 (near_Minus.c1p a0 a1 v7 v8) (near_Minus.c1x o) (near_Minus.c1n o) (near_Minus.c1q a0 o)
 | 0,_,_=>fun _ h=>nomatch h
 | n+1,v7,v8=>Owp.of (near_Minus.c1.eq_2 ..) (
  oF (fun e9 =>
  oR fun h10 =>
  oR fun h11 =>
  fun y hy=>loop_back (near_Minus.cok k) hmix 1 (near_Minus.c1p a0 a1 (iadd .i64 v7 (1:Int)) (v8++[((ineg .i64 (el Z26 a1 v7).1),(ineg .i64 (el Z26 a1 v7).2.1),())])) [tT,tT] [] [(0,15)] (via (finP (aI (aI (aI tv0 e9) h10) h11) .normal [(0,15)] (near_Minus.c1p a0 a1 (iadd .i64 v7 (1:Int)) (v8++[((ineg .i64 (el Z26 a1 v7).1),(ineg .i64 (el Z26 a1 v7).2.1),())]))) (by kernel_rfl)) ((near_Minus.c1_ok k a0 a1 n (iadd .i64 v7 (1:Int)) (v8++[((ineg .i64 (el Z26 a1 v7).1),(ineg .i64 (el Z26 a1 v7).2.1),())])).ap hy)) (fun e9 =>
  oS (loop_exit (near_Minus.cok k) hmix [fF] [] [(0,0)] (exne 0) (via (finP (aI tv0 e9) (.exit 0) [(0,0)] (near_Minus.c1q a0 v8)) (by kernel_rfl)))))
noncomputable def near_Minus.c3p (a0 o12:(List V26)) (v20 v21 v22 v23:Int) (v24:(List V26)) (y14 y16:Int):SL:=⟨[(0,(.val T36 a0)),(8,(.val .own (0:Nat))),(11,(.val T2 y14)),(12,(.val T2 y16)),(13,(.val .ptr ⟨1,0,(0:Int),0,0⟩)),(14,(.val .own (2:Nat))),(15,(.val T2 v20)),(16,(.val T2 v21))],[(0,.row T26 o12 27),(1,.cells T26 (v22,v23,())),(2,.row T26 v24 27)]⟩
noncomputable def near_Minus.c3q (a0 o12:(List V26)) (v20 v21 v22 v23:Int) (v24:(List V26)) (y14 y16:Int) (o:Bool):SL:=(fun v=>⟨[(0,(.val T36 a0)),(8,(.val .own (0:Nat))),(11,(.val T2 y14)),(12,(.val T2 y16)),(13,(.val .ptr ⟨1,0,(0:Int),0,0⟩)),(14,(.val .own (2:Nat))),(15,(.val T2 v20)),(16,(.val T2 v21)),(85,(.val T4 v))],[(0,.row T26 o12 27),(1,.cells T26 (v22,v23,())),(2,.row T26 v24 27)]⟩) o
noncomputable def near_Minus.c3x (o:Bool):Ex:=(fun _=>.normal) o
noncomputable def near_Minus.c3n (o:Bool):Nat:=(fun _=>3) o
theorem near_Minus.c3_ok (k:Nat) (a0 o12:(List V26)) (v20 v21 v22 v23:Int) (v24:(List V26)) (y14 y16:Int):Owp (near_Minus.c3 k a0 o12 v20 v21) fun o=>Triple PR (near_Minus.cx k) (sub near_Minus.code [1,1,1,1,1,1,1,1,0,1,0,0,0,0]) 3 (near_Minus.c3p a0 o12 v20 v21 v22 v23 v24 y14 y16) (near_Minus.c3x o) (near_Minus.c3n o) (near_Minus.c3q a0 o12 v20 v21 v22 v23 v24 y14 y16 o):=by
 unfold near_Minus.c3; exact
  oF (fun e25 =>
  oS (tW (near_Minus.cok k) hmix [tT,tT,tT,tT,tT] [] [(0,0),(1,1),(2,2)] (via (finP (aI (aI (aI (aI (aI tv0 e25) e25) e25) e25) e25) .normal [(0,0),(1,1),(2,2)] (near_Minus.c3q a0 o12 v20 v21 v22 v23 v24 y14 y16 true)) (by kernel_rfl)))) (fun e25 =>
  oS (tW (near_Minus.cok k) hmix [fF,fF,fF,fF,fF] [] [(0,0),(1,1),(2,2)] (via (finP (aI (aI (aI (aI (aI tv0 e25) e25) e25) e25) e25) .normal [(0,0),(1,1),(2,2)] (near_Minus.c3q a0 o12 v20 v21 v22 v23 v24 y14 y16 (ilt v21 (len o12)))) (by kernel_rfl))))
noncomputable def near_Minus.c4p (a0 o12:(List V26)) (v20 v21 v22 v23:Int) (v24:(List V26)) (y14 y16:Int) (y30 y32:V26) (y34:Int):SL:=⟨[(0,(.val T36 a0)),(8,(.val .own (0:Nat))),(11,(.val T2 y14)),(12,(.val T2 y16)),(13,(.val .ptr ⟨1,0,(0:Int),0,0⟩)),(14,(.val .own (2:Nat))),(15,(.val T2 v20)),(16,(.val T2 v21)),(17,(.val .ptr ⟨3,0,(0:Int),0,0⟩)),(18,(.val .ptr ⟨4,0,(0:Int),0,0⟩)),(19,(.val T2 y34))],[(0,.row T26 o12 27),(1,.cells T26 (v22,v23,())),(2,.row T26 (v24++[(v22,v23,())]) 27),(3,.cells T26 y30),(4,.cells T26 y32)]⟩
noncomputable def near_Minus.c4q (a0 o12:(List V26)) (v20 v21 v22 v23:Int) (v24:(List V26)) (y14 y16:Int) (y30 y32:V26) (y34:Int) (o:Bool):SL:=(fun v=>⟨[(0,(.val T36 a0)),(8,(.val .own (0:Nat))),(11,(.val T2 y14)),(12,(.val T2 y16)),(13,(.val .ptr ⟨1,0,(0:Int),0,0⟩)),(14,(.val .own (2:Nat))),(15,(.val T2 v20)),(16,(.val T2 v21)),(17,(.val .ptr ⟨3,0,(0:Int),0,0⟩)),(18,(.val .ptr ⟨4,0,(0:Int),0,0⟩)),(19,(.val T2 y34)),(20,(.val T4 v))],[(0,.row T26 o12 27),(1,.cells T26 (v22,v23,())),(2,.row T26 (v24++[(v22,v23,())]) 27),(3,.cells T26 y30),(4,.cells T26 y32)]⟩) o
noncomputable def near_Minus.c4x (o:Bool):Ex:=(fun _=>.normal) o
noncomputable def near_Minus.c4n (o:Bool):Nat:=(fun _=>5) o
theorem near_Minus.c4_ok (k:Nat) (a0 o12:(List V26)) (v20 v21 v22 v23:Int) (v24:(List V26)) (y14 y16:Int) (y30 y32:V26) (y34:Int):Owp (near_Minus.c4 k a0 o12 v20 v21 y34) fun o=>Triple PR (near_Minus.cx k) (sub near_Minus.code [1,1,1,1,1,1,1,1,0,1,0,0,1,0,1,1,1,0]) 5 (near_Minus.c4p a0 o12 v20 v21 v22 v23 v24 y14 y16 y30 y32 y34) (near_Minus.c4x o) (near_Minus.c4n o) (near_Minus.c4q a0 o12 v20 v21 v22 v23 v24 y14 y16 y30 y32 y34 o):=by
 unfold near_Minus.c4; exact
  oF (fun e36 =>
  oS (tW (near_Minus.cok k) hmix [tT,tT,tT,tT,tT,tT,tT,tT,tT,tT] [] [(0,0),(1,1),(2,2),(3,3),(4,4)] (via (finP (aI (aI (aI (aI (aI (aI (aI tv0 e36) e36) e36) e36) e36) e36) e36) .normal [(0,0),(1,1),(2,2),(3,3),(4,4)] (near_Minus.c4q a0 o12 v20 v21 v22 v23 v24 y14 y16 y30 y32 y34 true)) (by kernel_rfl)))) (fun e36 =>
  oF (fun e37 =>
  oS (tW (near_Minus.cok k) hmix [fF,fF,fF,fF,fF,tT,tT,fF,tT,fF] [] [(0,0),(1,1),(2,2),(3,3),(4,4)] (via (finP (aI (aI (aI (aI (aI (aI (aI (aI (aI tv0 e36) e36) e36) e36) e36) e37) e37) (aI e36 e37)) e36) .normal [(0,0),(1,1),(2,2),(3,3),(4,4)] (near_Minus.c4q a0 o12 v20 v21 v22 v23 v24 y14 y16 y30 y32 y34 (ige y34 (0:Int)))) (by kernel_rfl)))) (fun e37 =>
  oS (tW (near_Minus.cok k) hmix [fF,fF,fF,fF,fF,fF,fF,fF,fF,fF] [] [(0,0),(1,1),(2,2),(3,3),(4,4)] (via (finP (aI (aI (aI (aI (aI (aI (aI (aI (aI tv0 e36) e36) e36) e36) e36) e37) e37) (aI e36 e37)) e36) .normal [(0,0),(1,1),(2,2),(3,3),(4,4)] (near_Minus.c4q a0 o12 v20 v21 v22 v23 v24 y14 y16 y30 y32 y34 false)) (by kernel_rfl)))))
noncomputable def near_Minus.c5p (a0 o12:(List V26)) (o38:Bool) (v20 v21 v22 v23:Int) (v24:(List V26)) (y14 y16:Int) (y30 y32:V26) (y34:Int):SL:=⟨[(0,(.val T36 a0)),(8,(.val .own (0:Nat))),(11,(.val T2 y14)),(12,(.val T2 y16)),(13,(.val .ptr ⟨1,0,(0:Int),0,0⟩)),(14,(.val .own (2:Nat))),(15,(.val T2 v20)),(16,(.val T2 v21)),(17,(.val .ptr ⟨3,0,(0:Int),0,0⟩)),(18,(.val .ptr ⟨4,0,(0:Int),0,0⟩)),(19,(.val T2 y34)),(20,(.val T4 o38))],[(0,.row T26 o12 27),(1,.cells T26 (v22,v23,())),(2,.row T26 (v24++[(v22,v23,())]) 27),(3,.cells T26 y30),(4,.cells T26 y32)]⟩
noncomputable def near_Minus.c5q (a0 o12:(List V26)) (o38:Bool) (v20 v21 v22 v23:Int) (v24:(List V26)) (y14 y16:Int) (y30 y32:V26) (o:Bool):SL:=(fun v=>⟨[(0,(.val T36 a0)),(8,(.val .own (0:Nat))),(11,(.val T2 y14)),(12,(.val T2 y16)),(13,(.val .ptr ⟨1,0,(0:Int),0,0⟩)),(14,(.val .own (2:Nat))),(15,(.val T2 v20)),(16,(.val T2 v21)),(17,(.val .ptr ⟨3,0,(0:Int),0,0⟩)),(18,(.val .ptr ⟨4,0,(0:Int),0,0⟩)),(20,(.val T4 o38)),(21,(.val T4 v))],[(0,.row T26 o12 27),(1,.cells T26 (v22,v23,())),(2,.row T26 (v24++[(v22,v23,())]) 27),(3,.cells T26 y30),(4,.cells T26 y32)]⟩) o
noncomputable def near_Minus.c5x (o:Bool):Ex:=(fun _=>.normal) o
noncomputable def near_Minus.c5n (o:Bool):Nat:=(fun _=>5) o
theorem near_Minus.c5_ok (k:Nat) (a0 o12:(List V26)) (o38:Bool) (v20 v21 v22 v23:Int) (v24:(List V26)) (y14 y16:Int) (y30 y32:V26) (y34:Int):Owp (near_Minus.c5 k a0 o12 v20 v21 y34) fun o=>Triple PR (near_Minus.cx k) (sub near_Minus.code [1,1,1,1,1,1,1,1,0,1,0,0,1,0,1,1,1,1,0]) 5 (near_Minus.c5p a0 o12 o38 v20 v21 v22 v23 v24 y14 y16 y30 y32 y34) (near_Minus.c5x o) (near_Minus.c5n o) (near_Minus.c5q a0 o12 o38 v20 v21 v22 v23 v24 y14 y16 y30 y32 o):=by
 unfold near_Minus.c5; exact
  oF (fun e40 =>
  oS (tW (near_Minus.cok k) hmix [tT,tT,tT,tT,tT,tT,tT,tT,tT,tT] [] [(0,0),(1,1),(2,2),(3,3),(4,4)] (via (finP (aI (aI (aI (aI (aI (aI (aI tv0 e40) e40) e40) e40) e40) e40) e40) .normal [(0,0),(1,1),(2,2),(3,3),(4,4)] (near_Minus.c5q a0 o12 o38 v20 v21 v22 v23 v24 y14 y16 y30 y32 true)) (by kernel_rfl)))) (fun e40 =>
  oF (fun e41 =>
  oS (tW (near_Minus.cok k) hmix [fF,fF,fF,fF,fF,tT,tT,fF,tT,fF] [] [(0,0),(1,1),(2,2),(3,3),(4,4)] (via (finP (aI (aI (aI (aI (aI (aI (aI (aI (aI tv0 e40) e40) e40) e40) e40) e41) e41) (aI e40 e41)) e40) .normal [(0,0),(1,1),(2,2),(3,3),(4,4)] (near_Minus.c5q a0 o12 o38 v20 v21 v22 v23 v24 y14 y16 y30 y32 (ile y34 (0:Int)))) (by kernel_rfl)))) (fun e41 =>
  oS (tW (near_Minus.cok k) hmix [fF,fF,fF,fF,fF,fF,fF,fF,fF,fF] [] [(0,0),(1,1),(2,2),(3,3),(4,4)] (via (finP (aI (aI (aI (aI (aI (aI (aI (aI (aI tv0 e40) e40) e40) e40) e40) e41) e41) (aI e40 e41)) e40) .normal [(0,0),(1,1),(2,2),(3,3),(4,4)] (near_Minus.c5q a0 o12 o38 v20 v21 v22 v23 v24 y14 y16 y30 y32 false)) (by kernel_rfl)))))
noncomputable def near_Minus.c6p (a0 o12:(List V26)) (o38 o42:Bool) (v20 v21 v22 v23:Int) (v24:(List V26)) (y14 y16:Int) (y30 y32:V26):SL:=⟨[(0,(.val T36 a0)),(8,(.val .own (0:Nat))),(11,(.val T2 y14)),(12,(.val T2 y16)),(13,(.val .ptr ⟨1,0,(0:Int),0,0⟩)),(14,(.val .own (2:Nat))),(15,(.val T2 v20)),(16,(.val T2 v21)),(17,(.val .ptr ⟨3,0,(0:Int),0,0⟩)),(18,(.val .ptr ⟨4,0,(0:Int),0,0⟩)),(21,(.val T4 o42)),(129,(.val T4 o38))],[(0,.row T26 o12 27),(1,.cells T26 (v22,v23,())),(2,.row T26 (v24++[(v22,v23,())]) 27),(3,.cells T26 y30),(4,.cells T26 y32)]⟩
noncomputable def near_Minus.c6q (a0 o12:(List V26)) (o42:Bool) (v21 v22 v23:Int) (v24:(List V26)) (y14 y16:Int) (y32:V26) (o:(Int × (Int × Int))):SL:=(fun v=>⟨[(0,(.val T36 a0)),(8,(.val .own (0:Nat))),(11,(.val T2 y14)),(12,(.val T2 y16)),(13,(.val .ptr ⟨1,0,(0:Int),0,0⟩)),(14,(.val .own (2:Nat))),(15,(.val T2 v.1)),(16,(.val T2 v21)),(18,(.val .ptr ⟨3,0,(0:Int),0,0⟩)),(21,(.val T4 o42))],[(0,.row T26 o12 27),(1,.cells T26 (v.2.1,v.2.2,())),(2,.row T26 (v24++[(v22,v23,())]) 27),(3,.cells T26 y32)]⟩) o
noncomputable def near_Minus.c6x (o:(Int × (Int × Int))):Ex:=(fun _=>.normal) o
noncomputable def near_Minus.c6n (o:(Int × (Int × Int))):Nat:=(fun _=>4) o
theorem near_Minus.c6_ok (k:Nat) (a0 o12:(List V26)) (o38 o42:Bool) (v20 v21 v22 v23:Int) (v24:(List V26)) (y14 y16:Int) (y30 y32:V26):Owp (near_Minus.c6 k o38 v20 v22 v23 y30) fun o=>Triple PR (near_Minus.cx k) (sub near_Minus.code [1,1,1,1,1,1,1,1,0,1,0,0,1,0,1,1,1,1,1,0,1]) 5 (near_Minus.c6p a0 o12 o38 o42 v20 v21 v22 v23 v24 y14 y16 y30 y32) (near_Minus.c6x o) (near_Minus.c6n o) (near_Minus.c6q a0 o12 o42 v21 v22 v23 v24 y14 y16 y32 o):=by
 unfold near_Minus.c6; exact
  oF (fun e44 =>
  oS (tW (near_Minus.cok k) hmix [tT] [] [(0,0),(1,1),(2,2),(3,4)] (via (finP (aI tv0 e44) .normal [(0,0),(1,1),(2,2),(3,4)] (near_Minus.c6q a0 o12 o42 v21 v22 v23 v24 y14 y16 y32 ((iadd .i64 v20 (1:Int)),(iadd .i64 v22 y30.1),(iadd .i64 v23 y30.2.1)))) (by kernel_rfl)))) (fun e44 =>
  oS (tW (near_Minus.cok k) hmix [fF] [] [(0,0),(1,1),(2,2),(3,4)] (via (finP (aI tv0 e44) .normal [(0,0),(1,1),(2,2),(3,4)] (near_Minus.c6q a0 o12 o42 v21 v22 v23 v24 y14 y16 y32 (v20,v22,v23))) (by kernel_rfl))))
noncomputable def near_Minus.c2p (a0 o12:(List V26)) (y14 y16 v20 v21 v22 v23:Int) (v24:(List V26)):SL:=⟨[(0,(.val T36 a0)),(8,(.val .own (0:Nat))),(11,(.val T2 y14)),(12,(.val T2 y16)),(13,(.val .ptr ⟨1,0,(0:Int),0,0⟩)),(14,(.val .own (2:Nat))),(15,(.val T2 v20)),(16,(.val T2 v21))],[(0,.row T26 o12 27),(1,.cells T26 (v22,v23,())),(2,.row T26 v24 27)]⟩
noncomputable def near_Minus.c2q (o:(List V26)):SL:=(fun v=>⟨[(14,(.val .own (0:Nat)))],[(0,.row T26 v 27)]⟩) o
noncomputable def near_Minus.c2x (o:(List V26)):Ex:=(fun _=>(.exit 2)) o
noncomputable def near_Minus.c2n (o:(List V26)):Nat:=(fun _=>1) o
theorem near_Minus.c2_ok (k:Nat) (a0 o12:(List V26)) (y14 y16:Int):∀ (n:Nat) (v20 v21 v22 v23:Int) (v24:(List V26)),Owp (near_Minus.c2 k a0 o12 y14 y16 n v20 v21 v22 v23 v24) fun o=>LTriple PR (near_Minus.cx k) (sub near_Minus.code [1,1,1,1,1,1,1,1,0,1,0,0]) 3 (near_Minus.c2p a0 o12 y14 y16 v20 v21 v22 v23 v24) (near_Minus.c2x o) (near_Minus.c2n o) (near_Minus.c2q o)
 | 0,_,_,_,_,_=>fun _ h=>nomatch h
 | n+1,v20,v21,v22,v23,v24=>Owp.of (near_Minus.c2.eq_2 ..) (
  oB fun o26 e27 =>
  oF (fun e28 =>
  oR fun h29 =>
  oB fun y30 e31 =>
  oB fun y32 e33 =>
  oB fun y34 e35 =>
  oB fun o38 e39 =>
  oB fun o42 e43 =>
  oB fun o45 e46 =>
  oF (fun e47 =>
  fun y hy=>loop_back (near_Minus.cok k) hmix 3 (near_Minus.c2p a0 o12 y14 y16 o45.1 (iadd .i64 v21 (1:Int)) (iadd .i64 o45.2.1 y32.1) (iadd .i64 o45.2.2 y32.2.1) (v24++[(v22,v23,())])) [.cutR 17 ⟨[],[(0,0),(1,1),(2,2)],(near_Minus.c3p a0 o12 v20 v21 v22 v23 v24 y14 y16),3,.normal,(near_Minus.c3q a0 o12 v20 v21 v22 v23 v24 y14 y16 o26),3⟩,tT,tT,rS T26 y30,rS T26 y32,rS T2 y34,.cutR 21 ⟨[],[(0,0),(1,1),(2,6),(3,16),(4,17)],(near_Minus.c4p a0 o12 v20 v21 v22 v23 v24 y14 y16 y30 y32 y34),5,.normal,(near_Minus.c4q a0 o12 v20 v21 v22 v23 v24 y14 y16 y30 y32 y34 o38),5⟩,.cutR 22 ⟨[],[(0,0),(1,1),(2,2),(3,3),(4,4)],(near_Minus.c5p a0 o12 o38 v20 v21 v22 v23 v24 y14 y16 y30 y32 y34),5,.normal,(near_Minus.c5q a0 o12 o38 v20 v21 v22 v23 v24 y14 y16 y30 y32 o42),5⟩,.cut ⟨[],[(0,0),(1,1),(2,2),(3,3),(4,4)],(near_Minus.c6p a0 o12 o38 o42 v20 v21 v22 v23 v24 y14 y16 y30 y32),5,.normal,(near_Minus.c6q a0 o12 o42 v21 v22 v23 v24 y14 y16 y32 o45),4⟩,tT] [] [(0,0),(1,1),(2,2)] (via (cutP tv0 [(0,0),(1,1),(2,2)] (near_Minus.c3p a0 o12 v20 v21 v22 v23 v24 y14 y16) (((near_Minus.c3_ok k a0 o12 v20 v21 v22 v23 v24 y14 y16).ap e27)) (cutP (aI (aI (aI (aI (aI tv0 e28) h29) e31) e33) e35) [(0,0),(1,1),(2,6),(3,16),(4,17)] (near_Minus.c4p a0 o12 v20 v21 v22 v23 v24 y14 y16 y30 y32 y34) (((near_Minus.c4_ok k a0 o12 v20 v21 v22 v23 v24 y14 y16 y30 y32 y34).ap e39)) (cutP tv0 [(0,0),(1,1),(2,2),(3,3),(4,4)] (near_Minus.c5p a0 o12 o38 v20 v21 v22 v23 v24 y14 y16 y30 y32 y34) (((near_Minus.c5_ok k a0 o12 o38 v20 v21 v22 v23 v24 y14 y16 y30 y32 y34).ap e43)) (cutP tv0 [(0,0),(1,1),(2,2),(3,3),(4,4)] (near_Minus.c6p a0 o12 o38 o42 v20 v21 v22 v23 v24 y14 y16 y30 y32) (((near_Minus.c6_ok k a0 o12 o38 o42 v20 v21 v22 v23 v24 y14 y16 y30 y32).ap e46)) (finP (aI tv0 e47) .normal [(0,0),(1,1),(2,2)] (near_Minus.c2p a0 o12 y14 y16 o45.1 (iadd .i64 v21 (1:Int)) (iadd .i64 o45.2.1 y32.1) (iadd .i64 o45.2.2 y32.2.1) (v24++[(v22,v23,())]))))))) (by kernel_rfl)) ((near_Minus.c2_ok k a0 o12 y14 y16 n o45.1 (iadd .i64 v21 (1:Int)) (iadd .i64 o45.2.1 y32.1) (iadd .i64 o45.2.2 y32.2.1) (v24++[(v22,v23,())])).ap hy)) (fun e47 =>
  fun y hy=>loop_back (near_Minus.cok k) hmix 3 (near_Minus.c2p a0 o12 y14 y16 o45.1 v21 o45.2.1 o45.2.2 (v24++[(v22,v23,())])) [.cutR 17 ⟨[],[(0,0),(1,1),(2,2)],(near_Minus.c3p a0 o12 v20 v21 v22 v23 v24 y14 y16),3,.normal,(near_Minus.c3q a0 o12 v20 v21 v22 v23 v24 y14 y16 o26),3⟩,tT,tT,rS T26 y30,rS T26 y32,rS T2 y34,.cutR 21 ⟨[],[(0,0),(1,1),(2,6),(3,16),(4,17)],(near_Minus.c4p a0 o12 v20 v21 v22 v23 v24 y14 y16 y30 y32 y34),5,.normal,(near_Minus.c4q a0 o12 v20 v21 v22 v23 v24 y14 y16 y30 y32 y34 o38),5⟩,.cutR 22 ⟨[],[(0,0),(1,1),(2,2),(3,3),(4,4)],(near_Minus.c5p a0 o12 o38 v20 v21 v22 v23 v24 y14 y16 y30 y32 y34),5,.normal,(near_Minus.c5q a0 o12 o38 v20 v21 v22 v23 v24 y14 y16 y30 y32 o42),5⟩,.cut ⟨[],[(0,0),(1,1),(2,2),(3,3),(4,4)],(near_Minus.c6p a0 o12 o38 o42 v20 v21 v22 v23 v24 y14 y16 y30 y32),5,.normal,(near_Minus.c6q a0 o12 o42 v21 v22 v23 v24 y14 y16 y32 o45),4⟩,fF] [] [(0,0),(1,1),(2,2)] (via (cutP tv0 [(0,0),(1,1),(2,2)] (near_Minus.c3p a0 o12 v20 v21 v22 v23 v24 y14 y16) (((near_Minus.c3_ok k a0 o12 v20 v21 v22 v23 v24 y14 y16).ap e27)) (cutP (aI (aI (aI (aI (aI tv0 e28) h29) e31) e33) e35) [(0,0),(1,1),(2,6),(3,16),(4,17)] (near_Minus.c4p a0 o12 v20 v21 v22 v23 v24 y14 y16 y30 y32 y34) (((near_Minus.c4_ok k a0 o12 v20 v21 v22 v23 v24 y14 y16 y30 y32 y34).ap e39)) (cutP tv0 [(0,0),(1,1),(2,2),(3,3),(4,4)] (near_Minus.c5p a0 o12 o38 v20 v21 v22 v23 v24 y14 y16 y30 y32 y34) (((near_Minus.c5_ok k a0 o12 o38 v20 v21 v22 v23 v24 y14 y16 y30 y32 y34).ap e43)) (cutP tv0 [(0,0),(1,1),(2,2),(3,3),(4,4)] (near_Minus.c6p a0 o12 o38 o42 v20 v21 v22 v23 v24 y14 y16 y30 y32) (((near_Minus.c6_ok k a0 o12 o38 o42 v20 v21 v22 v23 v24 y14 y16 y30 y32).ap e46)) (finP (aI tv0 e47) .normal [(0,0),(1,1),(2,2)] (near_Minus.c2p a0 o12 y14 y16 o45.1 v21 o45.2.1 o45.2.2 (v24++[(v22,v23,())]))))))) (by kernel_rfl)) ((near_Minus.c2_ok k a0 o12 y14 y16 n o45.1 v21 o45.2.1 o45.2.2 (v24++[(v22,v23,())])).ap hy))) (fun e28 =>
  oS (loop_exit (near_Minus.cok k) hmix [.cutR 17 ⟨[],[(0,0),(1,1),(2,2)],(near_Minus.c3p a0 o12 v20 v21 v22 v23 v24 y14 y16),3,.normal,(near_Minus.c3q a0 o12 v20 v21 v22 v23 v24 y14 y16 o26),3⟩,fF] [] [(0,2)] (exne 2) (via (cutP tv0 [(0,0),(1,1),(2,2)] (near_Minus.c3p a0 o12 v20 v21 v22 v23 v24 y14 y16) (((near_Minus.c3_ok k a0 o12 v20 v21 v22 v23 v24 y14 y16).ap e27)) (finP (aI tv0 e28) (.exit 2) [(0,2)] (near_Minus.c2q v24))) (by kernel_rfl)))))
theorem near_Minus.way (k:Nat) (a0 a1:(List V26)):Owp (near_Minus k a0 a1) fun y=>∃ w c0,exec PR (near_Minus.cx k) near_Minus.code 0 (entry (.pair T36 (.pair T36 .unit)) (a0,a1,())).st w (Ret (near_Minus.cx k) Tryz.f20 c0 (.more (.ow T26 27) (.one (.dp T2))) y):=by
 unfold near_Minus; exact
  oB fun y1 e2 =>
  oF (fun e3 =>
  oS (⟨[rS T2 y1,tT],[.own 4 T26 27],via (retP (aI (aI tv0 e2) e3) (.more (.ow T26 27) (.one (.dp T2))) (([],y1):((List V26) × Int))) (by kernel_rfl)⟩)) (fun e3 =>
  oB fun y4 e5 =>
  oF (fun e6 =>
  oS (⟨[rS T2 y1,fF,rS T2 y4,tT],[.own 4 T26 27],via (retP (aI (aI (aI (aI tv0 e2) e3) e5) e6) (.more (.ow T26 27) (.one (.dp T2))) (([],y4):((List V26) × Int))) (by kernel_rfl)⟩)) (fun e6 =>
  oB fun o12 e13 =>
  oB fun y14 e15 =>
  oB fun y16 e17 =>
  oR fun h18 =>
  oR fun h19 =>
  oB fun o48 e49 =>
  oS (⟨[rS T2 y1,fF,rS T2 y4,fF,.cut ⟨[.own 8 T26 27],[(0,16)],(near_Minus.c1p a0 a1 (0:Int) []),1,(.exit 0),(near_Minus.c1q a0 o12),1⟩,rS T2 y14,rS T2 y16,.cut ⟨[.own 14 T26 27],[(0,0),(1,30),(2,35)],(near_Minus.c2p a0 o12 y14 y16 (0:Int) (0:Int) (iadd .i64 (el Z26 a0 y14).1 (el Z26 o12 y16).1) (iadd .i64 (el Z26 a0 y14).2.1 (el Z26 o12 y16).2.1) []),3,(.exit 2),(near_Minus.c2q o48),1⟩],[],via (cutP (aI (aI (aI (aI tv0 e2) e3) e5) e6) [(0,16)] (near_Minus.c1p a0 a1 (0:Int) []) (((near_Minus.c1_ok k a0 a1 k (0:Int) []).ap e13).triple) (cutP (aI (aI (aI (aI (aI (aI (aI (aI tv0 e15) e17) h18) h19) h19) h18) h19) h19) [(0,0),(1,30),(2,35)] (near_Minus.c2p a0 o12 y14 y16 (0:Int) (0:Int) (iadd .i64 (el Z26 a0 y14).1 (el Z26 o12 y16).1) (iadd .i64 (el Z26 a0 y14).2.1 (el Z26 o12 y16).2.1) []) (((near_Minus.c2_ok k a0 o12 y14 y16 k (0:Int) (0:Int) (iadd .i64 (el Z26 a0 y14).1 (el Z26 o12 y16).1) (iadd .i64 (el Z26 a0 y14).2.1 (el Z26 o12 y16).2.1) []).ap e49).triple) (retP tv0 (.more (.ow T26 27) (.one (.dp T2))) ((o48,(0:Int)):((List V26) × Int))))) (by kernel_rfl)⟩)))
theorem near_Minus.ok (k:Nat):FnOk PR 20 (near_Minus.sp k) :=
 fn_ok (near_Minus.cok k) hmix Tryz.func20 (code:=near_Minus.code) (by kernel_rfl) (by kernel_rfl) (by kernel_rfl) rfl rfl (by kernel_rfl) (by kernel_rfl) (by kernel_rfl) (fun x=>Nat.le_of_ble_eq_true (by kernel_rfl)) fun x y hy=>(near_Minus.way k x.1 x.2.1).ap hy
end Go.Proofs.T1
