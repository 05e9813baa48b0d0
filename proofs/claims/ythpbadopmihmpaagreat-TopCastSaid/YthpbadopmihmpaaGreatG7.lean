import Derived.Test.YthpbadopmihmpaaGreatG0
import Derived.Test.YthpbadopmihmpaaGreatLay
namespace Go.Proofs.T1
open Go Go.Sx Go.Proofs
set_option maxRecDepth 100000
set_option linter.unusedVariables false
noncomputable def sweep_Valid.code:Code:=Func.cd Tryz.f129
noncomputable def sweep_Valid (k:Nat) (a0:V133):Option Bool :=
 bif' (ile a0.1.1 a0.2.1.1)
 (some (ile a0.1.2.1 a0.2.1.2.1))
 (some false)
noncomputable def sweep_Valid.sp (k:Nat):Go.Sx.Spec:=⟨(.pair T133 .unit),(.one (.dp T4)),fun x=>sweep_Valid k x.1,false⟩
noncomputable def sweep_Valid.cx (k:Nat):Go.Sx.Ctx:=⟨tys,[],eqs,19,0,[],false⟩
theorem sweep_Valid.cok (k:Nat):CtxOk PR (sweep_Valid.cx k):=ctx_ok tysOk eqsOk FnsOk.nil HsOk.nil
theorem sweep_Valid.way (k:Nat) (a0:V133):Owp (sweep_Valid k a0) fun y=>∃ w c0,exec PR (sweep_Valid.cx k) sweep_Valid.code 0 (entry (.pair T133 .unit) (a0,())).st w (Ret (sweep_Valid.cx k) Tryz.f129 c0 (.one (.dp T4)) y):=by
 unfold sweep_Valid; exact
  oF (fun e1 =>
  oS (⟨[tT,tT,tT,tT,tT,tT,tT,tT],[],via (retP (aI (aI (aI (aI (aI (aI (aI (aI tv0 e1) e1) e1) e1) e1) e1) e1) e1) (.one (.dp T4)) ((ile a0.1.2.1 a0.2.1.2.1):Bool)) (by kernel_rfl)⟩)) (fun e1 =>
  oS (⟨[fF,fF,fF,fF,fF,fF,fF,fF],[],via (retP (aI (aI (aI (aI (aI (aI (aI (aI tv0 e1) e1) e1) e1) e1) e1) e1) e1) (.one (.dp T4)) (false:Bool)) (by kernel_rfl)⟩))
theorem sweep_Valid.ok (k:Nat):FnOk PR 129 (sweep_Valid.sp k) :=
 fn_ok (sweep_Valid.cok k) hmix Tryz.func129 (code:=sweep_Valid.code) (by kernel_rfl) (by kernel_rfl) (by kernel_rfl) rfl rfl (by kernel_rfl) (by kernel_rfl) (by kernel_rfl) (fun x=>Nat.le_of_ble_eq_true (by kernel_rfl)) fun x y hy=>(sweep_Valid.way k x.1).ap hy
noncomputable def sweep_Join.code:Code:=Func.cd Tryz.f78
noncomputable def sweep_Join.c1 (k:Nat) (a0 a1:V133):Option (Bool) :=
 bnd (sweep_Valid k a0) fun y1 =>
 bif' y1
 (some false)
 (bnd (sweep_Valid k a1) fun y4 =>
  some (!y4))
noncomputable def sweep_Join (k:Nat) (a0 a1:V133):Option V133 :=
 bnd (sweep_Join.c1 k a0 a1) fun o6 =>
 bif' o6
 (some ((0,0,()),(0,0,()),()))
 (bnd (sweep_Valid k a0) fun y9 =>
  bif' y9
  (bnd (sweep_Valid k a1) fun y12 =>
  bif' y12
  (some (((imin a0.1.1 a1.1.1),(imin a0.1.2.1 a1.1.2.1),()),((imax a0.2.1.1 a1.2.1.1),(imax a0.2.1.2.1 a1.2.1.2.1),()),()))
  (some a0))
  (some a1))
noncomputable def sweep_Join.sp (k:Nat):Go.Sx.Spec:=⟨(.pair T133 (.pair T133 .unit)),(.one (.dp T133)),fun x=>sweep_Join k x.1 x.2.1,false⟩
noncomputable def sweep_Join.cx (k:Nat):Go.Sx.Ctx:=⟨tys,[(129,sweep_Valid.sp k)],eqs,56,0,[],false⟩
theorem sweep_Join.cok (k:Nat):CtxOk PR (sweep_Join.cx k):=ctx_ok tysOk eqsOk (fC (sweep_Valid.ok k) FnsOk.nil) HsOk.nil
noncomputable def sweep_Join.c1p (a0 a1:V133):SL:=⟨[(2,(.val .ptr ⟨0,0,(0:Int),0,0⟩)),(3,(.val .ptr ⟨1,0,(0:Int),0,0⟩)),(4,(.val .ptr ⟨2,0,(0:Int),0,0⟩))],[(0,.cells T133 a0),(1,.cells T133 a1),(2,.cells T133 (((0:Int),(0:Int),()),((0:Int),(0:Int),()),()))]⟩
noncomputable def sweep_Join.c1q (a0 a1:V133) (o:Bool):SL:=(fun v=>⟨[(2,(.val .ptr ⟨0,0,(0:Int),0,0⟩)),(3,(.val .ptr ⟨1,0,(0:Int),0,0⟩)),(4,(.val .ptr ⟨2,0,(0:Int),0,0⟩)),(5,(.val T4 v))],[(0,.cells T133 a0),(1,.cells T133 a1),(2,.cells T133 (((0:Int),(0:Int),()),((0:Int),(0:Int),()),()))]⟩) o
noncomputable def sweep_Join.c1x (o:Bool):Ex:=(fun _=>.normal) o
noncomputable def sweep_Join.c1n (o:Bool):Nat:=(fun _=>3) o
theorem sweep_Join.c1_ok (k:Nat) (a0 a1:V133):Owp (sweep_Join.c1 k a0 a1) fun o=>Triple PR (sweep_Join.cx k) (sub sweep_Join.code [1,0,0,0]) 3 (sweep_Join.c1p a0 a1) (sweep_Join.c1x o) (sweep_Join.c1n o) (sweep_Join.c1q a0 a1 o):=by
 unfold sweep_Join.c1; exact
  oB fun y1 e2 =>
  oF (fun e3 =>
  oS (tW (sweep_Join.cok k) hmix [rS T4 y1,fF,fF,tT,fF,fF] [] [(0,0),(1,1),(2,2)] (via (finP (aI (aI (aI (aI (aI tv0 e2) (congrArg not e3)) (congrArg not e3)) (congrArg not e3)) (congrArg not e3)) .normal [(0,0),(1,1),(2,2)] (sweep_Join.c1q a0 a1 false)) (by kernel_rfl)))) (fun e3 =>
  oB fun y4 e5 =>
  oS (tW (sweep_Join.cok k) hmix [rS T4 y1,tT,tT,rS T4 y4,tT,tT] [] [(0,0),(1,1),(2,2)] (via (finP (aI (aI (aI (aI (aI tv0 e2) (congrArg not e3)) (aI (congrArg not e3) e5)) (congrArg not e3)) (congrArg not e3)) .normal [(0,0),(1,1),(2,2)] (sweep_Join.c1q a0 a1 (!y4))) (by kernel_rfl))))
theorem sweep_Join.way (k:Nat) (a0 a1:V133):Owp (sweep_Join k a0 a1) fun y=>∃ w c0,exec PR (sweep_Join.cx k) sweep_Join.code 0 (entry (.pair T133 (.pair T133 .unit)) (a0,a1,())).st w (Ret (sweep_Join.cx k) Tryz.f78 c0 (.one (.dp T133)) y):=by
 unfold sweep_Join; exact
  oB fun o6 e7 =>
  oF (fun e8 =>
  oS (⟨[.cutR 1 ⟨[],[(0,0),(1,1),(2,2)],(sweep_Join.c1p a0 a1),3,.normal,(sweep_Join.c1q a0 a1 o6),3⟩,tT],[],via (cutP tv0 [(0,0),(1,1),(2,2)] (sweep_Join.c1p a0 a1) (((sweep_Join.c1_ok k a0 a1).ap e7)) (retP (aI tv0 e8) (.one (.dp T133)) ((((0:Int),(0:Int),()),((0:Int),(0:Int),()),()):V133))) (by kernel_rfl)⟩)) (fun e8 =>
  oB fun y9 e10 =>
  oF (fun e11 =>
  oB fun y12 e13 =>
  oF (fun e14 =>
  oS (⟨[.cutR 1 ⟨[],[(0,0),(1,1),(2,2)],(sweep_Join.c1p a0 a1),3,.normal,(sweep_Join.c1q a0 a1 o6),3⟩,fF,rS T4 y9,fF,rS T4 y12,fF],[],via (cutP tv0 [(0,0),(1,1),(2,2)] (sweep_Join.c1p a0 a1) (((sweep_Join.c1_ok k a0 a1).ap e7)) (retP (aI (aI (aI (aI (aI tv0 e8) e10) (congrArg not e11)) e13) (congrArg not e14)) (.one (.dp T133)) ((((imin a0.1.1 a1.1.1),(imin a0.1.2.1 a1.1.2.1),()),((imax a0.2.1.1 a1.2.1.1),(imax a0.2.1.2.1 a1.2.1.2.1),()),()):V133))) (by kernel_rfl)⟩)) (fun e14 =>
  oS (⟨[.cutR 1 ⟨[],[(0,0),(1,1),(2,2)],(sweep_Join.c1p a0 a1),3,.normal,(sweep_Join.c1q a0 a1 o6),3⟩,fF,rS T4 y9,fF,rS T4 y12,tT],[],via (cutP tv0 [(0,0),(1,1),(2,2)] (sweep_Join.c1p a0 a1) (((sweep_Join.c1_ok k a0 a1).ap e7)) (retP (aI (aI (aI (aI (aI tv0 e8) e10) (congrArg not e11)) e13) (congrArg not e14)) (.one (.dp T133)) (a0:V133))) (by kernel_rfl)⟩))) (fun e11 =>
  oS (⟨[.cutR 1 ⟨[],[(0,0),(1,1),(2,2)],(sweep_Join.c1p a0 a1),3,.normal,(sweep_Join.c1q a0 a1 o6),3⟩,fF,rS T4 y9,tT],[],via (cutP tv0 [(0,0),(1,1),(2,2)] (sweep_Join.c1p a0 a1) (((sweep_Join.c1_ok k a0 a1).ap e7)) (retP (aI (aI (aI tv0 e8) e10) (congrArg not e11)) (.one (.dp T133)) (a1:V133))) (by kernel_rfl)⟩)))
theorem sweep_Join.ok (k:Nat):FnOk PR 78 (sweep_Join.sp k) :=
 fn_ok (sweep_Join.cok k) hmix Tryz.func78 (code:=sweep_Join.code) (by kernel_rfl) (by kernel_rfl) (by kernel_rfl) rfl rfl (by kernel_rfl) (by kernel_rfl) (by kernel_rfl) (fun x=>Nat.le_of_ble_eq_true (by kernel_rfl)) fun x y hy=>(sweep_Join.way k x.1 x.2.1).ap hy
noncomputable def cmp_isNaN.code:Code:=Func.cd Tryz.f147
noncomputable def cmp_isNaN (k:Nat) (a0:Int):Option Bool :=
 some (ine a0 a0)
noncomputable def cmp_isNaN.sp (k:Nat):Go.Sx.Spec:=⟨(.pair T2 .unit),(.one (.dp T4)),fun x=>cmp_isNaN k x.1,false⟩
noncomputable def cmp_isNaN.cx (k:Nat):Go.Sx.Ctx:=⟨tys,[],eqs,6,0,[],false⟩
theorem cmp_isNaN.cok (k:Nat):CtxOk PR (cmp_isNaN.cx k):=ctx_ok tysOk eqsOk FnsOk.nil HsOk.nil
theorem cmp_isNaN.way (k:Nat) (a0:Int):Owp (cmp_isNaN k a0) fun y=>∃ w c0,exec PR (cmp_isNaN.cx k) cmp_isNaN.code 0 (entry (.pair T2 .unit) (a0,())).st w (Ret (cmp_isNaN.cx k) Tryz.f147 c0 (.one (.dp T4)) y):=by
 unfold cmp_isNaN; exact
  oS (⟨[],[],via (retP tv0 (.one (.dp T4)) ((ine a0 a0):Bool)) (by kernel_rfl)⟩)
theorem cmp_isNaN.ok (k:Nat):FnOk PR 147 (cmp_isNaN.sp k) :=
 fn_ok (cmp_isNaN.cok k) hmix Tryz.func147 (code:=cmp_isNaN.code) (by kernel_rfl) (by kernel_rfl) (by kernel_rfl) rfl rfl (by kernel_rfl) (by kernel_rfl) (by kernel_rfl) (fun x=>Nat.le_of_ble_eq_true (by kernel_rfl)) fun x y hy=>(cmp_isNaN.way k x.1).ap hy
noncomputable def cmp_Compare.code:Code:=Func.cd Tryz.f103
noncomputable def cmp_Compare (k:Nat) (a0 a1:Int):Option Int :=
 bnd (cmp_isNaN k a0) fun y1 =>
 bnd (cmp_isNaN k a1) fun y3 =>
 bif' y1
 (bif' y3
  (some 0)
  (some (-1)))
 (bif' y3
  (some 1)
  (bif' (ilt a0 a1)
  (some (-1))
  (bif' (igt a0 a1)
  (some 1)
  (some 0))))
noncomputable def cmp_Compare.sp (k:Nat):Go.Sx.Spec:=⟨T26,(.one (.dp T2)),fun x=>cmp_Compare k x.1 x.2.1,false⟩
noncomputable def cmp_Compare.cx (k:Nat):Go.Sx.Ctx:=⟨tys,[(147,cmp_isNaN.sp k)],eqs,20,0,[],false⟩
theorem cmp_Compare.cok (k:Nat):CtxOk PR (cmp_Compare.cx k):=ctx_ok tysOk eqsOk (fC (cmp_isNaN.ok k) FnsOk.nil) HsOk.nil
theorem cmp_Compare.way (k:Nat) (a0 a1:Int):Owp (cmp_Compare k a0 a1) fun y=>∃ w c0,exec PR (cmp_Compare.cx k) cmp_Compare.code 0 (entry T26 (a0,a1,())).st w (Ret (cmp_Compare.cx k) Tryz.f103 c0 (.one (.dp T2)) y):=by
 unfold cmp_Compare; exact
  oB fun y1 e2 =>
  oB fun y3 e4 =>
  oF (fun e5 =>
  oF (fun e6 =>
  oS (⟨[rS T4 y1,rS T4 y3,tT,tT],[],via (retP (aI (aI (aI (aI tv0 e2) e4) e5) e6) (.one (.dp T2)) ((0:Int):Int)) (by kernel_rfl)⟩)) (fun e6 =>
  oS (⟨[rS T4 y1,rS T4 y3,tT,fF],[],via (retP (aI (aI (aI (aI tv0 e2) e4) e5) e6) (.one (.dp T2)) ((-1:Int):Int)) (by kernel_rfl)⟩))) (fun e5 =>
  oF (fun e7 =>
  oS (⟨[rS T4 y1,rS T4 y3,fF,tT],[],via (retP (aI (aI (aI (aI tv0 e2) e4) e5) e7) (.one (.dp T2)) ((1:Int):Int)) (by kernel_rfl)⟩)) (fun e7 =>
  oF (fun e8 =>
  oS (⟨[rS T4 y1,rS T4 y3,fF,fF,tT],[],via (retP (aI (aI (aI (aI (aI tv0 e2) e4) e5) e7) e8) (.one (.dp T2)) ((-1:Int):Int)) (by kernel_rfl)⟩)) (fun e8 =>
  oF (fun e9 =>
  oS (⟨[rS T4 y1,rS T4 y3,fF,fF,fF,tT],[],via (retP (aI (aI (aI (aI (aI (aI tv0 e2) e4) e5) e7) e8) e9) (.one (.dp T2)) ((1:Int):Int)) (by kernel_rfl)⟩)) (fun e9 =>
  oS (⟨[rS T4 y1,rS T4 y3,fF,fF,fF,fF],[],via (retP (aI (aI (aI (aI (aI (aI tv0 e2) e4) e5) e7) e8) e9) (.one (.dp T2)) ((0:Int):Int)) (by kernel_rfl)⟩)))))
theorem cmp_Compare.ok (k:Nat):FnOk PR 103 (cmp_Compare.sp k) :=
 fn_ok (cmp_Compare.cok k) hmix Tryz.func103 (code:=cmp_Compare.code) (by kernel_rfl) (by kernel_rfl) (by kernel_rfl) rfl rfl (by kernel_rfl) (by kernel_rfl) (by kernel_rfl) (fun x=>Nat.le_of_ble_eq_true (by kernel_rfl)) fun x y hy=>(cmp_Compare.way k x.1 x.2.1).ap hy
noncomputable def sweep_Pairs_1.code:Code:=Func.cd Tryz.f131
noncomputable def sweep_Pairs_1 (k:Nat) (a0 a1:Int) (a2:(List V133)):Option Int :=
 req (inL a0 a2) <|req (inL a1 a2) <|bnd (cmp_Compare k (el Z133 a2 a0).1.1 (el Z133 a2 a1).1.1) fun y3 =>
 some y3
noncomputable def sweep_Pairs_1.sp (k:Nat):Go.Sx.Spec:=⟨(.pair T2 (.pair T2 (.pair (.ref (.slice T133)) .unit))),(.one (.dp T2)),fun x=>sweep_Pairs_1 k x.1 x.2.1 x.2.2.1,false⟩
noncomputable def sweep_Pairs_1.cx (k:Nat):Go.Sx.Ctx:=⟨tys,[(103,cmp_Compare.sp k)],eqs,19,0,[],false⟩
theorem sweep_Pairs_1.cok (k:Nat):CtxOk PR (sweep_Pairs_1.cx k):=ctx_ok tysOk eqsOk (fC (cmp_Compare.ok k) FnsOk.nil) HsOk.nil
theorem sweep_Pairs_1.way (k:Nat) (a0 a1:Int) (a2:(List V133)):Owp (sweep_Pairs_1 k a0 a1 a2) fun y=>∃ w c0,exec PR (sweep_Pairs_1.cx k) sweep_Pairs_1.code 0 (entry (.pair T2 (.pair T2 (.pair (.ref (.slice T133)) .unit))) (a0,a1,a2,())).st w (Ret (sweep_Pairs_1.cx k) Tryz.f131 c0 (.one (.dp T2)) y):=by
 unfold sweep_Pairs_1; exact
  oR fun h1 =>
  oR fun h2 =>
  oB fun y3 e4 =>
  oS (⟨[rS T2 y3],[],via (retP (aI (aI (aI tv0 h1) h2) e4) (.one (.dp T2)) (y3:Int)) (by kernel_rfl)⟩)
theorem sweep_Pairs_1.ok (k:Nat):FnOk PR 131 (sweep_Pairs_1.sp k) :=
 fn_ok (sweep_Pairs_1.cok k) hmix Tryz.func131 (code:=sweep_Pairs_1.code) (by kernel_rfl) (by kernel_rfl) (by kernel_rfl) rfl rfl (by kernel_rfl) (by kernel_rfl) (by kernel_rfl) (fun x=>Nat.le_of_ble_eq_true (by kernel_rfl)) fun x y hy=>(sweep_Pairs_1.way k x.1 x.2.1 x.2.2.1).ap hy
noncomputable def slices_SortFunc (k:Nat) (r0:(List Int)) (c1:(List V133)):Option (List Int):=sortG T2 r0 (fun z=>sweep_Pairs_1 k z.1 z.2.1 c1)
noncomputable def slices_SortFunc.h (k:Nat):Go.Sx.HSp:=sortH1 T2 (.slice T133) 3 131 (fun x=>sweep_Pairs_1 k x.1 x.2.1 x.2.2.1)
theorem slices_SortFunc.ok (k:Nat):HOk PR 130 (slices_SortFunc.h k):=sortH1_ok sortsAt_130 (by kernel_rfl) (by kernel_rfl) 3 (enters_of Tryz.func131 (by kernel_rfl) rfl) (sweep_Pairs_1.ok k)
noncomputable def slices_IndexFunc_161.code:Code:=Func.cd Tryz.f161
noncomputable def slices_IndexFunc_161.c1 (k:Nat) (a0:(List Int)) (a1:((Int × Unit)→Option Bool)):Nat→Int→Option (Int ⊕ Unit)
 | 0,_=>none
 | n+1,v1 =>
  bif' (ilt v1 (len a0))
  (req (inL v1 a0) <|bnd (a1 ((el 0 a0 v1),())) fun y4 =>
  bif' y4
  (some (.inl v1))
  (slices_IndexFunc_161.c1 k a0 a1 n (iadd .i64 v1 1)))
  (some (.inr ()))
noncomputable def slices_IndexFunc_161 (k:Nat) (a0:(List Int)) (a1:((Int × Unit)→Option Bool)):Option Int :=
 bnd (slices_IndexFunc_161.c1 k a0 a1 k 0) fun o7 =>
 two o7 (fun y9 =>
 some y9) (fun y11 =>
 some (-1))
noncomputable def slices_IndexFunc_161.sp (k:Nat):Go.Sx.Spec:=⟨(.pair T22 (.pair (.fn (.pair T2 .unit) T4) .unit)),(.one (.dp T2)),fun x=>slices_IndexFunc_161 k x.1 x.2.1,false⟩
noncomputable def slices_IndexFunc_161.cx (k:Nat):Go.Sx.Ctx:=⟨tys,[],eqs,19,0,[],false⟩
theorem slices_IndexFunc_161.cok (k:Nat):CtxOk PR (slices_IndexFunc_161.cx k):=ctx_ok tysOk eqsOk FnsOk.nil HsOk.nil
noncomputable def slices_IndexFunc_161.c1p (a0:(List Int)) (a1:((Int × Unit)→Option Bool)) (v1:Int):SL:=⟨[(0,(.val T22 a0)),(1,(.val (.fn (.pair T2 .unit) T4) a1)),(7,(.val T2 (len a0))),(8,(.val T2 v1))],[]⟩
noncomputable def slices_IndexFunc_161.c1q (o:Int ⊕ Unit):SL:=(fun o=>two o (fun v=>⟨[(4,(.val T2 v))],[]⟩) (fun v=>⟨[],[]⟩)) o
noncomputable def slices_IndexFunc_161.c1x (o:Int ⊕ Unit):Ex:=(fun o=>two o (fun _=>.ret) (fun _=>(.exit 0))) o
noncomputable def slices_IndexFunc_161.c1n (o:Int ⊕ Unit):Nat:=(fun o=>two o (fun _=>0) (fun _=>0)) o
theorem slices_IndexFunc_161.c1_ok (k:Nat) (a0:(List Int)) (a1:((Int × Unit)→Option Bool)):∀ (n:Nat) (v1:Int),Owp (slices_IndexFunc_161.c1 k a0 a1 n v1) fun o=>LTriple PR (slices_IndexFunc_161.cx k) (sub slices_IndexFunc_161.code [1,0,1,0,0]) 0 (slices_IndexFunc_161.c1p a0 a1 v1) (slices_IndexFunc_161.c1x o) (slices_IndexFunc_161.c1n o) (slices_IndexFunc_161.c1q o)
 | 0,_=>fun _ h=>nomatch h
 | n+1,v1=>Owp.of (slices_IndexFunc_161.c1.eq_2 ..) (
  oF (fun e2 =>
  oR fun h3 =>
  oB fun y4 e5 =>
  oF (fun e6 =>
  oS (loop_exit (slices_IndexFunc_161.cok k) hmix [tT,rS T4 y4,tT] [] [] exne_ret (via (finP (aI (aI (aI (aI tv0 e2) h3) e5) e6) .ret [] (slices_IndexFunc_161.c1q (.inl v1))) (by kernel_rfl)))) (fun e6 =>
  fun y hy=>loop_back (slices_IndexFunc_161.cok k) hmix 0 (slices_IndexFunc_161.c1p a0 a1 (iadd .i64 v1 (1:Int))) [tT,rS T4 y4,fF] [] [] (via (finP (aI (aI (aI (aI tv0 e2) h3) e5) e6) .normal [] (slices_IndexFunc_161.c1p a0 a1 (iadd .i64 v1 (1:Int)))) (by kernel_rfl)) ((slices_IndexFunc_161.c1_ok k a0 a1 n (iadd .i64 v1 (1:Int))).ap hy))) (fun e2 =>
  oS (loop_exit (slices_IndexFunc_161.cok k) hmix [fF] [] [] (exne 0) (via (finP (aI tv0 e2) (.exit 0) [] (slices_IndexFunc_161.c1q (.inr ()))) (by kernel_rfl)))))
theorem slices_IndexFunc_161.way (k:Nat) (a0:(List Int)) (a1:((Int × Unit)→Option Bool)):Owp (slices_IndexFunc_161 k a0 a1) fun y=>∃ w c0,exec PR (slices_IndexFunc_161.cx k) slices_IndexFunc_161.code 0 (entry (.pair T22 (.pair (.fn (.pair T2 .unit) T4) .unit)) (a0,a1,())).st w (Ret (slices_IndexFunc_161.cx k) Tryz.f161 c0 (.one (.dp T2)) y):=by
 unfold slices_IndexFunc_161; exact
  oB fun o7 e8 =>
  Owp.two (fun y9 e10 =>
  oS (⟨[.cut ⟨[],[],(slices_IndexFunc_161.c1p a0 a1 (0:Int)),0,.ret,(slices_IndexFunc_161.c1q (.inl y9)),0⟩],[],via (cutP tv0 [] (slices_IndexFunc_161.c1p a0 a1 (0:Int)) (((slices_IndexFunc_161.c1_ok k a0 a1 k (0:Int)).ap (e8.trans (congrArg some e10))).triple) (retP tv0 (.one (.dp T2)) (y9:Int))) (by kernel_rfl)⟩)) (fun y11 e12 =>
  oS (⟨[.cut ⟨[],[],(slices_IndexFunc_161.c1p a0 a1 (0:Int)),0,(.exit 0),(slices_IndexFunc_161.c1q (.inr ())),0⟩],[],via (cutP tv0 [] (slices_IndexFunc_161.c1p a0 a1 (0:Int)) (((slices_IndexFunc_161.c1_ok k a0 a1 k (0:Int)).ap (e8.trans (congrArg some e12))).triple) (retP tv0 (.one (.dp T2)) ((-1:Int):Int))) (by kernel_rfl)⟩))
theorem slices_IndexFunc_161.ok (k:Nat):FnOk PR 161 (slices_IndexFunc_161.sp k) :=
 fn_ok (slices_IndexFunc_161.cok k) hmix Tryz.func161 (code:=slices_IndexFunc_161.code) (by kernel_rfl) (by kernel_rfl) (by kernel_rfl) rfl rfl (by kernel_rfl) (by kernel_rfl) (by kernel_rfl) (fun x=>Nat.le_of_ble_eq_true (by kernel_rfl)) fun x y hy=>(slices_IndexFunc_161.way k x.1 x.2.1).ap hy
noncomputable def sweep_Pairs_2.code:Code:=Func.cd Tryz.f133
noncomputable def sweep_Pairs_2 (k:Nat) (a0:Int) (a1:(List V133)) (a2:Int):Option Bool :=
 req (inL a0 a1) <|req (inL a2 a1) <|some (ilt (el Z133 a1 a0).2.1.1 (el Z133 a1 a2).1.1)
noncomputable def sweep_Pairs_2.sp (k:Nat):Go.Sx.Spec:=⟨(.pair T2 (.pair (.ref (.slice T133)) (.pair (.ref T2) .unit))),(.one (.dp T4)),fun x=>sweep_Pairs_2 k x.1 x.2.1 x.2.2.1,false⟩
noncomputable def sweep_Pairs_2.cx (k:Nat):Go.Sx.Ctx:=⟨tys,[],eqs,18,0,[],false⟩
theorem sweep_Pairs_2.cok (k:Nat):CtxOk PR (sweep_Pairs_2.cx k):=ctx_ok tysOk eqsOk FnsOk.nil HsOk.nil
theorem sweep_Pairs_2.way (k:Nat) (a0:Int) (a1:(List V133)) (a2:Int):Owp (sweep_Pairs_2 k a0 a1 a2) fun y=>∃ w c0,exec PR (sweep_Pairs_2.cx k) sweep_Pairs_2.code 0 (entry (.pair T2 (.pair (.ref (.slice T133)) (.pair (.ref T2) .unit))) (a0,a1,a2,())).st w (Ret (sweep_Pairs_2.cx k) Tryz.f133 c0 (.one (.dp T4)) y):=by
 unfold sweep_Pairs_2; exact
  oR fun h1 =>
  oR fun h2 =>
  oS (⟨[],[],via (retP (aI (aI tv0 h1) h2) (.one (.dp T4)) ((ilt (el Z133 a1 a0).2.1.1 (el Z133 a1 a2).1.1):Bool)) (by kernel_rfl)⟩)
theorem sweep_Pairs_2.ok (k:Nat):FnOk PR 133 (sweep_Pairs_2.sp k) :=
 fn_ok (sweep_Pairs_2.cok k) hmix Tryz.func133 (code:=sweep_Pairs_2.code) (by kernel_rfl) (by kernel_rfl) (by kernel_rfl) rfl rfl (by kernel_rfl) (by kernel_rfl) (by kernel_rfl) (fun x=>Nat.le_of_ble_eq_true (by kernel_rfl)) fun x y hy=>(sweep_Pairs_2.way k x.1 x.2.1 x.2.2.1).ap hy
noncomputable def slices_DeleteFunc.code:Code:=Func.cd Tryz.f132
noncomputable def slices_DeleteFunc.c2 (k:Nat) (v4 v5:Int) (v6:(List Int)) (y9:Bool):Option ((Int × (List Int))) :=
 bif' y9
 (some (v4,v6))
 (req (inL v4 v6) <|some ((iadd .i64 v4 1),(st v6 v4 (el 0 v6 v5))))
noncomputable def slices_DeleteFunc.c1 (k:Nat) (a1:((Int × Unit)→Option Bool)):Nat→Int→Int→(List Int)→Option ((Int × (List Int)))
 | 0,_,_,_=>none
 | n+1,v4,v5,v6 =>
  bif' (ilt v5 (len v6))
  (req (inL v5 v6) <|bnd (a1 ((el 0 v6 v5),())) fun y9 =>
  bnd (slices_DeleteFunc.c2 k v4 v5 v6 y9) fun o13 =>
  slices_DeleteFunc.c1 k a1 n o13.1 (iadd .i64 v5 1) o13.2)
  (some (v4,v6))
noncomputable def slices_DeleteFunc (k:Nat) (a1:((Int × Unit)→Option Bool)) (r0:(List Int)):Option (List Int) :=
 bnd (slices_IndexFunc_161 k r0 a1) fun y1 =>
 bif' (ieq y1 (-1))
 (some r0)
 (bnd (slices_DeleteFunc.c1 k a1 k y1 (iadd .i64 y1 1) r0) fun o15 =>
  req (sufIn o15.1 (List.length o15.2)) <|req (Int.toNat o15.1≤List.length o15.2) <|req (tkOk (clr 0 o15.2 (Int.toNat o15.1)) o15.1) <|some (tk (clr 0 o15.2 (Int.toNat o15.1)) o15.1))
noncomputable def slices_DeleteFunc.h (k:Nat):Go.Sx.HSp:=⟨(.pair (.fn (.pair T2 .unit) T4) (.pair T22 .unit)),(.slice T2),1,fun x=>[.lent (.val .own (0:Nat)),.dat (.fn (.pair T2 .unit) T4) x.1],fun x=>[(0,.row T2 x.2.1 3)],fun x=>slices_DeleteFunc k x.1 x.2.1,fun x y=>[(0,.row T2 y 3)],.none,fun y=>(),false,true⟩
noncomputable def slices_DeleteFunc.cx (k:Nat):Go.Sx.Ctx:=⟨tys,[(161,slices_IndexFunc_161.sp k)],eqs,42,0,[],false⟩
theorem slices_DeleteFunc.cok (k:Nat):CtxOk PR (slices_DeleteFunc.cx k):=ctx_ok tysOk eqsOk (fC (slices_IndexFunc_161.ok k) FnsOk.nil) HsOk.nil
noncomputable def slices_DeleteFunc.c2p (a1:((Int × Unit)→Option Bool)) (v4 v5:Int) (v6:(List Int)) (y9:Bool):SL:=⟨[(0,(.val .own (0:Nat))),(1,(.val (.fn (.pair T2 .unit) T4) a1)),(5,(.val T2 v4)),(6,(.val T2 v5)),(7,(.val T2 (el (0:Int) v6 v5))),(29,(.val T4 (!y9)))],[(0,.row T2 v6 3)]⟩
noncomputable def slices_DeleteFunc.c2q (a1:((Int × Unit)→Option Bool)) (v5:Int) (o:(Int × (List Int))):SL:=(fun v=>⟨[(0,(.val .own (0:Nat))),(1,(.val (.fn (.pair T2 .unit) T4) a1)),(5,(.val T2 v.1)),(6,(.val T2 v5))],[(0,.row T2 v.2 3)]⟩) o
noncomputable def slices_DeleteFunc.c2x (o:(Int × (List Int))):Ex:=(fun _=>.normal) o
noncomputable def slices_DeleteFunc.c2n (o:(Int × (List Int))):Nat:=(fun _=>1) o
theorem slices_DeleteFunc.c2_ok (k:Nat) (a1:((Int × Unit)→Option Bool)) (v4 v5:Int) (v6:(List Int)) (y9:Bool):Owp (slices_DeleteFunc.c2 k v4 v5 v6 y9) fun o=>Triple PR (slices_DeleteFunc.cx k) (sub slices_DeleteFunc.code [1,1,1,0,1,0,0,1,0,0,1,1]) 1 (slices_DeleteFunc.c2p a1 v4 v5 v6 y9) (slices_DeleteFunc.c2x o) (slices_DeleteFunc.c2n o) (slices_DeleteFunc.c2q a1 v5 o):=by
 unfold slices_DeleteFunc.c2; exact
  oF (fun e11 =>
  oS (tW (slices_DeleteFunc.cok k) hmix [fF] [] [(0,0)] (via (finP (aI tv0 (congrArg not e11)) .normal [(0,0)] (slices_DeleteFunc.c2q a1 v5 (v4,v6))) (by kernel_rfl)))) (fun e11 =>
  oR fun h12 =>
  oS (tW (slices_DeleteFunc.cok k) hmix [tT] [] [(0,0)] (via (finP (aI (aI (aI tv0 (congrArg not e11)) h12) h12) .normal [(0,0)] (slices_DeleteFunc.c2q a1 v5 ((iadd .i64 v4 (1:Int)),(st v6 v4 (el (0:Int) v6 v5))))) (by kernel_rfl))))
noncomputable def slices_DeleteFunc.c1p (a1:((Int × Unit)→Option Bool)) (v4 v5:Int) (v6:(List Int)):SL:=⟨[(0,(.val .own (0:Nat))),(1,(.val (.fn (.pair T2 .unit) T4) a1)),(5,(.val T2 v4)),(6,(.val T2 v5))],[(0,.row T2 v6 3)]⟩
noncomputable def slices_DeleteFunc.c1q (o:(Int × (List Int))):SL:=(fun v=>⟨[(0,(.val .own (0:Nat))),(5,(.val T2 v.1))],[(0,.row T2 v.2 3)]⟩) o
noncomputable def slices_DeleteFunc.c1x (o:(Int × (List Int))):Ex:=(fun _=>(.exit 0)) o
noncomputable def slices_DeleteFunc.c1n (o:(Int × (List Int))):Nat:=(fun _=>1) o
theorem slices_DeleteFunc.c1_ok (k:Nat) (a1:((Int × Unit)→Option Bool)):∀ (n:Nat) (v4 v5:Int) (v6:(List Int)),Owp (slices_DeleteFunc.c1 k a1 n v4 v5 v6) fun o=>LTriple PR (slices_DeleteFunc.cx k) (sub slices_DeleteFunc.code [1,1,1,0,1,0,0]) 1 (slices_DeleteFunc.c1p a1 v4 v5 v6) (slices_DeleteFunc.c1x o) (slices_DeleteFunc.c1n o) (slices_DeleteFunc.c1q o)
 | 0,_,_,_=>fun _ h=>nomatch h
 | n+1,v4,v5,v6=>Owp.of (slices_DeleteFunc.c1.eq_2 ..) (
  oF (fun e7 =>
  oR fun h8 =>
  oB fun y9 e10 =>
  oB fun o13 e14 =>
  fun y hy=>loop_back (slices_DeleteFunc.cok k) hmix 1 (slices_DeleteFunc.c1p a1 o13.1 (iadd .i64 v5 (1:Int)) o13.2) [tT,rS T4 y9,.cut ⟨[],[(0,0)],(slices_DeleteFunc.c2p a1 v4 v5 v6 y9),1,.normal,(slices_DeleteFunc.c2q a1 v5 o13),1⟩] [] [(0,0)] (via (cutP (aI (aI (aI (aI tv0 e7) h8) h8) e10) [(0,0)] (slices_DeleteFunc.c2p a1 v4 v5 v6 y9) (((slices_DeleteFunc.c2_ok k a1 v4 v5 v6 y9).ap e14)) (finP tv0 .normal [(0,0)] (slices_DeleteFunc.c1p a1 o13.1 (iadd .i64 v5 (1:Int)) o13.2))) (by kernel_rfl)) ((slices_DeleteFunc.c1_ok k a1 n o13.1 (iadd .i64 v5 (1:Int)) o13.2).ap hy)) (fun e7 =>
  oS (loop_exit (slices_DeleteFunc.cok k) hmix [fF] [] [(0,0)] (exne 0) (via (finP (aI tv0 e7) (.exit 0) [(0,0)] (slices_DeleteFunc.c1q (v4,v6))) (by kernel_rfl)))))
@[irreducible] noncomputable def slices_DeleteFunc.P (k:Nat) (a1:((Int × Unit)→Option Bool)) (r0 y:(List Int)) (w:List Ans) (c0:List Cmd):Prop:=exec PR (slices_DeleteFunc.cx k) slices_DeleteFunc.code 1 (entryH (slices_DeleteFunc.h k) (a1,r0,())).st w (RetG (slices_DeleteFunc.cx k) Tryz.f132 c0 (slices_DeleteFunc.h k) (a1,r0,()) y)
theorem slices_DeleteFunc.way (k:Nat) (a1:((Int × Unit)→Option Bool)) (r0:(List Int)):Owp (slices_DeleteFunc k a1 r0) fun y=>∃ w c0,slices_DeleteFunc.P k a1 r0 y w c0:=by
 unfold slices_DeleteFunc; exact
  oB fun y1 e2 =>
  oF (fun e3 =>
  oS (⟨[rS T2 y1,tT],[],via (retgP (aI (aI tv0 e2) e3) (some (.row T2 r0 3))) (by kernel_rfl)⟩)) (fun e3 =>
  oB fun o15 e16 =>
  oR fun h17 =>
  oR fun h18 =>
  oR fun h19 =>
  oS (⟨[rS T2 y1,fF,.cut ⟨[],[(0,0)],(slices_DeleteFunc.c1p a1 y1 (iadd .i64 y1 (1:Int)) r0),1,(.exit 0),(slices_DeleteFunc.c1q o15),1⟩],[],via (cutP (aI (aI tv0 e2) e3) [(0,0)] (slices_DeleteFunc.c1p a1 y1 (iadd .i64 y1 (1:Int)) r0) (((slices_DeleteFunc.c1_ok k a1 k y1 (iadd .i64 y1 (1:Int)) r0).ap e16).triple) (retgP (aI (aI (aI tv0 h17) h18) h19) (some (.row T2 (tk (clr (0:Int) o15.2 (Int.toNat o15.1)) o15.1) 3)))) (by kernel_rfl)⟩))
theorem slices_DeleteFunc.ok (k:Nat):HOk PR 132 (slices_DeleteFunc.h k) :=
 fnG_ok (slices_DeleteFunc.cok k) hmix Tryz.func132 (code:=slices_DeleteFunc.code) (by kernel_rfl) (by kernel_rfl) (by kernel_rfl) (by kernel_rfl) (by kernel_rfl) (by kernel_rfl) (fun x=>Nat.le_of_ble_eq_true (by kernel_rfl)) (fun x=>⟨_,_,_,rfl⟩) fun x y hy=>match (slices_DeleteFunc.way k x.1 x.2.1).ap hy with | ⟨ans,c0,h⟩=>⟨ans,c0,via h (by kernel_rfl)⟩
noncomputable def cmp_Or.code:Code:=Func.cd Tryz.f102
noncomputable def cmp_Or.c1 (k:Nat) (a0:(List Int)):Nat→Int→Option (Int ⊕ Unit)
 | 0,_=>none
 | n+1,v1 =>
  bif' (ilt v1 (len a0))
  (req (inL v1 a0) <|bif' (ine (el 0 a0 v1) 0)
  (some (.inl (el 0 a0 v1)))
  (cmp_Or.c1 k a0 n (iadd .i64 v1 1)))
  (some (.inr ()))
noncomputable def cmp_Or (k:Nat) (a0:(List Int)):Option Int :=
 bnd (cmp_Or.c1 k a0 k 0) fun o5 =>
 two o5 (fun y7 =>
 some y7) (fun y9 =>
 some 0)
noncomputable def cmp_Or.sp (k:Nat):Go.Sx.Spec:=⟨(.pair T22 .unit),(.one (.dp T2)),fun x=>cmp_Or k x.1,false⟩
noncomputable def cmp_Or.cx (k:Nat):Go.Sx.Ctx:=⟨tys,[],eqs,18,0,[],false⟩
theorem cmp_Or.cok (k:Nat):CtxOk PR (cmp_Or.cx k):=ctx_ok tysOk eqsOk FnsOk.nil HsOk.nil
noncomputable def cmp_Or.c1p (a0:(List Int)) (v1:Int):SL:=⟨[(3,(.val T2 (0:Int))),(6,(.val T22 a0)),(7,(.val T2 (len a0))),(8,(.val T2 v1))],[]⟩
noncomputable def cmp_Or.c1q (o:Int ⊕ Unit):SL:=(fun o=>two o (fun v=>⟨[(2,(.val T2 v))],[]⟩) (fun v=>⟨[(3,(.val T2 (0:Int)))],[]⟩)) o
noncomputable def cmp_Or.c1x (o:Int ⊕ Unit):Ex:=(fun o=>two o (fun _=>.ret) (fun _=>(.exit 0))) o
noncomputable def cmp_Or.c1n (o:Int ⊕ Unit):Nat:=(fun o=>two o (fun _=>0) (fun _=>0)) o
theorem cmp_Or.c1_ok (k:Nat) (a0:(List Int)):∀ (n:Nat) (v1:Int),Owp (cmp_Or.c1 k a0 n v1) fun o=>LTriple PR (cmp_Or.cx k) (sub cmp_Or.code [1,1,0,1,0,0]) 0 (cmp_Or.c1p a0 v1) (cmp_Or.c1x o) (cmp_Or.c1n o) (cmp_Or.c1q o)
 | 0,_=>fun _ h=>nomatch h
 | n+1,v1=>Owp.of (cmp_Or.c1.eq_2 ..) (
  oF (fun e2 =>
  oR fun h3 =>
  oF (fun e4 =>
  oS (loop_exit (cmp_Or.cok k) hmix [tT,tT] [] [] exne_ret (via (finP (aI (aI (aI tv0 e2) h3) e4) .ret [] (cmp_Or.c1q (.inl (el (0:Int) a0 v1)))) (by kernel_rfl)))) (fun e4 =>
  fun y hy=>loop_back (cmp_Or.cok k) hmix 0 (cmp_Or.c1p a0 (iadd .i64 v1 (1:Int))) [tT,fF] [] [] (via (finP (aI (aI (aI tv0 e2) h3) e4) .normal [] (cmp_Or.c1p a0 (iadd .i64 v1 (1:Int)))) (by kernel_rfl)) ((cmp_Or.c1_ok k a0 n (iadd .i64 v1 (1:Int))).ap hy))) (fun e2 =>
  oS (loop_exit (cmp_Or.cok k) hmix [fF] [] [] (exne 0) (via (finP (aI tv0 e2) (.exit 0) [] (cmp_Or.c1q (.inr ()))) (by kernel_rfl)))))
theorem cmp_Or.way (k:Nat) (a0:(List Int)):Owp (cmp_Or k a0) fun y=>∃ w c0,exec PR (cmp_Or.cx k) cmp_Or.code 0 (entry (.pair T22 .unit) (a0,())).st w (Ret (cmp_Or.cx k) Tryz.f102 c0 (.one (.dp T2)) y):=by
 unfold cmp_Or; exact
  oB fun o5 e6 =>
  Owp.two (fun y7 e8 =>
  oS (⟨[.cut ⟨[],[],(cmp_Or.c1p a0 (0:Int)),0,.ret,(cmp_Or.c1q (.inl y7)),0⟩],[],via (cutP tv0 [] (cmp_Or.c1p a0 (0:Int)) (((cmp_Or.c1_ok k a0 k (0:Int)).ap (e6.trans (congrArg some e8))).triple) (retP tv0 (.one (.dp T2)) (y7:Int))) (by kernel_rfl)⟩)) (fun y9 e10 =>
  oS (⟨[.cut ⟨[],[],(cmp_Or.c1p a0 (0:Int)),0,(.exit 0),(cmp_Or.c1q (.inr ())),0⟩],[],via (cutP tv0 [] (cmp_Or.c1p a0 (0:Int)) (((cmp_Or.c1_ok k a0 k (0:Int)).ap (e6.trans (congrArg some e10))).triple) (retP tv0 (.one (.dp T2)) ((0:Int):Int))) (by kernel_rfl)⟩))
theorem cmp_Or.ok (k:Nat):FnOk PR 102 (cmp_Or.sp k) :=
 fn_ok (cmp_Or.cok k) hmix Tryz.func102 (code:=cmp_Or.code) (by kernel_rfl) (by kernel_rfl) (by kernel_rfl) rfl rfl (by kernel_rfl) (by kernel_rfl) (by kernel_rfl) (fun x=>Nat.le_of_ble_eq_true (by kernel_rfl)) fun x y hy=>(cmp_Or.way k x.1).ap hy
noncomputable def sweep_Pairs_3.code:Code:=Func.cd Tryz.f135
noncomputable def sweep_Pairs_3 (k:Nat) (a0 a1:(List Int)):Option Int :=
 bnd (cmp_Compare k (el 0 a0 0) (el 0 a1 0)) fun y1 =>
 bnd (cmp_Compare k (el 0 a0 1) (el 0 a1 1)) fun y3 =>
 bnd (cmp_Or k [y1,y3]) fun y5 =>
 some y5
noncomputable def sweep_Pairs_3.sp (k:Nat):Go.Sx.Spec:=⟨(.pair (.arr 2 T2) (.pair (.arr 2 T2) .unit)),(.one (.dp T2)),fun x=>sweep_Pairs_3 k x.1 x.2.1,false⟩
noncomputable def sweep_Pairs_3.cx (k:Nat):Go.Sx.Ctx:=⟨tys,[(103,cmp_Compare.sp k),(102,cmp_Or.sp k)],eqs,17,0,[],false⟩
theorem sweep_Pairs_3.cok (k:Nat):CtxOk PR (sweep_Pairs_3.cx k):=ctx_ok tysOk eqsOk (fC (cmp_Compare.ok k) (fC (cmp_Or.ok k) FnsOk.nil)) HsOk.nil
theorem sweep_Pairs_3.way (k:Nat) (a0 a1:(List Int)):Owp (sweep_Pairs_3 k a0 a1) fun y=>∃ w c0,exec PR (sweep_Pairs_3.cx k) sweep_Pairs_3.code 0 (entry (.pair (.arr 2 T2) (.pair (.arr 2 T2) .unit)) (a0,a1,())).st w (Ret (sweep_Pairs_3.cx k) Tryz.f135 c0 (.one (.dp T2)) y):=by
 unfold sweep_Pairs_3; exact
  oB fun y1 e2 =>
  oB fun y3 e4 =>
  oB fun y5 e6 =>
  oS (⟨[rS T2 y1,rS T2 y3,tT,rS T2 y5],[],via (retP (aI (aI (aI (aI (aI (aI (aI (aI (aI (aI (aI tv0 (by decide:inR (0:Int) 2)) (by decide:inR (0:Int) 2)) (by decide:inR (0:Int) 2)) (by decide:inR (0:Int) 2)) e2) (by decide:inR (1:Int) 2)) (by decide:inR (1:Int) 2)) (by decide:inR (1:Int) 2)) (by decide:inR (1:Int) 2)) e4) e6) (.one (.dp T2)) (y5:Int)) (by kernel_rfl)⟩)
theorem sweep_Pairs_3.ok (k:Nat):FnOk PR 135 (sweep_Pairs_3.sp k) :=
 fn_ok (sweep_Pairs_3.cok k) hmix Tryz.func135 (code:=sweep_Pairs_3.code) (by kernel_rfl) (by kernel_rfl) (by kernel_rfl) rfl rfl (by kernel_rfl) (by kernel_rfl) (by kernel_rfl) (fun x=>Nat.le_of_ble_eq_true (by kernel_rfl)) fun x y hy=>(sweep_Pairs_3.way k x.1 x.2.1).ap hy
noncomputable def slices_SortFunc_134 (k:Nat) (r0:(List (List Int))):Option (List (List Int)):=sortG (.arr 2 T2) r0 (fun z=>sweep_Pairs_3 k z.1 z.2.1)
noncomputable def slices_SortFunc_134.h (k:Nat):Go.Sx.HSp:=sortH0 (.arr 2 T2) 107 135 (fun x=>sweep_Pairs_3 k x.1 x.2.1)
theorem slices_SortFunc_134.ok (k:Nat):HOk PR 134 (slices_SortFunc_134.h k):=sortH0_ok sortsAt_134 (by kernel_rfl) 107 (enters_of Tryz.func135 (by kernel_rfl) rfl) (sweep_Pairs_3.ok k)
noncomputable def sweep_Pairs.code:Code:=Func.cd Tryz.f80
noncomputable def sweep_Pairs.c1 (k:Nat) (a0:(List V133)):Nat→Int→(List Int)→Option ((List Int))
 | 0,_,_=>none
 | n+1,v1,v2 =>
  bif' (ilt v1 (len a0))
  (req (inL v1 a0) <|bnd (sweep_Valid k (el Z133 a0 v1)) fun y5 =>
  bif' y5
  (req (room 8 v2 [v1]) <|sweep_Pairs.c1 k a0 n (iadd .i64 v1 1) (v2++[v1]))
  (sweep_Pairs.c1 k a0 n (iadd .i64 v1 1) v2))
  (some v2)
noncomputable def sweep_Pairs.c4 (k:Nat) (a0:(List V133)) (v13 v20:Int) (y11 y18:(List Int)):Option (Bool) :=
 req (inL (el 0 y18 v20) a0) <|req (inL (el 0 y11 v13) a0) <|bif' (ile (el Z133 a0 (el 0 y18 v20)).1.2.1 (el Z133 a0 (el 0 y11 v13)).2.1.2.1)
 (some (ile (el Z133 a0 (el 0 y11 v13)).1.2.1 (el Z133 a0 (el 0 y18 v20)).2.1.2.1))
 (some false)
noncomputable def sweep_Pairs.c3 (k:Nat) (a0:(List V133)) (v13:Int) (y11 y18:(List Int)):Nat→Int→(List (List Int))→Option ((List (List Int)))
 | 0,_,_=>none
 | n+1,v20,v21 =>
  bif' (ilt v20 (len y18))
  (req (inL v20 y18) <|bnd (sweep_Pairs.c4 k a0 v13 v20 y11 y18) fun o27 =>
  bif' o27
  (req (room 16 v21 [[(imin (el 0 y11 v13) (el 0 y18 v20)),(imax (el 0 y11 v13) (el 0 y18 v20))]]) <|sweep_Pairs.c3 k a0 v13 y11 y18 n (iadd .i64 v20 1) (v21++[[(imin (el 0 y11 v13) (el 0 y18 v20)),(imax (el 0 y11 v13) (el 0 y18 v20))]]))
  (sweep_Pairs.c3 k a0 v13 y11 y18 n (iadd .i64 v20 1) v21))
  (some v21)
noncomputable def sweep_Pairs.c2 (k:Nat) (a0:(List V133)) (y11:(List Int)):Nat→Int→(List Int)→(List (List Int))→Option ((List (List Int)))
 | 0,_,_,_=>none
 | n+1,v13,v14,v15 =>
  bif' (ilt v13 (len y11))
  (req (inL v13 y11) <|bnd (slices_DeleteFunc k (fun x:(Int × Unit)=>sweep_Pairs_2 k (x.1) a0 (el 0 y11 v13)) v14) fun y18 =>
  bnd (sweep_Pairs.c3 k a0 v13 y11 y18 k 0 v15) fun o31 =>
  req (room 8 y18 [(el 0 y11 v13)]) <|sweep_Pairs.c2 k a0 y11 n (iadd .i64 v13 1) (y18++[(el 0 y11 v13)]) o31)
  (some v15)
noncomputable def sweep_Pairs (k:Nat) (a0:(List V133)):Option (List (List Int)) :=
 bnd (sweep_Pairs.c1 k a0 k 0 []) fun o9 =>
 bnd (slices_SortFunc k o9 a0) fun y11 =>
 bnd (sweep_Pairs.c2 k a0 y11 k 0 [] []) fun o34 =>
 bnd (slices_SortFunc_134 k o34) fun y36 =>
 some y36
noncomputable def sweep_Pairs.sp (k:Nat):Go.Sx.Spec:=⟨(.pair (.slice T133) .unit),(.one (.ow (.arr 2 T2) 107)),fun x=>sweep_Pairs k x.1,false⟩
noncomputable def sweep_Pairs.cx (k:Nat):Go.Sx.Ctx:=⟨tys,[(129,sweep_Valid.sp k),(133,sweep_Pairs_2.sp k)],eqs,91,0,[(130,slices_SortFunc.h k),(132,slices_DeleteFunc.h k),(134,slices_SortFunc_134.h k)],false⟩
theorem sweep_Pairs.cok (k:Nat):CtxOk PR (sweep_Pairs.cx k):=ctx_ok tysOk eqsOk (fC (sweep_Valid.ok k) (fC (sweep_Pairs_2.ok k) FnsOk.nil)) (HsOk.cons (slices_SortFunc.ok k) (HsOk.cons (slices_DeleteFunc.ok k) (HsOk.cons (slices_SortFunc_134.ok k) HsOk.nil)))
noncomputable def sweep_Pairs.c1p (a0:(List V133)) (v1:Int) (v2:(List Int)):SL:=⟨[(1,(.val .ptr ⟨0,0,(0:Int),0,0⟩)),(3,(.val .own (1:Nat))),(12,(.val (.slice T133) a0)),(13,(.val T2 (len a0))),(14,(.val T2 v1))],[(0,.cells (.slice T133) a0),(1,.row T2 v2 3)]⟩
noncomputable def sweep_Pairs.c1q (a0:(List V133)) (o:(List Int)):SL:=(fun v=>⟨[(1,(.val .ptr ⟨0,0,(0:Int),0,0⟩)),(3,(.val .own (1:Nat)))],[(0,.cells (.slice T133) a0),(1,.row T2 v 3)]⟩) o
noncomputable def sweep_Pairs.c1x (o:(List Int)):Ex:=(fun _=>(.exit 0)) o
noncomputable def sweep_Pairs.c1n (o:(List Int)):Nat:=(fun _=>2) o
theorem sweep_Pairs.c1_ok (k:Nat) (a0:(List V133)):∀ (n:Nat) (v1:Int) (v2:(List Int)),Owp (sweep_Pairs.c1 k a0 n v1 v2) fun o=>LTriple PR (sweep_Pairs.cx k) (sub sweep_Pairs.code [1,1,0,1,0,0]) 2 (sweep_Pairs.c1p a0 v1 v2) (sweep_Pairs.c1x o) (sweep_Pairs.c1n o) (sweep_Pairs.c1q a0 o)
 | 0,_,_=>fun _ h=>nomatch h
 | n+1,v1,v2=>Owp.of (sweep_Pairs.c1.eq_2 ..) (
  oF (fun e3 =>
  oR fun h4 =>
  oB fun y5 e6 =>
  oF (fun e7 =>
  oR fun h8 =>
  fun y hy=>loop_back (sweep_Pairs.cok k) hmix 2 (sweep_Pairs.c1p a0 (iadd .i64 v1 (1:Int)) (v2++[v1])) [tT,rS T4 y5,tT,tT] [] [(0,0),(1,14)] (via (finP (aI (aI (aI (aI (aI tv0 e3) h4) e6) e7) h8) .normal [(0,0),(1,14)] (sweep_Pairs.c1p a0 (iadd .i64 v1 (1:Int)) (v2++[v1]))) (by kernel_rfl)) ((sweep_Pairs.c1_ok k a0 n (iadd .i64 v1 (1:Int)) (v2++[v1])).ap hy)) (fun e7 =>
  fun y hy=>loop_back (sweep_Pairs.cok k) hmix 2 (sweep_Pairs.c1p a0 (iadd .i64 v1 (1:Int)) v2) [tT,rS T4 y5,fF] [] [(0,0),(1,1)] (via (finP (aI (aI (aI (aI tv0 e3) h4) e6) e7) .normal [(0,0),(1,1)] (sweep_Pairs.c1p a0 (iadd .i64 v1 (1:Int)) v2)) (by kernel_rfl)) ((sweep_Pairs.c1_ok k a0 n (iadd .i64 v1 (1:Int)) v2).ap hy))) (fun e3 =>
  oS (loop_exit (sweep_Pairs.cok k) hmix [fF] [] [(0,0),(1,1)] (exne 0) (via (finP (aI tv0 e3) (.exit 0) [(0,0),(1,1)] (sweep_Pairs.c1q a0 v2)) (by kernel_rfl)))))
noncomputable def sweep_Pairs.c4p (a0:(List V133)) (v13 v20:Int) (v21:(List (List Int))) (y11 y18:(List Int)):SL:=⟨[(1,(.val .ptr ⟨0,0,(0:Int),0,0⟩)),(6,(.val .own (1:Nat))),(7,(.val .own (2:Nat))),(9,(.val .ptr ⟨3,0,(0:Int),0,0⟩)),(11,(.val T2 (el (0:Int) y18 v20))),(29,(.val .own (4:Nat))),(30,(.val T2 (len y11))),(31,(.val T2 v13)),(38,(.val .own (1:Nat))),(39,(.val T2 (len y18))),(40,(.val T2 v20))],[(0,.cells (.slice T133) a0),(1,.row T2 y18 3),(2,.row (.arr 2 T2) v21 107),(3,.cells T2 (el (0:Int) y11 v13)),(4,.row T2 y11 3)]⟩
noncomputable def sweep_Pairs.c4q (a0:(List V133)) (v13 v20:Int) (v21:(List (List Int))) (y11 y18:(List Int)) (o:Bool):SL:=(fun v=>⟨[(1,(.val .ptr ⟨0,0,(0:Int),0,0⟩)),(6,(.val .own (1:Nat))),(7,(.val .own (2:Nat))),(9,(.val .ptr ⟨3,0,(0:Int),0,0⟩)),(11,(.val T2 (el (0:Int) y18 v20))),(29,(.val .own (4:Nat))),(30,(.val T2 (len y11))),(31,(.val T2 v13)),(38,(.val .own (1:Nat))),(39,(.val T2 (len y18))),(40,(.val T2 v20)),(71,(.val T4 v))],[(0,.cells (.slice T133) a0),(1,.row T2 y18 3),(2,.row (.arr 2 T2) v21 107),(3,.cells T2 (el (0:Int) y11 v13)),(4,.row T2 y11 3)]⟩) o
noncomputable def sweep_Pairs.c4x (o:Bool):Ex:=(fun _=>.normal) o
noncomputable def sweep_Pairs.c4n (o:Bool):Nat:=(fun _=>5) o
theorem sweep_Pairs.c4_ok (k:Nat) (a0:(List V133)) (v13 v20:Int) (v21:(List (List Int))) (y11 y18:(List Int)):Owp (sweep_Pairs.c4 k a0 v13 v20 y11 y18) fun o=>Triple PR (sweep_Pairs.cx k) (sub sweep_Pairs.code [1,1,1,1,1,1,0,1,0,0,1,1,0,0,1,1,0,1,0,0,1,1,0,0,1,0]) 5 (sweep_Pairs.c4p a0 v13 v20 v21 y11 y18) (sweep_Pairs.c4x o) (sweep_Pairs.c4n o) (sweep_Pairs.c4q a0 v13 v20 v21 y11 y18 o):=by
 unfold sweep_Pairs.c4; exact
  oR fun h24 =>
  oR fun h25 =>
  oF (fun e26 =>
  oS (tW (sweep_Pairs.cok k) hmix [tT,tT,tT,tT,tT,tT,tT,tT,tT,tT,tT,tT,tT,tT] [] [(0,0),(1,1),(2,2),(3,3),(4,4)] (via (finP (aI (aI (aI (aI (aI (aI (aI (aI (aI (aI (aI (aI (aI (aI (aI (aI tv0 h24) h25) e26) e26) (aI e26 h25)) e26) e26) e26) e26) e26) (aI e26 h24)) e26) e26) e26) e26) e26) .normal [(0,0),(1,1),(2,2),(3,3),(4,4)] (sweep_Pairs.c4q a0 v13 v20 v21 y11 y18 (ile (el Z133 a0 (el (0:Int) y11 v13)).1.2.1 (el Z133 a0 (el (0:Int) y18 v20)).2.1.2.1))) (by kernel_rfl)))) (fun e26 =>
  oS (tW (sweep_Pairs.cok k) hmix [fF,fF,fF,fF,fF,fF,fF,fF,fF,fF,fF,fF,fF,fF] [] [(0,0),(1,1),(2,2),(3,3),(4,4)] (via (finP (aI (aI (aI (aI (aI (aI (aI (aI (aI (aI (aI (aI (aI (aI (aI (aI tv0 h24) h25) e26) e26) e26) e26) e26) e26) e26) e26) e26) e26) e26) e26) e26) e26) .normal [(0,0),(1,1),(2,2),(3,3),(4,4)] (sweep_Pairs.c4q a0 v13 v20 v21 y11 y18 false)) (by kernel_rfl))))
noncomputable def sweep_Pairs.c3p (a0:(List V133)) (v13:Int) (y11 y18:(List Int)) (v20:Int) (v21:(List (List Int))):SL:=⟨[(1,(.val .ptr ⟨0,0,(0:Int),0,0⟩)),(6,(.val .own (1:Nat))),(7,(.val .own (2:Nat))),(9,(.val .ptr ⟨3,0,(0:Int),0,0⟩)),(29,(.val .own (4:Nat))),(30,(.val T2 (len y11))),(31,(.val T2 v13)),(38,(.val .own (1:Nat))),(39,(.val T2 (len y18))),(40,(.val T2 v20))],[(0,.cells (.slice T133) a0),(1,.row T2 y18 3),(2,.row (.arr 2 T2) v21 107),(3,.cells T2 (el (0:Int) y11 v13)),(4,.row T2 y11 3)]⟩
noncomputable def sweep_Pairs.c3q (a0:(List V133)) (v13:Int) (y11 y18:(List Int)) (o:(List (List Int))):SL:=(fun v=>⟨[(1,(.val .ptr ⟨0,0,(0:Int),0,0⟩)),(6,(.val .own (1:Nat))),(7,(.val .own (2:Nat))),(9,(.val .ptr ⟨3,0,(0:Int),0,0⟩)),(29,(.val .own (4:Nat))),(30,(.val T2 (len y11))),(31,(.val T2 v13))],[(0,.cells (.slice T133) a0),(1,.row T2 y18 3),(2,.row (.arr 2 T2) v 107),(3,.cells T2 (el (0:Int) y11 v13)),(4,.row T2 y11 3)]⟩) o
noncomputable def sweep_Pairs.c3x (o:(List (List Int))):Ex:=(fun _=>(.exit 4)) o
noncomputable def sweep_Pairs.c3n (o:(List (List Int))):Nat:=(fun _=>5) o
theorem sweep_Pairs.c3_ok (k:Nat) (a0:(List V133)) (v13:Int) (y11 y18:(List Int)):∀ (n:Nat) (v20:Int) (v21:(List (List Int))),Owp (sweep_Pairs.c3 k a0 v13 y11 y18 n v20 v21) fun o=>LTriple PR (sweep_Pairs.cx k) (sub sweep_Pairs.code [1,1,1,1,1,1,0,1,0,0,1,1,0,0,1,1,0,1,0,0]) 5 (sweep_Pairs.c3p a0 v13 y11 y18 v20 v21) (sweep_Pairs.c3x o) (sweep_Pairs.c3n o) (sweep_Pairs.c3q a0 v13 y11 y18 o)
 | 0,_,_=>fun _ h=>nomatch h
 | n+1,v20,v21=>Owp.of (sweep_Pairs.c3.eq_2 ..) (
  oF (fun e22 =>
  oR fun h23 =>
  oB fun o27 e28 =>
  oF (fun e29 =>
  oR fun h30 =>
  fun y hy=>loop_back (sweep_Pairs.cok k) hmix 5 (sweep_Pairs.c3p a0 v13 y11 y18 (iadd .i64 v20 (1:Int)) (v21++[[(imin (el (0:Int) y11 v13) (el (0:Int) y18 v20)),(imax (el (0:Int) y11 v13) (el (0:Int) y18 v20))]])) [tT,.cutR 18 ⟨[],[(0,0),(1,1),(2,2),(3,3),(4,4)],(sweep_Pairs.c4p a0 v13 v20 v21 y11 y18),5,.normal,(sweep_Pairs.c4q a0 v13 v20 v21 y11 y18 o27),5⟩,tT,tT] [] [(0,0),(1,1),(2,14),(3,3),(4,4)] (via (cutP (aI (aI (aI tv0 e22) h23) h23) [(0,0),(1,1),(2,2),(3,3),(4,4)] (sweep_Pairs.c4p a0 v13 v20 v21 y11 y18) (((sweep_Pairs.c4_ok k a0 v13 v20 v21 y11 y18).ap e28)) (finP (aI (aI tv0 e29) h30) .normal [(0,0),(1,1),(2,14),(3,3),(4,4)] (sweep_Pairs.c3p a0 v13 y11 y18 (iadd .i64 v20 (1:Int)) (v21++[[(imin (el (0:Int) y11 v13) (el (0:Int) y18 v20)),(imax (el (0:Int) y11 v13) (el (0:Int) y18 v20))]])))) (by kernel_rfl)) ((sweep_Pairs.c3_ok k a0 v13 y11 y18 n (iadd .i64 v20 (1:Int)) (v21++[[(imin (el (0:Int) y11 v13) (el (0:Int) y18 v20)),(imax (el (0:Int) y11 v13) (el (0:Int) y18 v20))]])).ap hy)) (fun e29 =>
  fun y hy=>loop_back (sweep_Pairs.cok k) hmix 5 (sweep_Pairs.c3p a0 v13 y11 y18 (iadd .i64 v20 (1:Int)) v21) [tT,.cutR 18 ⟨[],[(0,0),(1,1),(2,2),(3,3),(4,4)],(sweep_Pairs.c4p a0 v13 v20 v21 y11 y18),5,.normal,(sweep_Pairs.c4q a0 v13 v20 v21 y11 y18 o27),5⟩,fF] [] [(0,0),(1,1),(2,2),(3,3),(4,4)] (via (cutP (aI (aI (aI tv0 e22) h23) h23) [(0,0),(1,1),(2,2),(3,3),(4,4)] (sweep_Pairs.c4p a0 v13 v20 v21 y11 y18) (((sweep_Pairs.c4_ok k a0 v13 v20 v21 y11 y18).ap e28)) (finP (aI tv0 e29) .normal [(0,0),(1,1),(2,2),(3,3),(4,4)] (sweep_Pairs.c3p a0 v13 y11 y18 (iadd .i64 v20 (1:Int)) v21))) (by kernel_rfl)) ((sweep_Pairs.c3_ok k a0 v13 y11 y18 n (iadd .i64 v20 (1:Int)) v21).ap hy))) (fun e22 =>
  oS (loop_exit (sweep_Pairs.cok k) hmix [fF] [] [(0,0),(1,1),(2,2),(3,3),(4,4)] (exne 4) (via (finP (aI tv0 e22) (.exit 4) [(0,0),(1,1),(2,2),(3,3),(4,4)] (sweep_Pairs.c3q a0 v13 y11 y18 v21)) (by kernel_rfl)))))
noncomputable def sweep_Pairs.c2p (a0:(List V133)) (y11:(List Int)) (v13:Int) (v14:(List Int)) (v15:(List (List Int))):SL:=⟨[(1,(.val .ptr ⟨0,0,(0:Int),0,0⟩)),(6,(.val .own (1:Nat))),(7,(.val .own (2:Nat))),(29,(.val .own (3:Nat))),(30,(.val T2 (len y11))),(31,(.val T2 v13))],[(0,.cells (.slice T133) a0),(1,.row T2 v14 3),(2,.row (.arr 2 T2) v15 107),(3,.row T2 y11 3)]⟩
noncomputable def sweep_Pairs.c2q (o:(List (List Int))):SL:=(fun v=>⟨[(7,(.val .own (0:Nat)))],[(0,.row (.arr 2 T2) v 107)]⟩) o
noncomputable def sweep_Pairs.c2x (o:(List (List Int))):Ex:=(fun _=>(.exit 2)) o
noncomputable def sweep_Pairs.c2n (o:(List (List Int))):Nat:=(fun _=>1) o
theorem sweep_Pairs.c2_ok (k:Nat) (a0:(List V133)) (y11:(List Int)):∀ (n:Nat) (v13:Int) (v14:(List Int)) (v15:(List (List Int))),Owp (sweep_Pairs.c2 k a0 y11 n v13 v14 v15) fun o=>LTriple PR (sweep_Pairs.cx k) (sub sweep_Pairs.code [1,1,1,1,1,1,0,1,0,0]) 4 (sweep_Pairs.c2p a0 y11 v13 v14 v15) (sweep_Pairs.c2x o) (sweep_Pairs.c2n o) (sweep_Pairs.c2q o)
 | 0,_,_,_=>fun _ h=>nomatch h
 | n+1,v13,v14,v15=>Owp.of (sweep_Pairs.c2.eq_2 ..) (
  oF (fun e16 =>
  oR fun h17 =>
  oB fun y18 e19 =>
  oB fun o31 e32 =>
  oR fun h33 =>
  fun y hy=>loop_back (sweep_Pairs.cok k) hmix 4 (sweep_Pairs.c2p a0 y11 (iadd .i64 v13 (1:Int)) (y18++[(el (0:Int) y11 v13)]) o31) [tT,.hres [(0,1)] (.pair (.fn (.pair T2 .unit) T4) (.pair T22 .unit)) ((fun x:(Int × Unit)=>sweep_Pairs_2 k (x.1) a0 (el (0:Int) y11 v13)),v14,()) T22 y18,.cut ⟨[],[(0,0),(1,11),(2,2),(3,7),(4,3)],(sweep_Pairs.c3p a0 v13 y11 y18 (0:Int) v15),5,(.exit 4),(sweep_Pairs.c3q a0 v13 y11 y18 o31),5⟩,tT] [] [(0,0),(1,8),(2,2),(3,4)] (via (cutP (aI (aI (aI (aI tv0 e16) h17) h17) (callHP (slices_DeleteFunc.h k) [(0,1)] ((fun x:(Int × Unit)=>sweep_Pairs_2 k (x.1) a0 (el (0:Int) y11 v13)),v14,()) e19)) [(0,0),(1,11),(2,2),(3,7),(4,3)] (sweep_Pairs.c3p a0 v13 y11 y18 (0:Int) v15) (((sweep_Pairs.c3_ok k a0 v13 y11 y18 k (0:Int) v15).ap e32).triple) (finP (aI tv0 h33) .normal [(0,0),(1,8),(2,2),(3,4)] (sweep_Pairs.c2p a0 y11 (iadd .i64 v13 (1:Int)) (y18++[(el (0:Int) y11 v13)]) o31))) (by kernel_rfl)) ((sweep_Pairs.c2_ok k a0 y11 n (iadd .i64 v13 (1:Int)) (y18++[(el (0:Int) y11 v13)]) o31).ap hy)) (fun e16 =>
  oS (loop_exit (sweep_Pairs.cok k) hmix [fF] [] [(0,2)] (exne 2) (via (finP (aI tv0 e16) (.exit 2) [(0,2)] (sweep_Pairs.c2q v15)) (by kernel_rfl)))))
theorem sweep_Pairs.way (k:Nat) (a0:(List V133)):Owp (sweep_Pairs k a0) fun y=>∃ w c0,exec PR (sweep_Pairs.cx k) sweep_Pairs.code 0 (entry (.pair (.slice T133) .unit) (a0,())).st w (Ret (sweep_Pairs.cx k) Tryz.f80 c0 (.one (.ow (.arr 2 T2) 107)) y):=by
 unfold sweep_Pairs; exact
  oB fun o9 e10 =>
  oB fun y11 e12 =>
  oB fun o34 e35 =>
  oB fun y36 e37 =>
  oS (⟨[.cut ⟨[.own 3 T2 3],[(0,0),(1,6)],(sweep_Pairs.c1p a0 (0:Int) []),2,(.exit 0),(sweep_Pairs.c1q a0 o9),2⟩,.hres [(0,1),(1,0)] (.pair T22 (.pair (.slice T133) .unit)) (o9,a0,()) T22 y11,.cut ⟨[.own 6 T2 3,.own 7 (.arr 2 T2) 107],[(0,0),(1,10),(2,11),(3,1)],(sweep_Pairs.c2p a0 y11 (0:Int) [] []),4,(.exit 2),(sweep_Pairs.c2q o34),1⟩,.hres [(0,0)] (.pair (.slice (.arr 2 T2)) .unit) (o34,()) (.slice (.arr 2 T2)) y36],[],via (cutP tv0 [(0,0),(1,6)] (sweep_Pairs.c1p a0 (0:Int) []) (((sweep_Pairs.c1_ok k a0 k (0:Int) []).ap e10).triple) (cutP (aI tv0 (callHP (slices_SortFunc.h k) [(0,1),(1,0)] (o9,a0,()) e12)) [(0,0),(1,10),(2,11),(3,1)] (sweep_Pairs.c2p a0 y11 (0:Int) [] []) (((sweep_Pairs.c2_ok k a0 y11 k (0:Int) [] []).ap e35).triple) (retP (aI tv0 (callHP (slices_SortFunc_134.h k) [(0,0)] (o34,()) e37)) (.one (.ow (.arr 2 T2) 107)) (y36:(List (List Int)))))) (by kernel_rfl)⟩)
theorem sweep_Pairs.ok (k:Nat):FnOk PR 80 (sweep_Pairs.sp k) :=
 fn_ok (sweep_Pairs.cok k) hmix Tryz.func80 (code:=sweep_Pairs.code) (by kernel_rfl) (by kernel_rfl) (by kernel_rfl) rfl rfl (by kernel_rfl) (by kernel_rfl) (by kernel_rfl) (fun x=>Nat.le_of_ble_eq_true (by kernel_rfl)) fun x y hy=>(sweep_Pairs.way k x.1).ap hy
end Go.Proofs.T1
