import Derived.Test.YtipddonkkhjegaaGreatG0
namespace Go.Proofs.T1
open Go Go.Sx Go.Proofs
set_option maxRecDepth 100000
set_option linter.unusedVariables false
noncomputable def slices_EqualFunc.code:Code:=Func.cd Tryz.f27
def slices_EqualFunc.c1 (k:Nat) (a0 a1:(List V57)) (a2:((V57 × (V57 × Unit))→Option Bool)):Nat→Int→Option (Unit ⊕ Unit)
 | 0,_=>none
 | n+1,v2 =>
  bif' (ilt v2 (len a0))
  (req (inL v2 a0) <|req (inL v2 a1) <|bnd (a2 ((el Z57 a0 v2),(el Z57 a1 v2),())) fun y6 =>
  bif' y6
  (slices_EqualFunc.c1 k a0 a1 a2 n (iadd .i64 v2 1))
  (some (.inl ())))
  (some (.inr ()))
def slices_EqualFunc (k:Nat) (a0 a1:(List V57)) (a2:((V57 × (V57 × Unit))→Option Bool)):Option Bool :=
 bif' (ine (len a0) (len a1))
 (some false)
 (bnd (slices_EqualFunc.c1 k a0 a1 a2 k 0) fun o9 =>
  two o9 (fun y11 =>
  some false) (fun y13 =>
  some true))
noncomputable def slices_EqualFunc.sp (k:Nat):Go.Sx.Spec:=⟨(.pair (.slice T57) (.pair (.slice T57) (.pair (.fn (.pair T57 (.pair T57 .unit)) T4) .unit))),(.one (.dp T4)),fun x=>slices_EqualFunc k x.1 x.2.1 x.2.2.1,false⟩
noncomputable def slices_EqualFunc.cx (k:Nat):Go.Sx.Ctx:=⟨tys,[],eqs,32,0,[],false⟩
theorem slices_EqualFunc.cok (k:Nat):CtxOk PR (slices_EqualFunc.cx k):=ctx_ok tysOk eqsOk FnsOk.nil HsOk.nil
noncomputable def slices_EqualFunc.c1p (a0 a1:(List V57)) (a2:((V57 × (V57 × Unit))→Option Bool)) (v2:Int):SL:=⟨[(1,(.val (.slice T57) a1)),(2,(.val (.fn (.pair T57 (.pair T57 .unit)) T4) a2)),(15,(.val (.slice T57) a0)),(16,(.val T2 (len a0))),(17,(.val T2 v2))],[]⟩
noncomputable def slices_EqualFunc.c1q (o:Unit ⊕ Unit):SL:=(fun o=>two o (fun v=>⟨[(6,(.val T4 false))],[]⟩) (fun v=>⟨[],[]⟩)) o
noncomputable def slices_EqualFunc.c1x (o:Unit ⊕ Unit):Ex:=(fun o=>two o (fun _=>.ret) (fun _=>(.exit 0))) o
noncomputable def slices_EqualFunc.c1n (o:Unit ⊕ Unit):Nat:=(fun o=>two o (fun _=>0) (fun _=>0)) o
theorem slices_EqualFunc.c1_ok (k:Nat) (a0 a1:(List V57)) (a2:((V57 × (V57 × Unit))→Option Bool)):∀ (n:Nat) (v2:Int),Owp (slices_EqualFunc.c1 k a0 a1 a2 n v2) fun o=>LTriple PR (slices_EqualFunc.cx k) (sub slices_EqualFunc.code [1,1,0,1,0,0]) 0 (slices_EqualFunc.c1p a0 a1 a2 v2) (slices_EqualFunc.c1x o) (slices_EqualFunc.c1n o) (slices_EqualFunc.c1q o)
 | 0,_=>fun _ h=>nomatch h
 | n+1,v2=>Owp.of (slices_EqualFunc.c1.eq_2 ..) (
  oF (fun e3 =>
  oR fun h4 =>
  oR fun h5 =>
  oB fun y6 e7 =>
  oF (fun e8 =>
  fun y hy=>loop_back (slices_EqualFunc.cok k) hmix 0 (slices_EqualFunc.c1p a0 a1 a2 (iadd .i64 v2 (1:Int))) [tT,rS T4 y6,fF] [] [] (via (finP (aI (aI (aI (aI (aI tv0 e3) h4) h5) e7) (congrArg not e8)) .normal [] (slices_EqualFunc.c1p a0 a1 a2 (iadd .i64 v2 (1:Int)))) (by kernel_rfl)) ((slices_EqualFunc.c1_ok k a0 a1 a2 n (iadd .i64 v2 (1:Int))).ap hy)) (fun e8 =>
  oS (loop_exit (slices_EqualFunc.cok k) hmix [tT,rS T4 y6,tT] [] [] exne_ret (via (finP (aI (aI (aI (aI (aI tv0 e3) h4) h5) e7) (congrArg not e8)) .ret [] (slices_EqualFunc.c1q (.inl ()))) (by kernel_rfl))))) (fun e3 =>
  oS (loop_exit (slices_EqualFunc.cok k) hmix [fF] [] [] (exne 0) (via (finP (aI tv0 e3) (.exit 0) [] (slices_EqualFunc.c1q (.inr ()))) (by kernel_rfl)))))
theorem slices_EqualFunc.way (k:Nat) (a0 a1:(List V57)) (a2:((V57 × (V57 × Unit))→Option Bool)):Owp (slices_EqualFunc k a0 a1 a2) fun y=>∃ w c0,exec PR (slices_EqualFunc.cx k) slices_EqualFunc.code 0 (entry (.pair (.slice T57) (.pair (.slice T57) (.pair (.fn (.pair T57 (.pair T57 .unit)) T4) .unit))) (a0,a1,a2,())).st w (Ret (slices_EqualFunc.cx k) Tryz.f27 c0 (.one (.dp T4)) y):=by
 unfold slices_EqualFunc; exact
  oF (fun e1 =>
  oS (⟨[tT],[],via (retP (aI tv0 e1) (.one (.dp T4)) (false:Bool)) (by kernel_rfl)⟩)) (fun e1 =>
  oB fun o9 e10 =>
  Owp.two (fun y11 e12 =>
  oS (⟨[fF,.cut ⟨[],[],(slices_EqualFunc.c1p a0 a1 a2 (0:Int)),0,.ret,(slices_EqualFunc.c1q (.inl ())),0⟩],[],via (cutP (aI tv0 e1) [] (slices_EqualFunc.c1p a0 a1 a2 (0:Int)) (((slices_EqualFunc.c1_ok k a0 a1 a2 k (0:Int)).ap (e10.trans (congrArg some e12))).triple) (retP tv0 (.one (.dp T4)) (false:Bool))) (by kernel_rfl)⟩)) (fun y13 e14 =>
  oS (⟨[fF,.cut ⟨[],[],(slices_EqualFunc.c1p a0 a1 a2 (0:Int)),0,(.exit 0),(slices_EqualFunc.c1q (.inr ())),0⟩],[],via (cutP (aI tv0 e1) [] (slices_EqualFunc.c1p a0 a1 a2 (0:Int)) (((slices_EqualFunc.c1_ok k a0 a1 a2 k (0:Int)).ap (e10.trans (congrArg some e14))).triple) (retP tv0 (.one (.dp T4)) (true:Bool))) (by kernel_rfl)⟩)))
theorem slices_EqualFunc.ok (k:Nat):FnOk PR 27 (slices_EqualFunc.sp k) :=
 fn_ok (slices_EqualFunc.cok k) hmix Tryz.func27 (code:=slices_EqualFunc.code) (by kernel_rfl) (by kernel_rfl) (by kernel_rfl) rfl rfl (by kernel_rfl) (by kernel_rfl) (by kernel_rfl) (fun x=>Nat.le_of_ble_eq_true (by kernel_rfl)) fun x y hy=>(slices_EqualFunc.way k x.1 x.2.1 x.2.2.1).ap hy
noncomputable def slices_Clone_52.code:Code:=Func.cd Tryz.f52
def slices_Clone_52 (k:Nat) (a0:(List V26)):Option (List V26) :=
 req (room0 16 a0) <|some a0
noncomputable def slices_Clone_52.sp (k:Nat):Go.Sx.Spec:=⟨(.pair T56 .unit),(.one (.ow T26 27)),fun x=>slices_Clone_52 k x.1,false⟩
noncomputable def slices_Clone_52.cx (k:Nat):Go.Sx.Ctx:=⟨tys,[],eqs,8,0,[],false⟩
theorem slices_Clone_52.cok (k:Nat):CtxOk PR (slices_Clone_52.cx k):=ctx_ok tysOk eqsOk FnsOk.nil HsOk.nil
theorem slices_Clone_52.way (k:Nat) (a0:(List V26)):Owp (slices_Clone_52 k a0) fun y=>∃ w c0,exec PR (slices_Clone_52.cx k) slices_Clone_52.code 0 (entry (.pair T56 .unit) (a0,())).st w (Ret (slices_Clone_52.cx k) Tryz.f52 c0 (.one (.ow T26 27)) y):=by
 unfold slices_Clone_52; exact
  oR fun h1=>match a0,h1 with
  | [],h1=>oS (⟨[.fork [] [tT]],[.own 2 T26 27],via (show (True→(True∧(True∧some (Blk.row T26 ([]:(List V26)) 27)=some (Blk.row T26 ([]:(List V26)) 27))))∧((True∧room0 16 ([]:(List V26)))∧(True∧some (Blk.row T26 ([]:(List V26)) 27)=some (Blk.row T26 ([]:(List V26)) 27))) from ⟨fun _=>⟨tv0,tv0,rfl⟩,⟨tv0,h1⟩,tv0,rfl⟩) (by kernel_rfl)⟩)
  | a :: l,h1=>oS (⟨[fF,tT],[.own 2 T26 27],via (show ((True∧false=false)∧room0 16 (a :: l))∧(True∧some (Blk.row T26 (a :: l:(List V26)) 27)=some (Blk.row T26 (a :: l:(List V26)) 27)) from ⟨⟨⟨tv0,rfl⟩,h1⟩,tv0,rfl⟩) (by kernel_rfl)⟩)
theorem slices_Clone_52.ok (k:Nat):FnOk PR 52 (slices_Clone_52.sp k) :=
 fn_ok (slices_Clone_52.cok k) hmix Tryz.func52 (code:=slices_Clone_52.code) (by kernel_rfl) (by kernel_rfl) (by kernel_rfl) rfl rfl (by kernel_rfl) (by kernel_rfl) (by kernel_rfl) (fun x=>Nat.le_of_ble_eq_true (by kernel_rfl)) fun x y hy=>(slices_Clone_52.way k x.1).ap hy
noncomputable def slices_Equal_58.code:Code:=Func.cd Tryz.f58
def slices_Equal_58.c1 (k:Nat) (a0 a1:(List V26)):Nat→Int→Option (Unit ⊕ Unit)
 | 0,_=>none
 | n+1,v2 =>
  bif' (ilt v2 (len a0))
  (req (inL v2 a0) <|req (inL v2 a1) <|bif' (Ty.eqb T26 (el Z26 a0 v2) (el Z26 a1 v2))
  (slices_Equal_58.c1 k a0 a1 n (iadd .i64 v2 1))
  (some (.inl ())))
  (some (.inr ()))
def slices_Equal_58 (k:Nat) (a0 a1:(List V26)):Option Bool :=
 bif' (ine (len a0) (len a1))
 (some false)
 (bnd (slices_Equal_58.c1 k a0 a1 k 0) fun o7 =>
  two o7 (fun y9 =>
  some false) (fun y11 =>
  some true))
noncomputable def slices_Equal_58.sp (k:Nat):Go.Sx.Spec:=⟨(.pair T56 (.pair T56 .unit)),(.one (.dp T4)),fun x=>slices_Equal_58 k x.1 x.2.1,false⟩
noncomputable def slices_Equal_58.cx (k:Nat):Go.Sx.Ctx:=⟨tys,[],eqs,26,0,[],false⟩
theorem slices_Equal_58.cok (k:Nat):CtxOk PR (slices_Equal_58.cx k):=ctx_ok tysOk eqsOk FnsOk.nil HsOk.nil
noncomputable def slices_Equal_58.c1p (a0 a1:(List V26)) (v2:Int):SL:=⟨[(0,(.val T56 a0)),(1,(.val T56 a1)),(12,(.val T2 (len a0))),(13,(.val T2 v2))],[]⟩
noncomputable def slices_Equal_58.c1q (o:Unit ⊕ Unit):SL:=(fun o=>two o (fun v=>⟨[(4,(.val T4 false))],[]⟩) (fun v=>⟨[],[]⟩)) o
noncomputable def slices_Equal_58.c1x (o:Unit ⊕ Unit):Ex:=(fun o=>two o (fun _=>.ret) (fun _=>(.exit 0))) o
noncomputable def slices_Equal_58.c1n (o:Unit ⊕ Unit):Nat:=(fun o=>two o (fun _=>0) (fun _=>0)) o
theorem slices_Equal_58.c1_ok (k:Nat) (a0 a1:(List V26)):∀ (n:Nat) (v2:Int),Owp (slices_Equal_58.c1 k a0 a1 n v2) fun o=>LTriple PR (slices_Equal_58.cx k) (sub slices_Equal_58.code [1,1,0,1,0,0]) 0 (slices_Equal_58.c1p a0 a1 v2) (slices_Equal_58.c1x o) (slices_Equal_58.c1n o) (slices_Equal_58.c1q o)
 | 0,_=>fun _ h=>nomatch h
 | n+1,v2=>Owp.of (slices_Equal_58.c1.eq_2 ..) (
  oF (fun e3 =>
  oR fun h4 =>
  oR fun h5 =>
  oF (fun e6 =>
  fun y hy=>loop_back (slices_Equal_58.cok k) hmix 0 (slices_Equal_58.c1p a0 a1 (iadd .i64 v2 (1:Int))) [tT,fF] [] [] (via (finP (aI (aI (aI (aI tv0 e3) h4) h5) (congrArg not e6)) .normal [] (slices_Equal_58.c1p a0 a1 (iadd .i64 v2 (1:Int)))) (by kernel_rfl)) ((slices_Equal_58.c1_ok k a0 a1 n (iadd .i64 v2 (1:Int))).ap hy)) (fun e6 =>
  oS (loop_exit (slices_Equal_58.cok k) hmix [tT,tT] [] [] exne_ret (via (finP (aI (aI (aI (aI tv0 e3) h4) h5) (congrArg not e6)) .ret [] (slices_Equal_58.c1q (.inl ()))) (by kernel_rfl))))) (fun e3 =>
  oS (loop_exit (slices_Equal_58.cok k) hmix [fF] [] [] (exne 0) (via (finP (aI tv0 e3) (.exit 0) [] (slices_Equal_58.c1q (.inr ()))) (by kernel_rfl)))))
theorem slices_Equal_58.way (k:Nat) (a0 a1:(List V26)):Owp (slices_Equal_58 k a0 a1) fun y=>∃ w c0,exec PR (slices_Equal_58.cx k) slices_Equal_58.code 0 (entry (.pair T56 (.pair T56 .unit)) (a0,a1,())).st w (Ret (slices_Equal_58.cx k) Tryz.f58 c0 (.one (.dp T4)) y):=by
 unfold slices_Equal_58; exact
  oF (fun e1 =>
  oS (⟨[tT],[],via (retP (aI tv0 e1) (.one (.dp T4)) (false:Bool)) (by kernel_rfl)⟩)) (fun e1 =>
  oB fun o7 e8 =>
  Owp.two (fun y9 e10 =>
  oS (⟨[fF,.cut ⟨[],[],(slices_Equal_58.c1p a0 a1 (0:Int)),0,.ret,(slices_Equal_58.c1q (.inl ())),0⟩],[],via (cutP (aI tv0 e1) [] (slices_Equal_58.c1p a0 a1 (0:Int)) (((slices_Equal_58.c1_ok k a0 a1 k (0:Int)).ap (e8.trans (congrArg some e10))).triple) (retP tv0 (.one (.dp T4)) (false:Bool))) (by kernel_rfl)⟩)) (fun y11 e12 =>
  oS (⟨[fF,.cut ⟨[],[],(slices_Equal_58.c1p a0 a1 (0:Int)),0,(.exit 0),(slices_Equal_58.c1q (.inr ())),0⟩],[],via (cutP (aI tv0 e1) [] (slices_Equal_58.c1p a0 a1 (0:Int)) (((slices_Equal_58.c1_ok k a0 a1 k (0:Int)).ap (e8.trans (congrArg some e12))).triple) (retP tv0 (.one (.dp T4)) (true:Bool))) (by kernel_rfl)⟩)))
theorem slices_Equal_58.ok (k:Nat):FnOk PR 58 (slices_Equal_58.sp k) :=
 fn_ok (slices_Equal_58.cok k) hmix Tryz.func58 (code:=slices_Equal_58.code) (by kernel_rfl) (by kernel_rfl) (by kernel_rfl) rfl rfl (by kernel_rfl) (by kernel_rfl) (by kernel_rfl) (fun x=>Nat.le_of_ble_eq_true (by kernel_rfl)) fun x y hy=>(slices_Equal_58.way k x.1 x.2.1).ap hy
noncomputable def tourkeep2_square.code:Code:=Func.cd Tryz.f81
def tourkeep2_square (k:Nat) (a0 a1 a2:Int):Option (List V26) :=
 some [((isub .i64 (imul .i64 a0 65536) (imul .i64 a2 65536)),(isub .i64 (imul .i64 a1 65536) (imul .i64 a2 65536)),()),((iadd .i64 (imul .i64 a0 65536) (imul .i64 a2 65536)),(isub .i64 (imul .i64 a1 65536) (imul .i64 a2 65536)),()),((iadd .i64 (imul .i64 a0 65536) (imul .i64 a2 65536)),(iadd .i64 (imul .i64 a1 65536) (imul .i64 a2 65536)),()),((isub .i64 (imul .i64 a0 65536) (imul .i64 a2 65536)),(iadd .i64 (imul .i64 a1 65536) (imul .i64 a2 65536)),())]
noncomputable def tourkeep2_square.sp (k:Nat):Go.Sx.Spec:=⟨(.pair T2 T26),(.one (.ow T26 27)),fun x=>tourkeep2_square k x.1 x.2.1 x.2.2.1,false⟩
noncomputable def tourkeep2_square.cx (k:Nat):Go.Sx.Ctx:=⟨tys,[],eqs,42,0,[],false⟩
theorem tourkeep2_square.cok (k:Nat):CtxOk PR (tourkeep2_square.cx k):=ctx_ok tysOk eqsOk FnsOk.nil HsOk.nil
theorem tourkeep2_square.way (k:Nat) (a0 a1 a2:Int):Owp (tourkeep2_square k a0 a1 a2) fun y=>∃ w c0,exec PR (tourkeep2_square.cx k) tourkeep2_square.code 0 (entry (.pair T2 T26) (a0,a1,a2,())).st w (Ret (tourkeep2_square.cx k) Tryz.f81 c0 (.one (.ow T26 27)) y):=by
 unfold tourkeep2_square; exact
  oS (⟨[tT],[],via (retP tv0 (.one (.ow T26 27)) ([((isub .i64 (imul .i64 a0 (65536:Int)) (imul .i64 a2 (65536:Int))),(isub .i64 (imul .i64 a1 (65536:Int)) (imul .i64 a2 (65536:Int))),()),((iadd .i64 (imul .i64 a0 (65536:Int)) (imul .i64 a2 (65536:Int))),(isub .i64 (imul .i64 a1 (65536:Int)) (imul .i64 a2 (65536:Int))),()),((iadd .i64 (imul .i64 a0 (65536:Int)) (imul .i64 a2 (65536:Int))),(iadd .i64 (imul .i64 a1 (65536:Int)) (imul .i64 a2 (65536:Int))),()),((isub .i64 (imul .i64 a0 (65536:Int)) (imul .i64 a2 (65536:Int))),(iadd .i64 (imul .i64 a1 (65536:Int)) (imul .i64 a2 (65536:Int))),())]:(List V26))) (by kernel_rfl)⟩)
theorem tourkeep2_square.ok (k:Nat):FnOk PR 81 (tourkeep2_square.sp k) :=
 fn_ok (tourkeep2_square.cok k) hmix Tryz.func81 (code:=tourkeep2_square.code) (by kernel_rfl) (by kernel_rfl) (by kernel_rfl) rfl rfl (by kernel_rfl) (by kernel_rfl) (by kernel_rfl) (fun x=>Nat.le_of_ble_eq_true (by kernel_rfl)) fun x y hy=>(tourkeep2_square.way k x.1 x.2.1 x.2.2.1).ap hy
end Go.Proofs.T1
