import Derived.Test.YthpbadopmihmpaaGreatG0
import Derived.Test.YthpbadopmihmpaaGreatG3
import Derived.Test.YthpbadopmihmpaaGreatG5
import Derived.Test.YthpbadopmihmpaaGreatG6
import Derived.Test.YthpbadopmihmpaaGreatG7
namespace Go.Proofs.T1
open Go Go.Sx Go.Proofs
set_option maxRecDepth 100000
set_option linter.unusedVariables false
noncomputable def keep_Check.code:Code:=Func.cd Tryz.f13
noncomputable def keep_Check.c1 (k:Nat) (a0:(List V45)):Nat→Int→Option (Int ⊕ Unit)
 | 0,_=>none
 | n+1,v2 =>
  bif' (ilt v2 (len a0))
  (req (inL v2 a0) <|bnd (body_Check k (el Z45 a0 v2)) fun y5 =>
  bif' (ine y5 0)
  (some (.inl y5))
  (keep_Check.c1 k a0 n (iadd .i64 v2 1)))
  (some (.inr ()))
noncomputable def keep_Check (k:Nat) (a0:(List V45)):Option Int :=
 bif' (igt (len a0) 64)
 (some 2)
 (bnd (keep_Check.c1 k a0 k 0) fun o8 =>
  two o8 (fun y10 =>
  some y10) (fun y12 =>
  some 0))
noncomputable def keep_Check.sp (k:Nat):Go.Sx.Spec:=⟨(.pair (.slice T45) .unit),(.one (.dp T2)),fun x=>keep_Check k x.1,false⟩
noncomputable def keep_Check.cx (k:Nat):Go.Sx.Ctx:=⟨tys,[(25,body_Check.sp k)],eqs,21,0,[],false⟩
theorem keep_Check.cok (k:Nat):CtxOk PR (keep_Check.cx k):=ctx_ok tysOk eqsOk (fC (body_Check.ok k) FnsOk.nil) HsOk.nil
noncomputable def keep_Check.c1p (a0:(List V45)) (v2:Int):SL:=⟨[(9,(.val (.slice T45) a0)),(10,(.val T2 (len a0))),(11,(.val T2 v2))],[]⟩
noncomputable def keep_Check.c1q (o:Int ⊕ Unit):SL:=(fun o=>two o (fun v=>⟨[(2,(.val T2 v))],[]⟩) (fun v=>⟨[],[]⟩)) o
noncomputable def keep_Check.c1x (o:Int ⊕ Unit):Ex:=(fun o=>two o (fun _=>.ret) (fun _=>(.exit 0))) o
noncomputable def keep_Check.c1n (o:Int ⊕ Unit):Nat:=(fun o=>two o (fun _=>0) (fun _=>0)) o
theorem keep_Check.c1_ok (k:Nat) (a0:(List V45)):∀ (n:Nat) (v2:Int),Owp (keep_Check.c1 k a0 n v2) fun o=>LTriple PR (keep_Check.cx k) (sub keep_Check.code [1,1,0,1,0,0]) 0 (keep_Check.c1p a0 v2) (keep_Check.c1x o) (keep_Check.c1n o) (keep_Check.c1q o)
 | 0,_=>fun _ h=>nomatch h
 | n+1,v2=>Owp.of (keep_Check.c1.eq_2 ..) (
  oF (fun e3 =>
  oR fun h4 =>
  oB fun y5 e6 =>
  oF (fun e7 =>
  oS (loop_exit (keep_Check.cok k) hmix [tT,rS T2 y5,tT] [] [] exne_ret (via (finP (aI (aI (aI (aI tv0 e3) h4) e6) e7) .ret [] (keep_Check.c1q (.inl y5))) (by kernel_rfl)))) (fun e7 =>
  fun y hy=>loop_back (keep_Check.cok k) hmix 0 (keep_Check.c1p a0 (iadd .i64 v2 (1:Int))) [tT,rS T2 y5,fF] [] [] (via (finP (aI (aI (aI (aI tv0 e3) h4) e6) e7) .normal [] (keep_Check.c1p a0 (iadd .i64 v2 (1:Int)))) (by kernel_rfl)) ((keep_Check.c1_ok k a0 n (iadd .i64 v2 (1:Int))).ap hy))) (fun e3 =>
  oS (loop_exit (keep_Check.cok k) hmix [fF] [] [] (exne 0) (via (finP (aI tv0 e3) (.exit 0) [] (keep_Check.c1q (.inr ()))) (by kernel_rfl)))))
theorem keep_Check.way (k:Nat) (a0:(List V45)):Owp (keep_Check k a0) fun y=>∃ w c0,exec PR (keep_Check.cx k) keep_Check.code 0 (entry (.pair (.slice T45) .unit) (a0,())).st w (Ret (keep_Check.cx k) Tryz.f13 c0 (.one (.dp T2)) y):=by
 unfold keep_Check; exact
  oF (fun e1 =>
  oS (⟨[tT],[],via (retP (aI tv0 e1) (.one (.dp T2)) ((2:Int):Int)) (by kernel_rfl)⟩)) (fun e1 =>
  oB fun o8 e9 =>
  Owp.two (fun y10 e11 =>
  oS (⟨[fF,.cut ⟨[],[],(keep_Check.c1p a0 (0:Int)),0,.ret,(keep_Check.c1q (.inl y10)),0⟩],[],via (cutP (aI tv0 e1) [] (keep_Check.c1p a0 (0:Int)) (((keep_Check.c1_ok k a0 k (0:Int)).ap (e9.trans (congrArg some e11))).triple) (retP tv0 (.one (.dp T2)) (y10:Int))) (by kernel_rfl)⟩)) (fun y12 e13 =>
  oS (⟨[fF,.cut ⟨[],[],(keep_Check.c1p a0 (0:Int)),0,(.exit 0),(keep_Check.c1q (.inr ())),0⟩],[],via (cutP (aI tv0 e1) [] (keep_Check.c1p a0 (0:Int)) (((keep_Check.c1_ok k a0 k (0:Int)).ap (e9.trans (congrArg some e13))).triple) (retP tv0 (.one (.dp T2)) ((0:Int):Int))) (by kernel_rfl)⟩)))
theorem keep_Check.ok (k:Nat):FnOk PR 13 (keep_Check.sp k) :=
 fn_ok (keep_Check.cok k) hmix Tryz.func13 (code:=keep_Check.code) (by kernel_rfl) (by kernel_rfl) (by kernel_rfl) rfl rfl (by kernel_rfl) (by kernel_rfl) (by kernel_rfl) (fun x=>Nat.le_of_ble_eq_true (by kernel_rfl)) fun x y hy=>(keep_Check.way k x.1).ap hy
noncomputable def slices_IndexFunc_148.code:Code:=Func.cd Tryz.f148
noncomputable def slices_IndexFunc_148.c1 (k:Nat) (a0:(List (List Int))) (a1:(((List Int) × Unit)→Option Bool)):Nat→Int→Option (Int ⊕ Unit)
 | 0,_=>none
 | n+1,v1 =>
  bif' (ilt v1 (len a0))
  (req (inL v1 a0) <|bnd (a1 ((el (List.replicate 2 0) a0 v1),())) fun y4 =>
  bif' y4
  (some (.inl v1))
  (slices_IndexFunc_148.c1 k a0 a1 n (iadd .i64 v1 1)))
  (some (.inr ()))
noncomputable def slices_IndexFunc_148 (k:Nat) (a0:(List (List Int))) (a1:(((List Int) × Unit)→Option Bool)):Option Int :=
 bnd (slices_IndexFunc_148.c1 k a0 a1 k 0) fun o7 =>
 two o7 (fun y9 =>
 some y9) (fun y11 =>
 some (-1))
noncomputable def slices_IndexFunc_148.sp (k:Nat):Go.Sx.Spec:=⟨(.pair (.slice (.arr 2 T2)) (.pair (.fn (.pair (.arr 2 T2) .unit) T4) .unit)),(.one (.dp T2)),fun x=>slices_IndexFunc_148 k x.1 x.2.1,false⟩
noncomputable def slices_IndexFunc_148.cx (k:Nat):Go.Sx.Ctx:=⟨tys,[],eqs,19,0,[],false⟩
theorem slices_IndexFunc_148.cok (k:Nat):CtxOk PR (slices_IndexFunc_148.cx k):=ctx_ok tysOk eqsOk FnsOk.nil HsOk.nil
noncomputable def slices_IndexFunc_148.c1p (a0:(List (List Int))) (a1:(((List Int) × Unit)→Option Bool)) (v1:Int):SL:=⟨[(0,(.val (.slice (.arr 2 T2)) a0)),(1,(.val (.fn (.pair (.arr 2 T2) .unit) T4) a1)),(7,(.val T2 (len a0))),(8,(.val T2 v1))],[]⟩
noncomputable def slices_IndexFunc_148.c1q (o:Int ⊕ Unit):SL:=(fun o=>two o (fun v=>⟨[(4,(.val T2 v))],[]⟩) (fun v=>⟨[],[]⟩)) o
noncomputable def slices_IndexFunc_148.c1x (o:Int ⊕ Unit):Ex:=(fun o=>two o (fun _=>.ret) (fun _=>(.exit 0))) o
noncomputable def slices_IndexFunc_148.c1n (o:Int ⊕ Unit):Nat:=(fun o=>two o (fun _=>0) (fun _=>0)) o
theorem slices_IndexFunc_148.c1_ok (k:Nat) (a0:(List (List Int))) (a1:(((List Int) × Unit)→Option Bool)):∀ (n:Nat) (v1:Int),Owp (slices_IndexFunc_148.c1 k a0 a1 n v1) fun o=>LTriple PR (slices_IndexFunc_148.cx k) (sub slices_IndexFunc_148.code [1,0,1,0,0]) 0 (slices_IndexFunc_148.c1p a0 a1 v1) (slices_IndexFunc_148.c1x o) (slices_IndexFunc_148.c1n o) (slices_IndexFunc_148.c1q o)
 | 0,_=>fun _ h=>nomatch h
 | n+1,v1=>Owp.of (slices_IndexFunc_148.c1.eq_2 ..) (
  oF (fun e2 =>
  oR fun h3 =>
  oB fun y4 e5 =>
  oF (fun e6 =>
  oS (loop_exit (slices_IndexFunc_148.cok k) hmix [tT,rS T4 y4,tT] [] [] exne_ret (via (finP (aI (aI (aI (aI tv0 e2) h3) e5) e6) .ret [] (slices_IndexFunc_148.c1q (.inl v1))) (by kernel_rfl)))) (fun e6 =>
  fun y hy=>loop_back (slices_IndexFunc_148.cok k) hmix 0 (slices_IndexFunc_148.c1p a0 a1 (iadd .i64 v1 (1:Int))) [tT,rS T4 y4,fF] [] [] (via (finP (aI (aI (aI (aI tv0 e2) h3) e5) e6) .normal [] (slices_IndexFunc_148.c1p a0 a1 (iadd .i64 v1 (1:Int)))) (by kernel_rfl)) ((slices_IndexFunc_148.c1_ok k a0 a1 n (iadd .i64 v1 (1:Int))).ap hy))) (fun e2 =>
  oS (loop_exit (slices_IndexFunc_148.cok k) hmix [fF] [] [] (exne 0) (via (finP (aI tv0 e2) (.exit 0) [] (slices_IndexFunc_148.c1q (.inr ()))) (by kernel_rfl)))))
theorem slices_IndexFunc_148.way (k:Nat) (a0:(List (List Int))) (a1:(((List Int) × Unit)→Option Bool)):Owp (slices_IndexFunc_148 k a0 a1) fun y=>∃ w c0,exec PR (slices_IndexFunc_148.cx k) slices_IndexFunc_148.code 0 (entry (.pair (.slice (.arr 2 T2)) (.pair (.fn (.pair (.arr 2 T2) .unit) T4) .unit)) (a0,a1,())).st w (Ret (slices_IndexFunc_148.cx k) Tryz.f148 c0 (.one (.dp T2)) y):=by
 unfold slices_IndexFunc_148; exact
  oB fun o7 e8 =>
  Owp.two (fun y9 e10 =>
  oS (⟨[.cut ⟨[],[],(slices_IndexFunc_148.c1p a0 a1 (0:Int)),0,.ret,(slices_IndexFunc_148.c1q (.inl y9)),0⟩],[],via (cutP tv0 [] (slices_IndexFunc_148.c1p a0 a1 (0:Int)) (((slices_IndexFunc_148.c1_ok k a0 a1 k (0:Int)).ap (e8.trans (congrArg some e10))).triple) (retP tv0 (.one (.dp T2)) (y9:Int))) (by kernel_rfl)⟩)) (fun y11 e12 =>
  oS (⟨[.cut ⟨[],[],(slices_IndexFunc_148.c1p a0 a1 (0:Int)),0,(.exit 0),(slices_IndexFunc_148.c1q (.inr ())),0⟩],[],via (cutP tv0 [] (slices_IndexFunc_148.c1p a0 a1 (0:Int)) (((slices_IndexFunc_148.c1_ok k a0 a1 k (0:Int)).ap (e8.trans (congrArg some e12))).triple) (retP tv0 (.one (.dp T2)) ((-1:Int):Int))) (by kernel_rfl)⟩))
theorem slices_IndexFunc_148.ok (k:Nat):FnOk PR 148 (slices_IndexFunc_148.sp k) :=
 fn_ok (slices_IndexFunc_148.cok k) hmix Tryz.func148 (code:=slices_IndexFunc_148.code) (by kernel_rfl) (by kernel_rfl) (by kernel_rfl) rfl rfl (by kernel_rfl) (by kernel_rfl) (by kernel_rfl) (fun x=>Nat.le_of_ble_eq_true (by kernel_rfl)) fun x y hy=>(slices_IndexFunc_148.way k x.1 x.2.1).ap hy
noncomputable def keep_Pairs_1.code:Code:=Func.cd Tryz.f105
noncomputable def keep_Pairs_1 (k:Nat) (a0:(List Int)) (a1:(List V45)):Option Bool :=
 req (inL (el 0 a0 0) a1) <|bif' (ieq (el Z45 a1 (el 0 a0 0)).2.2.2.2.1 0)
 (req (inL (el 0 a0 1) a1) <|some (ieq (el Z45 a1 (el 0 a0 1)).2.2.2.2.1 0))
 (some false)
noncomputable def keep_Pairs_1.sp (k:Nat):Go.Sx.Spec:=⟨(.pair (.arr 2 T2) (.pair (.ref (.slice T45)) .unit)),(.one (.dp T4)),fun x=>keep_Pairs_1 k x.1 x.2.1,false⟩
noncomputable def keep_Pairs_1.cx (k:Nat):Go.Sx.Ctx:=⟨tys,[],eqs,20,0,[],false⟩
theorem keep_Pairs_1.cok (k:Nat):CtxOk PR (keep_Pairs_1.cx k):=ctx_ok tysOk eqsOk FnsOk.nil HsOk.nil
theorem keep_Pairs_1.way (k:Nat) (a0:(List Int)) (a1:(List V45)):Owp (keep_Pairs_1 k a0 a1) fun y=>∃ w c0,exec PR (keep_Pairs_1.cx k) keep_Pairs_1.code 0 (entry (.pair (.arr 2 T2) (.pair (.ref (.slice T45)) .unit)) (a0,a1,())).st w (Ret (keep_Pairs_1.cx k) Tryz.f105 c0 (.one (.dp T4)) y):=by
 unfold keep_Pairs_1; exact
  oR fun h1 =>
  oF (fun e2 =>
  oR fun h3 =>
  oS (⟨[tT,tT,tT,tT,tT,tT,tT,tT],[],via (retP (aI (aI (aI (aI (aI (aI (aI (aI (aI (aI (aI tv0 (by decide:inR (0:Int) 2)) (by decide:inR (0:Int) 2)) h1) e2) (aI e2 (by decide:inR (1:Int) 2))) (aI e2 (by decide:inR (1:Int) 2))) (aI e2 h3)) e2) e2) e2) e2) (.one (.dp T4)) ((ieq (el Z45 a1 (el (0:Int) a0 (1:Int))).2.2.2.2.1 (0:Int)):Bool)) (by kernel_rfl)⟩)) (fun e2 =>
  oS (⟨[fF,fF,fF,fF,fF,fF,fF,fF],[],via (retP (aI (aI (aI (aI (aI (aI (aI (aI (aI (aI (aI tv0 (by decide:inR (0:Int) 2)) (by decide:inR (0:Int) 2)) h1) e2) e2) e2) e2) e2) e2) e2) e2) (.one (.dp T4)) (false:Bool)) (by kernel_rfl)⟩))
theorem keep_Pairs_1.ok (k:Nat):FnOk PR 105 (keep_Pairs_1.sp k) :=
 fn_ok (keep_Pairs_1.cok k) hmix Tryz.func105 (code:=keep_Pairs_1.code) (by kernel_rfl) (by kernel_rfl) (by kernel_rfl) rfl rfl (by kernel_rfl) (by kernel_rfl) (by kernel_rfl) (fun x=>Nat.le_of_ble_eq_true (by kernel_rfl)) fun x y hy=>(keep_Pairs_1.way k x.1 x.2.1).ap hy
noncomputable def slices_DeleteFunc_104.code:Code:=Func.cd Tryz.f104
noncomputable def slices_DeleteFunc_104.c2 (k:Nat) (v4 v5:Int) (v6:(List (List Int))) (y9:Bool):Option ((Int × (List (List Int)))) :=
 bif' y9
 (some (v4,v6))
 (req (inL v4 v6) <|some ((iadd .i64 v4 1),(st v6 v4 (el (List.replicate 2 0) v6 v5))))
noncomputable def slices_DeleteFunc_104.c1 (k:Nat) (a1:(((List Int) × Unit)→Option Bool)):Nat→Int→Int→(List (List Int))→Option ((Int × (List (List Int))))
 | 0,_,_,_=>none
 | n+1,v4,v5,v6 =>
  bif' (ilt v5 (len v6))
  (req (inL v5 v6) <|bnd (a1 ((el (List.replicate 2 0) v6 v5),())) fun y9 =>
  bnd (slices_DeleteFunc_104.c2 k v4 v5 v6 y9) fun o13 =>
  slices_DeleteFunc_104.c1 k a1 n o13.1 (iadd .i64 v5 1) o13.2)
  (some (v4,v6))
noncomputable def slices_DeleteFunc_104 (k:Nat) (a1:(((List Int) × Unit)→Option Bool)) (r0:(List (List Int))):Option (List (List Int)) :=
 bnd (slices_IndexFunc_148 k r0 a1) fun y1 =>
 bif' (ieq y1 (-1))
 (some r0)
 (bnd (slices_DeleteFunc_104.c1 k a1 k y1 (iadd .i64 y1 1) r0) fun o15 =>
  req (sufIn o15.1 (List.length o15.2)) <|req (Int.toNat o15.1≤List.length o15.2) <|req (tkOk (clr (List.replicate 2 0) o15.2 (Int.toNat o15.1)) o15.1) <|some (tk (clr (List.replicate 2 0) o15.2 (Int.toNat o15.1)) o15.1))
noncomputable def slices_DeleteFunc_104.h (k:Nat):Go.Sx.HSp:=⟨(.pair (.fn (.pair (.arr 2 T2) .unit) T4) (.pair (.slice (.arr 2 T2)) .unit)),(.slice (.arr 2 T2)),1,fun x=>[.lent (.val .own (0:Nat)),.dat (.fn (.pair (.arr 2 T2) .unit) T4) x.1],fun x=>[(0,.row (.arr 2 T2) x.2.1 107)],fun x=>slices_DeleteFunc_104 k x.1 x.2.1,fun x y=>[(0,.row (.arr 2 T2) y 107)],.none,fun y=>(),false,true⟩
noncomputable def slices_DeleteFunc_104.cx (k:Nat):Go.Sx.Ctx:=⟨tys,[(148,slices_IndexFunc_148.sp k)],eqs,42,0,[],false⟩
theorem slices_DeleteFunc_104.cok (k:Nat):CtxOk PR (slices_DeleteFunc_104.cx k):=ctx_ok tysOk eqsOk (fC (slices_IndexFunc_148.ok k) FnsOk.nil) HsOk.nil
noncomputable def slices_DeleteFunc_104.c2p (a1:(((List Int) × Unit)→Option Bool)) (v4 v5:Int) (v6:(List (List Int))) (y9:Bool):SL:=⟨[(0,(.val .own (0:Nat))),(1,(.val (.fn (.pair (.arr 2 T2) .unit) T4) a1)),(5,(.val T2 v4)),(6,(.val T2 v5)),(7,(.val .ptr ⟨1,0,(0:Int),0,0⟩)),(29,(.val T4 (!y9)))],[(0,.row (.arr 2 T2) v6 107),(1,.cells (.arr 2 T2) (el (List.replicate 2 (0:Int)) v6 v5))]⟩
noncomputable def slices_DeleteFunc_104.c2q (a1:(((List Int) × Unit)→Option Bool)) (v5:Int) (o:(Int × (List (List Int)))):SL:=(fun v=>⟨[(0,(.val .own (0:Nat))),(1,(.val (.fn (.pair (.arr 2 T2) .unit) T4) a1)),(5,(.val T2 v.1)),(6,(.val T2 v5))],[(0,.row (.arr 2 T2) v.2 107)]⟩) o
noncomputable def slices_DeleteFunc_104.c2x (o:(Int × (List (List Int)))):Ex:=(fun _=>.normal) o
noncomputable def slices_DeleteFunc_104.c2n (o:(Int × (List (List Int)))):Nat:=(fun _=>1) o
theorem slices_DeleteFunc_104.c2_ok (k:Nat) (a1:(((List Int) × Unit)→Option Bool)) (v4 v5:Int) (v6:(List (List Int))) (y9:Bool):Owp (slices_DeleteFunc_104.c2 k v4 v5 v6 y9) fun o=>Triple PR (slices_DeleteFunc_104.cx k) (sub slices_DeleteFunc_104.code [1,1,1,0,1,0,0,1,0,0,1,1]) 2 (slices_DeleteFunc_104.c2p a1 v4 v5 v6 y9) (slices_DeleteFunc_104.c2x o) (slices_DeleteFunc_104.c2n o) (slices_DeleteFunc_104.c2q a1 v5 o):=by
 unfold slices_DeleteFunc_104.c2; exact
  oF (fun e11 =>
  oS (tW (slices_DeleteFunc_104.cok k) hmix [fF] [] [(0,0)] (via (finP (aI tv0 (congrArg not e11)) .normal [(0,0)] (slices_DeleteFunc_104.c2q a1 v5 (v4,v6))) (by kernel_rfl)))) (fun e11 =>
  oR fun h12 =>
  oS (tW (slices_DeleteFunc_104.cok k) hmix [tT] [] [(0,0)] (via (finP (aI (aI (aI tv0 (congrArg not e11)) h12) h12) .normal [(0,0)] (slices_DeleteFunc_104.c2q a1 v5 ((iadd .i64 v4 (1:Int)),(st v6 v4 (el (List.replicate 2 (0:Int)) v6 v5))))) (by kernel_rfl))))
noncomputable def slices_DeleteFunc_104.c1p (a1:(((List Int) × Unit)→Option Bool)) (v4 v5:Int) (v6:(List (List Int))):SL:=⟨[(0,(.val .own (0:Nat))),(1,(.val (.fn (.pair (.arr 2 T2) .unit) T4) a1)),(5,(.val T2 v4)),(6,(.val T2 v5))],[(0,.row (.arr 2 T2) v6 107)]⟩
noncomputable def slices_DeleteFunc_104.c1q (o:(Int × (List (List Int)))):SL:=(fun v=>⟨[(0,(.val .own (0:Nat))),(5,(.val T2 v.1))],[(0,.row (.arr 2 T2) v.2 107)]⟩) o
noncomputable def slices_DeleteFunc_104.c1x (o:(Int × (List (List Int)))):Ex:=(fun _=>(.exit 0)) o
noncomputable def slices_DeleteFunc_104.c1n (o:(Int × (List (List Int)))):Nat:=(fun _=>1) o
theorem slices_DeleteFunc_104.c1_ok (k:Nat) (a1:(((List Int) × Unit)→Option Bool)):∀ (n:Nat) (v4 v5:Int) (v6:(List (List Int))),Owp (slices_DeleteFunc_104.c1 k a1 n v4 v5 v6) fun o=>LTriple PR (slices_DeleteFunc_104.cx k) (sub slices_DeleteFunc_104.code [1,1,1,0,1,0,0]) 1 (slices_DeleteFunc_104.c1p a1 v4 v5 v6) (slices_DeleteFunc_104.c1x o) (slices_DeleteFunc_104.c1n o) (slices_DeleteFunc_104.c1q o)
 | 0,_,_,_=>fun _ h=>nomatch h
 | n+1,v4,v5,v6=>Owp.of (slices_DeleteFunc_104.c1.eq_2 ..) (
  oF (fun e7 =>
  oR fun h8 =>
  oB fun y9 e10 =>
  oB fun o13 e14 =>
  fun y hy=>loop_back (slices_DeleteFunc_104.cok k) hmix 1 (slices_DeleteFunc_104.c1p a1 o13.1 (iadd .i64 v5 (1:Int)) o13.2) [tT,rS T4 y9,.cut ⟨[],[(0,0),(1,9)],(slices_DeleteFunc_104.c2p a1 v4 v5 v6 y9),2,.normal,(slices_DeleteFunc_104.c2q a1 v5 o13),1⟩] [] [(0,0)] (via (cutP (aI (aI (aI (aI tv0 e7) h8) h8) e10) [(0,0),(1,9)] (slices_DeleteFunc_104.c2p a1 v4 v5 v6 y9) (((slices_DeleteFunc_104.c2_ok k a1 v4 v5 v6 y9).ap e14)) (finP tv0 .normal [(0,0)] (slices_DeleteFunc_104.c1p a1 o13.1 (iadd .i64 v5 (1:Int)) o13.2))) (by kernel_rfl)) ((slices_DeleteFunc_104.c1_ok k a1 n o13.1 (iadd .i64 v5 (1:Int)) o13.2).ap hy)) (fun e7 =>
  oS (loop_exit (slices_DeleteFunc_104.cok k) hmix [fF] [] [(0,0)] (exne 0) (via (finP (aI tv0 e7) (.exit 0) [(0,0)] (slices_DeleteFunc_104.c1q (v4,v6))) (by kernel_rfl)))))
@[irreducible] noncomputable def slices_DeleteFunc_104.P (k:Nat) (a1:(((List Int) × Unit)→Option Bool)) (r0:(List (List Int))) (y:(List (List Int))) (w:List Ans) (c0:List Cmd):Prop:=exec PR (slices_DeleteFunc_104.cx k) slices_DeleteFunc_104.code 1 (entryH (slices_DeleteFunc_104.h k) (a1,r0,())).st w (RetG (slices_DeleteFunc_104.cx k) Tryz.f104 c0 (slices_DeleteFunc_104.h k) (a1,r0,()) y)
theorem slices_DeleteFunc_104.way (k:Nat) (a1:(((List Int) × Unit)→Option Bool)) (r0:(List (List Int))):Owp (slices_DeleteFunc_104 k a1 r0) fun y=>∃ w c0,slices_DeleteFunc_104.P k a1 r0 y w c0:=by
 unfold slices_DeleteFunc_104; exact
  oB fun y1 e2 =>
  oF (fun e3 =>
  oS (⟨[rS T2 y1,tT],[],via (retgP (aI (aI tv0 e2) e3) (some (.row (.arr 2 T2) r0 107))) (by kernel_rfl)⟩)) (fun e3 =>
  oB fun o15 e16 =>
  oR fun h17 =>
  oR fun h18 =>
  oR fun h19 =>
  oS (⟨[rS T2 y1,fF,.cut ⟨[],[(0,0)],(slices_DeleteFunc_104.c1p a1 y1 (iadd .i64 y1 (1:Int)) r0),1,(.exit 0),(slices_DeleteFunc_104.c1q o15),1⟩],[],via (cutP (aI (aI tv0 e2) e3) [(0,0)] (slices_DeleteFunc_104.c1p a1 y1 (iadd .i64 y1 (1:Int)) r0) (((slices_DeleteFunc_104.c1_ok k a1 k y1 (iadd .i64 y1 (1:Int)) r0).ap e16).triple) (retgP (aI (aI (aI tv0 h17) h18) h19) (some (.row (.arr 2 T2) (tk (clr (List.replicate 2 (0:Int)) o15.2 (Int.toNat o15.1)) o15.1) 107)))) (by kernel_rfl)⟩))
theorem slices_DeleteFunc_104.ok (k:Nat):HOk PR 104 (slices_DeleteFunc_104.h k) :=
 fnG_ok (slices_DeleteFunc_104.cok k) hmix Tryz.func104 (code:=slices_DeleteFunc_104.code) (by kernel_rfl) (by kernel_rfl) (by kernel_rfl) (by kernel_rfl) (by kernel_rfl) (by kernel_rfl) (fun x=>Nat.le_of_ble_eq_true (by kernel_rfl)) (fun x=>⟨_,_,_,rfl⟩) fun x y hy=>match (slices_DeleteFunc_104.way k x.1 x.2.1).ap hy with | ⟨ans,c0,h⟩=>⟨ans,c0,via h (by kernel_rfl)⟩
noncomputable def keep_Pairs.code:Code:=Func.cd Tryz.f61
noncomputable def keep_Pairs.c1 (k:Nat) (a0:(List V45)):Nat→Int→(List V133)→Option ((List V133))
 | 0,_,_=>none
 | n+1,v4,v5 =>
  bif' (ilt v4 (len a0))
  (req (inL v4 a0) <|bnd (body_Bounds k (el Z45 a0 v4)) fun y8 =>
  req (room 32 v5 [y8]) <|keep_Pairs.c1 k a0 n (iadd .i64 v4 1) (v5++[y8]))
  (some v5)
noncomputable def keep_Pairs (k:Nat) (a0:(List V45)):Option ((List (List Int)) × Int) :=
 bnd (keep_Check k a0) fun y1 =>
 bif' (ine y1 0)
 (some ([],y1))
 (bnd (keep_Pairs.c1 k a0 k 0 []) fun o11 =>
  bnd (sweep_Pairs k o11) fun y13 =>
  bnd (slices_DeleteFunc_104 k (fun x:((List Int) × Unit)=>keep_Pairs_1 k (x.1) a0) y13) fun y15 =>
  some (y15,0))
noncomputable def keep_Pairs.sp (k:Nat):Go.Sx.Spec:=⟨(.pair (.slice T45) .unit),(.more (.ow (.arr 2 T2) 107) (.one (.dp T2))),fun x=>keep_Pairs k x.1,false⟩
noncomputable def keep_Pairs.cx (k:Nat):Go.Sx.Ctx:=⟨tys,[(13,keep_Check.sp k),(79,body_Bounds.sp k),(80,sweep_Pairs.sp k),(105,keep_Pairs_1.sp k)],eqs,29,0,[(104,slices_DeleteFunc_104.h k)],false⟩
theorem keep_Pairs.cok (k:Nat):CtxOk PR (keep_Pairs.cx k):=ctx_ok tysOk eqsOk (fC (keep_Check.ok k) (fC (body_Bounds.ok k) (fC (sweep_Pairs.ok k) (fC (keep_Pairs_1.ok k) FnsOk.nil)))) (HsOk.cons (slices_DeleteFunc_104.ok k) HsOk.nil)
noncomputable def keep_Pairs.c1p (a0:(List V45)) (v4:Int) (v5:(List V133)):SL:=⟨[(1,(.val .ptr ⟨0,0,(0:Int),0,0⟩)),(5,(.val .own (1:Nat))),(13,(.val (.slice T45) a0)),(14,(.val T2 (len a0))),(15,(.val T2 v4))],[(0,.cells (.slice T45) a0),(1,.row T133 v5 134)]⟩
noncomputable def keep_Pairs.c1q (a0:(List V45)) (o:(List V133)):SL:=(fun v=>⟨[(1,(.val .ptr ⟨0,0,(0:Int),0,0⟩)),(5,(.val .own (1:Nat)))],[(0,.cells (.slice T45) a0),(1,.row T133 v 134)]⟩) o
noncomputable def keep_Pairs.c1x (o:(List V133)):Ex:=(fun _=>(.exit 0)) o
noncomputable def keep_Pairs.c1n (o:(List V133)):Nat:=(fun _=>2) o
theorem keep_Pairs.c1_ok (k:Nat) (a0:(List V45)):∀ (n:Nat) (v4:Int) (v5:(List V133)),Owp (keep_Pairs.c1 k a0 n v4 v5) fun o=>LTriple PR (keep_Pairs.cx k) (sub keep_Pairs.code [1,1,1,0,1,0,0]) 2 (keep_Pairs.c1p a0 v4 v5) (keep_Pairs.c1x o) (keep_Pairs.c1n o) (keep_Pairs.c1q a0 o)
 | 0,_,_=>fun _ h=>nomatch h
 | n+1,v4,v5=>Owp.of (keep_Pairs.c1.eq_2 ..) (
  oF (fun e6 =>
  oR fun h7 =>
  oB fun y8 e9 =>
  oR fun h10 =>
  fun y hy=>loop_back (keep_Pairs.cok k) hmix 2 (keep_Pairs.c1p a0 (iadd .i64 v4 (1:Int)) (v5++[y8])) [tT,rS T133 y8,tT] [] [(0,0),(1,11)] (via (finP (aI (aI (aI (aI tv0 e6) h7) e9) h10) .normal [(0,0),(1,11)] (keep_Pairs.c1p a0 (iadd .i64 v4 (1:Int)) (v5++[y8]))) (by kernel_rfl)) ((keep_Pairs.c1_ok k a0 n (iadd .i64 v4 (1:Int)) (v5++[y8])).ap hy)) (fun e6 =>
  oS (loop_exit (keep_Pairs.cok k) hmix [fF] [] [(0,0),(1,1)] (exne 0) (via (finP (aI tv0 e6) (.exit 0) [(0,0),(1,1)] (keep_Pairs.c1q a0 v5)) (by kernel_rfl)))))
theorem keep_Pairs.way (k:Nat) (a0:(List V45)):Owp (keep_Pairs k a0) fun y=>∃ w c0,exec PR (keep_Pairs.cx k) keep_Pairs.code 0 (entry (.pair (.slice T45) .unit) (a0,())).st w (Ret (keep_Pairs.cx k) Tryz.f61 c0 (.more (.ow (.arr 2 T2) 107) (.one (.dp T2))) y):=by
 unfold keep_Pairs; exact
  oB fun y1 e2 =>
  oF (fun e3 =>
  oS (⟨[rS T2 y1,tT],[.own 2 (.arr 2 T2) 107],via (retP (aI (aI tv0 e2) e3) (.more (.ow (.arr 2 T2) 107) (.one (.dp T2))) (([],y1):((List (List Int)) × Int))) (by kernel_rfl)⟩)) (fun e3 =>
  oB fun o11 e12 =>
  oB fun y13 e14 =>
  oB fun y15 e16 =>
  oS (⟨[rS T2 y1,fF,.cut ⟨[.own 5 T133 134],[(0,0),(1,12)],(keep_Pairs.c1p a0 (0:Int) []),2,(.exit 0),(keep_Pairs.c1q a0 o11),2⟩,.res (.one (.ow (.arr 2 T2) 107)) y13,.hres [(0,3)] (.pair (.fn (.pair (.arr 2 T2) .unit) T4) (.pair (.slice (.arr 2 T2)) .unit)) ((fun x:((List Int) × Unit)=>keep_Pairs_1 k (x.1) a0),y13,()) (.slice (.arr 2 T2)) y15],[],via (cutP (aI (aI tv0 e2) e3) [(0,0),(1,12)] (keep_Pairs.c1p a0 (0:Int) []) (((keep_Pairs.c1_ok k a0 k (0:Int) []).ap e12).triple) (retP (aI (aI tv0 e14) (callHP (slices_DeleteFunc_104.h k) [(0,3)] ((fun x:((List Int) × Unit)=>keep_Pairs_1 k (x.1) a0),y13,()) e16)) (.more (.ow (.arr 2 T2) 107) (.one (.dp T2))) ((y15,(0:Int)):((List (List Int)) × Int)))) (by kernel_rfl)⟩))
theorem keep_Pairs.ok (k:Nat):FnOk PR 61 (keep_Pairs.sp k) :=
 fn_ok (keep_Pairs.cok k) hmix Tryz.func61 (code:=keep_Pairs.code) (by kernel_rfl) (by kernel_rfl) (by kernel_rfl) rfl rfl (by kernel_rfl) (by kernel_rfl) (by kernel_rfl) (fun x=>Nat.le_of_ble_eq_true (by kernel_rfl)) fun x y hy=>(keep_Pairs.way k x.1).ap hy
noncomputable def keep_Carry.code:Code:=Func.cd Tryz.f63
noncomputable def keep_Carry.c1 (k:Nat) (y1:(List V102)):Nat→Option (Unit)
 | 0=>none
 | n+1 =>
  bif' (ilt 0 (len y1))
  (req (inL 0 y1) <|req (inL 0 (st y1 0 ((el Z102 y1 0).1,(el Z102 y1 0).2.1,(el Z102 y1 0).2.2.1,(el Z102 y1 0).2.2.2.1,(el Z102 y1 0).2.2.2.2.1,(el Z102 y1 0).2.2.2.2.2.1,0,(el Z102 y1 0).2.2.2.2.2.2.2))) <|none)
  (some ())
noncomputable def keep_Carry (k:Nat) (a0 a1:(List V102)):Option (List V102) :=
 bnd (slices_Clone_72 k a1) fun y1 =>
 bnd (keep_Carry.c1 k y1 k) fun o6 =>
 some y1
noncomputable def keep_Carry.sp (k:Nat):Go.Sx.Spec:=⟨(.pair (.slice T102) (.pair (.slice T102) .unit)),(.one (.ow T102 103)),fun x=>keep_Carry k x.1 x.2.1,false⟩
noncomputable def keep_Carry.cx (k:Nat):Go.Sx.Ctx:=⟨tys,[(72,slices_Clone_72.sp k)],eqs,48,0,[],true⟩
theorem keep_Carry.cok (k:Nat):CtxOk PR (keep_Carry.cx k):=ctx_ok tysOk eqsOk (fC (slices_Clone_72.ok k) FnsOk.nil) HsOk.nil
noncomputable def keep_Carry.c1p (a0 y1:(List V102)):SL:=⟨[(0,(.val (.slice T102) a0)),(5,(.val .ptr ⟨0,0,(0:Int),0,0⟩)),(11,(.val T2 (len y1))),(12,(.val T2 (0:Int)))],[(0,.cells .own (1:Nat)),(1,.row T102 y1 103)]⟩
noncomputable def keep_Carry.c1q (y1:(List V102)) (o:Unit):SL:=(fun v=>⟨[(5,(.val .ptr ⟨0,0,(0:Int),0,0⟩))],[(0,.cells .own (1:Nat)),(1,.row T102 y1 103)]⟩) o
noncomputable def keep_Carry.c1x (o:Unit):Ex:=(fun _=>(.exit 0)) o
noncomputable def keep_Carry.c1n (o:Unit):Nat:=(fun _=>2) o
theorem keep_Carry.c1_ok (k:Nat) (a0 y1:(List V102)):∀ (n:Nat),Owp (keep_Carry.c1 k y1 n) fun o=>LTriple PR (keep_Carry.cx k) (sub keep_Carry.code [1,1,0,1,0,0]) 2 (keep_Carry.c1p a0 y1) (keep_Carry.c1x o) (keep_Carry.c1n o) (keep_Carry.c1q y1 o)
 | 0=>fun _ h=>nomatch h
 | n+1=>Owp.of (keep_Carry.c1.eq_2 ..) (
  oF (fun e3 =>
  oR fun h4 =>
  oR fun h5 =>
  Owp.none) (fun e3 =>
  oS (loop_exit (keep_Carry.cok k) hmix [fF] [] [(0,0),(1,1)] (exne 0) (via (finP (aI tv0 e3) (.exit 0) [(0,0),(1,1)] (keep_Carry.c1q y1 ())) (by kernel_rfl)))))
theorem keep_Carry.way (k:Nat) (a0 a1:(List V102)):Owp (keep_Carry k a0 a1) fun y=>∃ w c0,exec PR (keep_Carry.cx k) keep_Carry.code 0 (entry (.pair (.slice T102) (.pair (.slice T102) .unit)) (a0,a1,())).st w (Ret (keep_Carry.cx k) Tryz.f63 c0 (.one (.ow T102 103)) y):=by
 unfold keep_Carry; exact
  oB fun y1 e2 =>
  oB fun o6 e7 =>
  oS (⟨[.res (.one (.ow T102 103)) y1,.cut ⟨[],[(0,3),(1,2)],(keep_Carry.c1p a0 y1),2,(.exit 0),(keep_Carry.c1q y1 ()),2⟩],[],via (cutP (aI tv0 e2) [(0,3),(1,2)] (keep_Carry.c1p a0 y1) (((keep_Carry.c1_ok k a0 y1 k).ap e7).triple) (retP tv0 (.one (.ow T102 103)) (y1:(List V102)))) (by kernel_rfl)⟩)
theorem keep_Carry.ok (k:Nat):FnOk PR 63 (keep_Carry.sp k) :=
 fn_ok (keep_Carry.cok k) hmix Tryz.func63 (code:=keep_Carry.code) (by kernel_rfl) (by kernel_rfl) (by kernel_rfl) rfl rfl (by kernel_rfl) (by kernel_rfl) (by kernel_rfl) (fun x=>Nat.le_of_ble_eq_true (by kernel_rfl)) fun x y hy=>(keep_Carry.way k x.1 x.2.1).ap hy
noncomputable def keep_Find.code:Code:=Func.cd Tryz.f38
noncomputable def keep_Find.c1 (k:Nat) (a0:(List V45)) (y1:((List (List Int)) × Int)):Nat→Option (Unit)
 | 0=>none
 | n+1 =>
  bif' (ilt 0 (len y1.1))
  (req (inL 0 y1.1) <|req (inL (el 0 (el (List.replicate 2 0) y1.1 0) 0) a0) <|none)
  (some ())
noncomputable def keep_Find (k:Nat) (a0:(List V45)) (a1:(List V102)):Option ((List V102) × Int) :=
 bnd (keep_Pairs k a0) fun y1 =>
 bif' (ine y1.2 0)
 (some ([],y1.2))
 (bnd (keep_Find.c1 k a0 y1 k) fun o7 =>
  bnd (keep_Carry k a1 []) fun y9 =>
  some (y9,0))
noncomputable def keep_Find.sp (k:Nat):Go.Sx.Spec:=⟨(.pair (.slice T45) (.pair (.slice T102) .unit)),(.more (.ow T102 103) (.one (.dp T2))),fun x=>keep_Find k x.1 x.2.1,false⟩
noncomputable def keep_Find.cx (k:Nat):Go.Sx.Ctx:=⟨tys,[(61,keep_Pairs.sp k),(63,keep_Carry.sp k)],eqs,66,0,[],false⟩
theorem keep_Find.cok (k:Nat):CtxOk PR (keep_Find.cx k):=ctx_ok tysOk eqsOk (fC (keep_Pairs.ok k) (fC (keep_Carry.ok k) FnsOk.nil)) HsOk.nil
noncomputable def keep_Find.c1p (a0:(List V45)) (a1:(List V102)) (y1:((List (List Int)) × Int)):SL:=⟨[(0,(.val (.slice T45) a0)),(1,(.val (.slice T102) a1)),(8,.nil),(21,(.val .own (0:Nat))),(22,(.val T2 (len y1.1))),(23,(.val T2 (0:Int)))],[(0,.row (.arr 2 T2) y1.1 107)]⟩
noncomputable def keep_Find.c1q (a1:(List V102)) (o:Unit):SL:=(fun v=>⟨[(1,(.val (.slice T102) a1)),(8,.nil)],[]⟩) o
noncomputable def keep_Find.c1x (o:Unit):Ex:=(fun _=>(.exit 0)) o
noncomputable def keep_Find.c1n (o:Unit):Nat:=(fun _=>0) o
theorem keep_Find.c1_ok (k:Nat) (a0:(List V45)) (a1:(List V102)) (y1:((List (List Int)) × Int)):∀ (n:Nat),Owp (keep_Find.c1 k a0 y1 n) fun o=>LTriple PR (keep_Find.cx k) (sub keep_Find.code [1,1,1,1,0,1,0,0]) 1 (keep_Find.c1p a0 a1 y1) (keep_Find.c1x o) (keep_Find.c1n o) (keep_Find.c1q a1 o)
 | 0=>fun _ h=>nomatch h
 | n+1=>Owp.of (keep_Find.c1.eq_2 ..) (
  oF (fun e4 =>
  oR fun h5 =>
  oR fun h6 =>
  Owp.none) (fun e4 =>
  oS (loop_exit (keep_Find.cok k) hmix [fF] [] [] (exne 0) (via (finP (aI tv0 e4) (.exit 0) [] (keep_Find.c1q a1 ())) (by kernel_rfl)))))
theorem keep_Find.way (k:Nat) (a0:(List V45)) (a1:(List V102)):Owp (keep_Find k a0 a1) fun y=>∃ w c0,exec PR (keep_Find.cx k) keep_Find.code 0 (entry (.pair (.slice T45) (.pair (.slice T102) .unit)) (a0,a1,())).st w (Ret (keep_Find.cx k) Tryz.f38 c0 (.more (.ow T102 103) (.one (.dp T2))) y):=by
 unfold keep_Find; exact
  oB fun y1 e2 =>
  oF (fun e3 =>
  oS (⟨[.res (.more (.ow (.arr 2 T2) 107) (.one (.dp T2))) y1,tT],[.own 4 T102 103],via (retP (aI (aI tv0 e2) e3) (.more (.ow T102 103) (.one (.dp T2))) (([],y1.2):((List V102) × Int))) (by kernel_rfl)⟩)) (fun e3 =>
  oB fun o7 e8 =>
  oB fun y9 e10 =>
  oS (⟨[.res (.more (.ow (.arr 2 T2) 107) (.one (.dp T2))) y1,fF,.cut ⟨[],[(0,3)],(keep_Find.c1p a0 a1 y1),1,(.exit 0),(keep_Find.c1q a1 ()),0⟩,.res (.one (.ow T102 103)) y9],[],via (cutP (aI (aI tv0 e2) e3) [(0,3)] (keep_Find.c1p a0 a1 y1) (((keep_Find.c1_ok k a0 a1 y1 k).ap e8).triple) (retP (aI tv0 e10) (.more (.ow T102 103) (.one (.dp T2))) ((y9,(0:Int)):((List V102) × Int)))) (by kernel_rfl)⟩))
theorem keep_Find.ok (k:Nat):FnOk PR 38 (keep_Find.sp k) :=
 fn_ok (keep_Find.cok k) hmix Tryz.func38 (code:=keep_Find.code) (by kernel_rfl) (by kernel_rfl) (by kernel_rfl) rfl rfl (by kernel_rfl) (by kernel_rfl) (by kernel_rfl) (fun x=>Nat.le_of_ble_eq_true (by kernel_rfl)) fun x y hy=>(keep_Find.way k x.1 x.2.1).ap hy
end Go.Proofs.T1
